/- Texts joined: RgL IcL Fc Parse. -/
import Derived.Test.YtfcpkegmdlchhaaGreatJ09
import Derived.Test.YtfcpkegmdlchhaaGreatJ06
import Derived.Test.YtfcpkegmdlchhaaGreatJ07
import Derived.Test.YtfcpkegmdlchhaaGreatJ08
set_option maxRecDepth 10000
set_option maxHeartbeats 8000000
namespace Go.Proofs.YtfcpkegmdlchhaaGreat
open Go.RowKit
section
theorem rgs_Same (l m:List Rg) (hl:l.length ≤ 1000000000):Fn Tryz.prog 53 [rgsB l,rgsB m] (boR (decide (l = m))):=by
 refine fi Tryz.func53 Tryz.ntmps53 ?_
 (repeat' (first|refine AW_seq ?_|refine AW_block ?_|refine AW_skip ?_|refine AW_exit ?_|refine AW_ret ?_|refine AW_region ?_|refine AW_draw mixed0 ?_|refine AL_nil ?_|refine AD_nil (by kernel_rfl) ?_|refine thenA_n ?_|refine thenA_r ?_|refine thenA_e ?_|refine inB_n ?_|refine inB_r ?_|refine inB_hit ?_|refine inB_miss rfl ?_|(refine AW_cond_per rfl rfl (fun hc=>?_) (fun hc=>?_) <;> (try rw [Bool.not_eq_true'] at hc) <;> (try rw [Bool.not_eq_false'] at hc) <;> (try first|rw [decide_eq_true_eq] at hc|rw [decide_eq_false_iff_not] at hc|rw [beq_iff_eq] at hc|rw [beq_eq_false_iff_ne] at hc|rw [bne_iff_ne] at hc|rw [bne_eq_false_iff_eq] at hc) <;> (repeat rw [List.length_map] at hc) <;> (try first|contradiction|(exfalso;omega)|(exfalso;simp [*] at hc;done)))|((first|apply AL_t rfl|apply AL_0 rfl|apply AD_t rfl|apply AD_0 rfl);focus (first|exact o_auto))))
 · refine rt1 ?_
   exact rv_bool rfl (by symm;rw [decide_eq_false_iff_not];intro h;subst h;omega)
 have hlm:l.length = m.length:=by omega
 refine AW_loopP (fun k=>k ≤ l.length ∧ l.take k = m.take k) (fun k=>mkSt [(0,rgsB l),(1,rgsB m),(4,bC false),(5,iC .i64 (k:Nat))] []) (fun k=>l.length - k) 0 ⟨Nat.zero_le _,rfl⟩ ?_ ?_
 · exact le_auto
 · rintro k ⟨hk,hpre⟩
   by_cases hlt:k < l.length
   · have hltm:k < m.length:=by omega
     (repeat' (first|refine AW_seq ?_|refine AW_block ?_|refine AW_skip ?_|refine AW_exit ?_|refine AW_ret ?_|refine AW_region ?_|refine AW_draw mixed0 ?_|refine AL_nil ?_|refine AD_nil (by kernel_rfl) ?_|refine thenA_n ?_|refine thenA_r ?_|refine thenA_e ?_|refine inB_n ?_|refine inB_r ?_|refine inB_hit ?_|refine inB_miss rfl ?_|(refine AW_cond_per rfl rfl (fun hc=>?_) (fun hc=>?_) <;> (try rw [Bool.not_eq_true'] at hc) <;> (try rw [Bool.not_eq_false'] at hc) <;> (try first|rw [decide_eq_true_eq] at hc|rw [decide_eq_false_iff_not] at hc|rw [beq_iff_eq] at hc|rw [beq_eq_false_iff_ne] at hc|rw [bne_iff_ne] at hc|rw [bne_eq_false_iff_eq] at hc) <;> (repeat rw [List.length_map] at hc) <;> (try first|contradiction|(exfalso;omega)|(exfalso;simp [*] at hc;done)))|((first|apply AL_t rfl|apply AL_0 rfl|apply AD_t rfl|apply AD_0 rfl);focus (first|exact o_auto|(exact op_eqA (us:=encRg l[k]) (vs:=encRg m[k]) ⟨rfl,rfl,rfl⟩ rfl rfl rfl (.inr ⟨rfl,rfl⟩) rgG rfl (rgE_o l[k] m[k]))))))
     · refine rt1 ?_
       exact rv_bool rfl (by symm;rw [decide_eq_false_iff_not];intro h;subst h;simp [(rgE_iff l[k] l[k]).2 rfl] at *)
     · refine ⟨k + 1,⟨by omega,?_⟩,by omega,?_⟩
       · rw [take_snoc' l k hlt,take_snoc' m k hltm,hpre,(rgE_iff l[k] m[k]).1 (by simpa using hc)]
       · exact le_auto
   · (repeat' (first|refine AW_seq ?_|refine AW_block ?_|refine AW_skip ?_|refine AW_exit ?_|refine AW_ret ?_|refine AW_region ?_|refine AW_draw mixed0 ?_|refine AL_nil ?_|refine AD_nil (by kernel_rfl) ?_|refine thenA_n ?_|refine thenA_r ?_|refine thenA_e ?_|refine inB_n ?_|refine inB_r ?_|refine inB_hit ?_|refine inB_miss rfl ?_|(refine AW_cond_per rfl rfl (fun hc=>?_) (fun hc=>?_) <;> (try rw [Bool.not_eq_true'] at hc) <;> (try rw [Bool.not_eq_false'] at hc) <;> (try first|rw [decide_eq_true_eq] at hc|rw [decide_eq_false_iff_not] at hc|rw [beq_iff_eq] at hc|rw [beq_eq_false_iff_ne] at hc|rw [bne_iff_ne] at hc|rw [bne_eq_false_iff_eq] at hc) <;> (repeat rw [List.length_map] at hc) <;> (try first|contradiction|(exfalso;omega)|(exfalso;simp [*] at hc;done)))|((first|apply AL_t rfl|apply AL_0 rfl|apply AD_t rfl|apply AD_0 rfl);focus (first|exact o_auto))))
     refine rt1 ?_
     exact rv_bool rfl (by symm;rw [decide_eq_true_eq,← List.take_of_length_le (show l.length ≤ k by omega),hpre,List.take_of_length_le (by omega)])
def rgLg (x:Rg):Bool:=decide (x.lo.size > 40) || decide (x.hi.size > 40)
def longRgs (l:List Rg) (most:Int):Bool:=decide ((l.length:Int) > most) || l.any rgLg
theorem rgs_Long (l:List Rg) (most:Int) (hl:most ≤ 1000000000000):Fn Tryz.prog 23 [rgsB l,iC .i64 most] (boR (longRgs l most)):=by
 refine fi Tryz.func23 Tryz.ntmps23 ?_
 (repeat' (first|refine AW_seq ?_|refine AW_block ?_|refine AW_skip ?_|refine AW_exit ?_|refine AW_ret ?_|refine AW_region ?_|refine AW_draw mixed0 ?_|refine AL_nil ?_|refine AD_nil (by kernel_rfl) ?_|refine thenA_n ?_|refine thenA_r ?_|refine thenA_e ?_|refine inB_n ?_|refine inB_r ?_|refine inB_hit ?_|refine inB_miss rfl ?_|(refine AW_cond_per rfl rfl (fun hc=>?_) (fun hc=>?_) <;> (try rw [Bool.not_eq_true'] at hc) <;> (try rw [Bool.not_eq_false'] at hc) <;> (try first|rw [decide_eq_true_eq] at hc|rw [decide_eq_false_iff_not] at hc|rw [beq_iff_eq] at hc|rw [beq_eq_false_iff_ne] at hc|rw [bne_iff_ne] at hc|rw [bne_eq_false_iff_eq] at hc) <;> (repeat rw [List.length_map] at hc) <;> (try first|contradiction|(exfalso;omega)|(exfalso;simp [*] at hc;done)))|((first|apply AL_t rfl|apply AL_0 rfl|apply AD_t rfl|apply AD_0 rfl);focus (first|exact o_auto))))
 · refine rt1 ?_
   exact rv_bool rfl (by unfold longRgs;rw [decide_eq_true hc];rfl)
 refine AW_loopP (fun k=>k ≤ l.length ∧ (l.take k).any rgLg = false) (fun k=>mkSt [(0,rgsB l),(1,iC .i64 most),(4,bC false),(5,iC .i64 (k:Nat))] []) (fun k=>l.length - k) 0 ⟨Nat.zero_le _,by simp⟩ ?_ ?_
 · exact le_auto
 · rintro k ⟨hk,hpre⟩
   by_cases hlt:k < l.length
   · have hsn:(l.take (k + 1)).any rgLg = ((l.take k).any rgLg || rgLg l[k]):=by rw [take_snoc' l k hlt,List.any_append];simp
     (repeat' (first|refine AW_seq ?_|refine AW_block ?_|refine AW_skip ?_|refine AW_exit ?_|refine AW_ret ?_|refine AW_region ?_|refine AW_draw mixed0 ?_|refine AL_nil ?_|refine AD_nil (by kernel_rfl) ?_|refine thenA_n ?_|refine thenA_r ?_|refine thenA_e ?_|refine inB_n ?_|refine inB_r ?_|refine inB_hit ?_|refine inB_miss rfl ?_|(refine AW_cond_per rfl rfl (fun hc=>?_) (fun hc=>?_) <;> (try rw [Bool.not_eq_true'] at hc) <;> (try rw [Bool.not_eq_false'] at hc) <;> (try first|rw [decide_eq_true_eq] at hc|rw [decide_eq_false_iff_not] at hc|rw [beq_iff_eq] at hc|rw [beq_eq_false_iff_ne] at hc|rw [bne_iff_ne] at hc|rw [bne_eq_false_iff_eq] at hc) <;> (repeat rw [List.length_map] at hc) <;> (try first|contradiction|(exfalso;omega)|(exfalso;simp [*] at hc;done)))|((first|apply AL_t rfl|apply AL_0 rfl|apply AD_t rfl|apply AD_0 rfl);focus (first|exact o_auto))))
     · refine rt1 ?_
       exact rv_bool rfl (by symm;unfold longRgs;rw [Bool.or_eq_true,List.any_eq_true];refine .inr ⟨l[k],List.getElem_mem hlt,?_⟩;grind [rgLg])
     · refine ⟨k + 1,⟨by omega,?_⟩,by omega,?_⟩
       · rw [hsn,hpre];grind [rgLg]
       · exact le_auto
   · (repeat' (first|refine AW_seq ?_|refine AW_block ?_|refine AW_skip ?_|refine AW_exit ?_|refine AW_ret ?_|refine AW_region ?_|refine AW_draw mixed0 ?_|refine AL_nil ?_|refine AD_nil (by kernel_rfl) ?_|refine thenA_n ?_|refine thenA_r ?_|refine thenA_e ?_|refine inB_n ?_|refine inB_r ?_|refine inB_hit ?_|refine inB_miss rfl ?_|(refine AW_cond_per rfl rfl (fun hc=>?_) (fun hc=>?_) <;> (try rw [Bool.not_eq_true'] at hc) <;> (try rw [Bool.not_eq_false'] at hc) <;> (try first|rw [decide_eq_true_eq] at hc|rw [decide_eq_false_iff_not] at hc|rw [beq_iff_eq] at hc|rw [beq_eq_false_iff_ne] at hc|rw [bne_iff_ne] at hc|rw [bne_eq_false_iff_eq] at hc) <;> (repeat rw [List.length_map] at hc) <;> (try first|contradiction|(exfalso;omega)|(exfalso;simp [*] at hc;done)))|((first|apply AL_t rfl|apply AL_0 rfl|apply AD_t rfl|apply AD_0 rfl);focus (first|exact o_auto))))
     refine rt1 ?_
     have e:l.take k = l:=List.take_of_length_le (by omega)
     rw [e] at hpre
     exact rv_bool rfl (by symm;unfold longRgs;rw [hpre,Bool.or_false,decide_eq_false_iff_not];assumption)
end
def s0:ByteArray:=⟨#[]⟩
/-- a text behind its first n bytes -/
def cutS (s:ByteArray) (n:Nat):ByteArray:=s.extract n s.size
/-- items, one behind the other -/
def itemsT (was:ByteArray):List It → List UInt8
 | []=>[]
 | x :: r=>numI (alike was x.key:Nat) ++ (textB (cutS x.key (alike was x.key)) ++ (restB x ++ itemsT x.key r))
def itemsB (l:List It):List UInt8:=numI (l.length:Nat) ++ itemsT s0 l
theorem cutS_size (s:ByteArray) (n:Nat):(cutS s n).size = s.size - n:=by unfold cutS;simp
theorem restB_len {x:It} (h:itR x = true):(restB x).length ≤ 110:=by
 obtain ⟨h1,h2,h3,h4⟩:=itR_nums h
 have h5:=nums_len _ h1
 have h6:=textB_len x.body (by omega)
 have h8:(restNums x).length = 5:=rfl
 simp only [restB,List.length_append];omega
theorem drop_cons {α:Type} (l:List α) (k:Nat) (h:k < l.length):l.drop k = l[k] :: l.drop (k + 1):=List.drop_eq_getElem_cons h
section
theorem icode_Items (l:List It) (hl:l.length ≤ 4096):Fn Tryz.prog 82 [itsB l] (.tup2 (ownB (if l.all itR then itemsB l else [])) (inR (if l.all itR then 0 else 2))):=by
 have hp0:=icode_put [] [(l.length:Int)] (by simp) (fun n hn=>by simp at hn;subst hn;unfold okNum;omega)
 refine fi Tryz.func82 Tryz.ntmps82 ?_
 (have kc1:=hp0;refine w0 ?_;(repeat' first|refine W2.mk ?_ ?_|refine W1.mk fun hc=>?_);all_goals clear kc1)
 refine AW_le (Le_mv 15 600) ?_
 refine AW_loopP (X:=Nat × List UInt8 × ByteArray) (fun x=>x.1 ≤ l.length ∧ (l.take x.1).all itR = true ∧ x.2.2.size ≤ 16 ∧ x.2.1.length ≤ 10 + 200 * x.1 ∧ x.2.1 ++ itemsT x.2.2 (l.drop x.1) = itemsB l)
   (fun x=>mkSt [(4,.row 600 0),(5,sC x.2.2),(16,itsB l),(17,iC .i64 (l.length:Nat)),(18,iC .i64 (x.1:Nat))] [(600,.row 5 1 (x.2.1.map byteP))]) (fun x=>l.length - x.1) (0,[(l.length:Int)].flatMap numI,s0) ⟨Nat.zero_le _,rfl,(by decide:s0.size ≤ 16),?_,?_⟩ ?_ ?_
 · have:=numI_len (l.length:Int) (by omega)
   simp;omega
 · simp [itemsB]
 · exact le_auto
 · rintro ⟨k,acc,was⟩ ⟨hk,hall,hws,hlen,hR⟩
   simp only at hk hall hws hlen hR ⊢
   by_cases hlt:k < l.length
   · cases hr:itR l[k] with
     | false=>
       have hno:l.all itR = false:=by
         rw [← Bool.not_eq_true]
         intro h
         rw [List.all_eq_true] at h
         rw [h _ (List.getElem_mem hlt)] at hr;cases hr
       rw [hno]
       have h1:=item_Right l[k]
       rw [hr] at h1
       (have kc1:=h1;refine w0 ?_;(repeat' first|refine W2.mk ?_ ?_|refine W1.mk fun hc=>?_);all_goals clear kc1)
       refine rt2 ?_ ?_
       · exact rv_nil rfl
       · exact rv_int rfl rfl
     | true=>
       have h1:=item_Right l[k]
       rw [hr] at h1
       have hks:=itR_nums hr
       have hal:=alike_le was l[k].key
       have h2:=key_Common was l[k].key (by omega)
       have hnn:(was.extract 0 (alike was l[k].key)).size = alike was l[k].key:=by simp;omega
       generalize hcm:was.extract 0 (alike was l[k].key) = cm at *
       have h3:=icode_put acc [(cm.size:Int)] (by simp;omega) (fun n hn=>by simp at hn;subst hn;unfold okNum;omega)
       have h4:=varint_Text (acc ++ [(cm.size:Int)].flatMap numI) [cutS l[k].key cm.size] (by
         have:=numI_len (cm.size:Int) (by omega)
         have:=textB_len (cutS l[k].key cm.size) (by rw [cutS_size];omega)
         rw [cutS_size] at this
         simp;omega)
       have h5:=icode_rest (acc ++ [(cm.size:Int)].flatMap numI ++ [cutS l[k].key cm.size].flatMap textB) l[k] hr (by
         have:=numI_len (cm.size:Int) (by omega)
         have:=textB_len (cutS l[k].key cm.size) (by rw [cutS_size];omega)
         rw [cutS_size] at this
         simp;omega)
       (have kc1:=h1;have kc2:=h2;have kc3:=h3;have kc4:=h4;have kc5:=h5;refine w0 ?_;(repeat' first|refine W2.mk ?_ ?_|refine W1.mk fun hc=>?_);all_goals clear kc5 kc4 kc3 kc2 kc1)
       refine ⟨(k + 1,acc ++ [(cm.size:Int)].flatMap numI ++ [cutS l[k].key cm.size].flatMap textB ++ restB l[k],l[k].key),⟨by simp only;omega,?_,by simp only;omega,?_,?_⟩,by simp only;omega,Le_trans (Le_mv 42 600) ?_⟩
       · simp only
         rw [take_snoc' l k hlt,List.all_append,hall];simp [hr]
       · have q1:=numI_len (cm.size:Int) (by omega)
         have q2:=textB_len (cutS l[k].key cm.size) (by rw [cutS_size];omega)
         have q3:=restB_len hr
         rw [cutS_size] at q2
         simp;omega
       · simp only
         rw [← hR,drop_cons l k hlt,itemsT,← hnn]
         simp [List.append_assoc]
       · exact le_auto
   · have hkl:k = l.length:=by omega
     subst hkl
     rw [List.drop_length,itemsT,List.append_nil] at hR
     rw [List.take_length] at hall
     rw [hall]
     (refine w0 ?_;(repeat' first|refine W2.mk ?_ ?_|refine W1.mk fun hc=>?_))
     refine rt2 ?_ ?_
     · exact rv_ownM rfl rfl rfl hR
     · exact rv_int rfl rfl
theorem ref_Bytes (n:Int) (h:okNum n):Fn Tryz.prog 63 [iC .i64 n] (ownB (numI n)):=by
 refine ⟨⟨_,Tryz.func63,by kernel_rfl,by kernel_rfl⟩,fun N0 w vs _ ha=>?_⟩
 obtain ⟨v,rfl,h1⟩:=args1 ha
 obtain rfl:v = .int .i64 n:=h1
 obtain ⟨h0,h2⟩:=h
 obtain ⟨m,rfl⟩:=Int.eq_ofNat_of_zero_le h0
 refine Calls.mono (refBytes_any m m w (Nat.le_refl _) (by omega)) ?_
 rintro e w' ⟨v',rfl,h⟩
 exact ⟨_,rfl,h.ext,sl_own encB_ok h⟩
theorem byte_one {n:Nat} (h:n < 128):[[rawP (.int .u8 (IntKind.u8.wrap (n:Int)))]] = (numI (n:Int)).map byteP:=by
 have e:IntKind.u8.wrap (n:Int) = n:=by
   unfold IntKind.wrap
   simp [IntKind.bits,IntKind.signed]
   omega
 unfold numI
 rw [Int.toNat_natCast,numB_lt h,e]
 show [[rawP (.int .u8 (n:Int))]] = [[rawP (.int .u8 ((UInt8.ofNat n).toNat:Int))]]
 rw [UInt8.toNat_ofNat',Nat.mod_eq_of_lt (by omega)]
theorem ref_Items (l:List It) (hl:l.length ≤ 4096) (hall:l.all itR = true):Fn Tryz.prog 51 [itsB l] (ownB (itemsB l)):=by
 have hp0:=ref_Bytes (l.length:Int) (by unfold okNum;omega)
 rw [List.all_eq_true] at hall
 refine fi Tryz.func51 Tryz.ntmps51 ?_
 (have kc1:=hp0;refine w0 ?_;(repeat' first|refine W2.mk ?_ ?_|refine W1.mk fun hc=>?_);all_goals clear kc1)
 refine AW_le (Le_mv 9 600) ?_
 refine AW_loopP (X:=Nat × List UInt8 × ByteArray) (fun x=>x.1 ≤ l.length ∧ x.2.2.size ≤ 16 ∧ x.2.1.length ≤ 10 + 200 * x.1 ∧ x.2.1 ++ itemsT x.2.2 (l.drop x.1) = itemsB l)
   (fun x=>mkSt [(0,itsB l),(3,.row 600 0),(4,sC x.2.2),(5,iC .i64 (x.1:Nat))] [(600,.row 5 1 (x.2.1.map byteP))]) (fun x=>l.length - x.1) (0,numI (l.length:Nat),s0) ⟨Nat.zero_le _,(by decide:s0.size ≤ 16),?_,?_⟩ ?_ ?_
 · have:=numI_len (l.length:Int) (by omega)
   simp only;omega
 · simp [itemsB]
 · exact le_auto
 · rintro ⟨k,acc,was⟩ ⟨hk,hws,hlen,hR⟩
   simp only at hk hws hlen hR ⊢
   by_cases hlt:k < l.length
   · have hr:=hall _ (List.getElem_mem hlt)
     have hks:=itR_nums hr
     have hal:=alike_le was l[k].key
     have h2:=ref_Alike was l[k].key (by omega)
     have h3:=ref_Text (cutS l[k].key (alike was l[k].key)) (by rw [cutS_size];omega)
     have h4:=ref_rest l[k] hr
     have q2:=textB_len (cutS l[k].key (alike was l[k].key)) (by rw [cutS_size];omega)
     have q3:=restB_len hr
     rw [cutS_size] at q2
     (have kc1:=h2;have kc2:=h3;have kc3:=h4;refine w0 ?_;(repeat' first|refine W2.mk ?_ ?_|refine W1.mk fun hc=>?_);all_goals clear kc3 kc2 kc1)
     have hb1:=byte_one (n:=alike was l[k].key) (by omega)
     have q1:=numI_len ((alike was l[k].key:Nat):Int) (by omega)
     refine ⟨(k + 1,acc ++ numI (alike was l[k].key:Nat) ++ textB (cutS l[k].key (alike was l[k].key)) ++ restB l[k],l[k].key),⟨by simp only;omega,by simp only;omega,by simp;omega,?_⟩,by simp only;omega,?_⟩
     · simp only
       rw [← hR,drop_cons l k hlt,itemsT]
       simp [List.append_assoc]
     · (refine Le_mk ?_ ?_;(focus ((repeat (first|exact AllG.nil|(refine AllG.cons ?_ ?_;rotate_left)));(all_goals try (first|rfl|(refine eqI ?_;first|omega|(simp;done)|(simp;omega))|(refine eqBo ?_;first|(simp;done)|(simp [*];done))))));(focus ((repeat (first|exact AllB.nil|(refine AllB.cons ?_ ?_;rotate_left)));(all_goals try (first|rfl|(refine eqRw ?_;(rw [List.map_append] <;> rfl);done)|(refine eqMix ?_;(rw [List.map_append] <;> rfl);done))))))
       · show Blk.row _ _ (((acc.map byteP ++ [[rawP (.int .u8 (IntKind.u8.wrap ((alike was l[k].key:Nat):Int)))]]) ++ _) ++ _) = _
         rw [hb1,← List.map_append,← List.map_append,← List.map_append]
   · have hkl:k = l.length:=by omega
     subst hkl
     rw [List.drop_length,itemsT,List.append_nil] at hR
     (refine w0 ?_;(repeat' first|refine W2.mk ?_ ?_|refine W1.mk fun hc=>?_))
     refine rt1 ?_
     exact rv_ownM rfl rfl rfl hR
end
def rgB (r:Rg):List UInt8:=textB r.lo ++ (if r.op = true then numI 1 else numI 0 ++ textB r.hi)
def rgsBy (l:List Rg):List UInt8:=numI (l.length:Nat) ++ l.flatMap rgB
theorem numI_one {n:Int} (h0:0 ≤ n) (h:n < 128):(numI n).length = 1:=by
 unfold numI;rw [numB_lt (by omega)];rfl
theorem rgB_len {r:Rg} (h:rgR r = true):(rgB r).length ≤ 40:=by
 obtain ⟨h1,h2,_⟩:=(rgR_iff r).1 h
 have q1:=textB_len r.lo (by omega)
 have q2:=textB_len r.hi (by omega)
 have q3:=numI_one (n:=0) (by omega) (by omega)
 have q4:=numI_one (n:=1) (by omega) (by omega)
 unfold rgB
 split <;> simp <;> omega
theorem rgsOk_R {l:List Rg} (h:rgsOk l) {i:Nat} (hi:i < l.length):rgR l[i] = true:=(h i hi).1
section
theorem fcode_put (l:List UInt8) (ns:List Int) (hb:l.length + 9 * ns.length ≤ 1000000000000) (hok:∀ n ∈ ns,okNum n):Fn Tryz.prog 131 [bytesB l,intsB ns] (ownB (l ++ ns.flatMap numI)):=by
 have h:=varint_Put l ns hb hok
 refine fi Tryz.func131 Tryz.ntmps131 ?_
 (have kc1:=h;refine w0 ?_;(repeat' first|refine W2.mk ?_ ?_|refine W1.mk fun hc=>?_);all_goals clear kc1)
 refine rt1 ?_
 exact rv_own rfl rfl rfl
theorem numI_0:(numI 0).map byteP = [[rawP (.int .u8 0)]]:=by unfold numI;rw [numB_lt (by decide)];rfl
theorem numI_1:(numI 1).map byteP = [[rawP (.int .u8 1)]]:=by unfold numI;rw [numB_lt (by decide)];rfl
theorem ok_small {n:Int} (h0:0 ≤ n) (h:n ≤ 1000000):∀ m ∈ [n],okNum m:=fun m hm=>by simp at hm;subst hm;unfold okNum;omega
theorem fcode_Ranges (l:List Rg) (hl:l.length ≤ 4096) (b:Bool) (hb:b = true ↔ rgsOk l):Fn Tryz.prog 81 [rgsB l] (.tup2 (ownB (if b then rgsBy l else [])) (inR (if b then 0 else 2))):=by
 have h0:=rgs_Right l (by omega) b hb
 cases b with
 | false=>
   show Fn _ _ _ (.tup2 (ownB []) (inR 2))
   clear hb
   refine fi Tryz.func81 Tryz.ntmps81 ?_
   (have kc1:=h0;refine w0 ?_;(repeat' first|refine W2.mk ?_ ?_|refine W1.mk fun hc=>?_);all_goals clear kc1)
   all_goals refine rt2 ?_ ?_
   all_goals first|exact rv_nil rfl|exact rv_int rfl rfl
 | true=>
   show Fn _ _ _ (.tup2 (ownB (rgsBy l)) (inR 0))
   have hok:=hb.1 rfl
   clear hb
   have hp0:=fcode_put [] [(l.length:Int)] (by simp) (ok_small (by omega) (by omega))
   have hn0:=numI_len (l.length:Int) (by omega)
   refine fi Tryz.func81 Tryz.ntmps81 ?_
   (have kc1:=h0;have kc2:=hp0;refine w0 ?_;(repeat' first|refine W2.mk ?_ ?_|refine W1.mk fun hc=>?_);all_goals clear kc2 kc1)
   refine AW_le (Le_mv 18 600) ?_
   refine AW_loopP (X:=Nat × List UInt8) (fun x=>x.1 ≤ l.length ∧ x.2.length ≤ 10 + 40 * x.1 ∧ x.2 ++ (l.drop x.1).flatMap rgB = rgsBy l)
     (fun x=>mkSt [(4,.row 600 0),(19,rgsB l),(20,iC .i64 (l.length:Nat)),(21,iC .i64 (x.1:Nat))] [(600,.row 5 1 (x.2.map byteP))]) (fun x=>l.length - x.1) (0,[(l.length:Int)].flatMap numI) ⟨Nat.zero_le _,by simp;omega,by simp [rgsBy]⟩ ?_ ?_
   · exact le_auto
   · rintro ⟨k,acc⟩ ⟨h1,h2,h3⟩
     simp only at h1 h2 h3 ⊢
     by_cases hlt:k < l.length
     · have hr:=rgsOk_R hok hlt
       have hbl:=rgB_len hr
       have hsz:=(rgR_iff _).1 hr
       have t1:=textB_len l[k].lo (by omega)
       have t2:=textB_len l[k].hi (by omega)
       have n0:=numI_one (n:=0) (by omega) (by omega)
       rw [List.drop_eq_getElem_cons hlt,List.flatMap_cons] at h3
       have c1:=varint_Text acc [l[k].lo] (by simp;omega)
       have c2:=fcode_put (acc ++ [l[k].lo].flatMap textB) [1] (by simp;omega) (ok_small (by omega) (by omega))
       have c3:=fcode_put (acc ++ [l[k].lo].flatMap textB) [0] (by simp;omega) (ok_small (by omega) (by omega))
       have c4:=varint_Text (acc ++ [l[k].lo].flatMap textB ++ [(0:Int)].flatMap numI) [l[k].hi] (by simp;omega)
       clear hok h0
       (have kc1:=c1;have kc2:=c2;have kc3:=c3;have kc4:=c4;refine w0 ?_;(repeat' first|refine W2.mk ?_ ?_|refine W1.mk fun hc=>?_);all_goals clear kc4 kc3 kc2 kc1)
       · have e:rgB l[k] = textB l[k].lo ++ numI 1:=by unfold rgB;rw [if_pos (by assumption)]
         rw [e] at h3 hbl
         refine ⟨(k + 1,acc ++ [l[k].lo].flatMap textB ++ [(1:Int)].flatMap numI),⟨by simp only;omega,by simp at hbl ⊢;omega,by rw [← h3];simp⟩,by simp only;omega,Le_trans (Le_mv 34 600) ?_⟩
         exact le_auto
       · have e:rgB l[k] = textB l[k].lo ++ (numI 0 ++ textB l[k].hi):=by unfold rgB;rw [if_neg (by simp [*])]
         rw [e] at h3 hbl
         refine ⟨(k + 1,acc ++ [l[k].lo].flatMap textB ++ [(0:Int)].flatMap numI ++ [l[k].hi].flatMap textB),⟨by simp only;omega,by simp at hbl ⊢;omega,by rw [← h3];simp⟩,by simp only;omega,Le_trans (Le_mv 41 600) ?_⟩
         exact le_auto
     · rw [List.drop_of_length_le (by omega),List.flatMap_nil,List.append_nil] at h3
       (refine w0 ?_;(repeat' first|refine W2.mk ?_ ?_|refine W1.mk fun hc=>?_))
       refine rt2 ?_ ?_
       · exact rv_ownM rfl rfl rfl h3
       · exact rv_int rfl rfl
theorem ref_Ranges (l:List Rg) (hl:l.length ≤ 4096) (hok:rgsOk l):Fn Tryz.prog 50 [rgsB l] (ownB (rgsBy l)):=by
 have hp0:=ref_Bytes (l.length:Int) (by unfold okNum;omega)
 have hn0:=numI_len (l.length:Int) (by omega)
 refine fi Tryz.func50 Tryz.ntmps50 ?_
 (have kc1:=hp0;refine w0 ?_;(repeat' first|refine W2.mk ?_ ?_|refine W1.mk fun hc=>?_);all_goals clear kc1)
 refine AW_le (Le_mv 7 600) ?_
 refine AW_loopP (X:=Nat × List UInt8) (fun x=>x.1 ≤ l.length ∧ x.2.length ≤ 10 + 40 * x.1 ∧ x.2 ++ (l.drop x.1).flatMap rgB = rgsBy l)
   (fun x=>mkSt [(0,rgsB l),(3,.row 600 0),(4,iC .i64 (x.1:Nat))] [(600,.row 5 1 (x.2.map byteP))]) (fun x=>l.length - x.1) (0,numI (l.length:Nat)) ⟨Nat.zero_le _,by simp only;omega,by simp [rgsBy]⟩ ?_ ?_
 · exact le_auto
 · rintro ⟨k,acc⟩ ⟨h1,h2,h3⟩
   simp only at h1 h2 h3 ⊢
   by_cases hlt:k < l.length
   · have hr:=rgsOk_R hok hlt
     have hbl:=rgB_len hr
     have hsz:=(rgR_iff _).1 hr
     have t1:=textB_len l[k].lo (by omega)
     have t2:=textB_len l[k].hi (by omega)
     rw [List.drop_eq_getElem_cons hlt,List.flatMap_cons] at h3
     have c1:=ref_Text l[k].lo (by omega)
     have c2:=ref_Text l[k].hi (by omega)
     clear hok
     (have kc1:=c1;have kc2:=c2;refine w0 ?_;(repeat' first|refine W2.mk ?_ ?_|refine W1.mk fun hc=>?_);all_goals clear kc2 kc1)
     · have e:rgB l[k] = textB l[k].lo ++ numI 1:=by unfold rgB;rw [if_pos (by assumption)]
       rw [e] at h3 hbl
       refine ⟨(k + 1,acc ++ textB l[k].lo ++ numI 1),⟨by simp only;omega,by simp at hbl ⊢;omega,by rw [← h3];simp⟩,by simp only;omega,?_⟩
       (refine Le_mk ?_ ?_;(focus ((repeat (first|exact AllG.nil|(refine AllG.cons ?_ ?_;rotate_left)));(all_goals try (first|rfl|(refine eqI ?_;first|omega|(simp;done)|(simp;omega))|(refine eqBo ?_;first|(simp;done)|(simp [*];done))))));(focus ((repeat (first|exact AllB.nil|(refine AllB.cons ?_ ?_;rotate_left)));(all_goals try (first|rfl|(refine eqRw ?_;(rw [List.map_append] <;> rfl);done)|(refine eqMix ?_;(rw [List.map_append] <;> rfl);done))))))
       · show Blk.row _ _ ((acc.map byteP ++ _) ++ [[rawP (.int .u8 1)]]) = _
         rw [← numI_1,← List.map_append,← List.map_append]
     · have e:rgB l[k] = textB l[k].lo ++ (numI 0 ++ textB l[k].hi):=by unfold rgB;rw [if_neg (by simp [*])]
       rw [e] at h3 hbl
       refine ⟨(k + 1,acc ++ textB l[k].lo ++ numI 0 ++ textB l[k].hi),⟨by simp only;omega,by simp at hbl ⊢;omega,by rw [← h3];simp⟩,by simp only;omega,?_⟩
       (refine Le_mk ?_ ?_;(focus ((repeat (first|exact AllG.nil|(refine AllG.cons ?_ ?_;rotate_left)));(all_goals try (first|rfl|(refine eqI ?_;first|omega|(simp;done)|(simp;omega))|(refine eqBo ?_;first|(simp;done)|(simp [*];done))))));(focus ((repeat (first|exact AllB.nil|(refine AllB.cons ?_ ?_;rotate_left)));(all_goals try (first|rfl|(refine eqRw ?_;(rw [List.map_append] <;> rfl);done)|(refine eqMix ?_;(rw [List.map_append] <;> rfl);done))))))
       · show Blk.row _ _ (((acc.map byteP ++ _) ++ [[rawP (.int .u8 0)]]) ++ _) = _
         rw [← numI_0,← List.map_append,← List.map_append,← List.map_append]
   · rw [List.drop_of_length_le (by omega),List.flatMap_nil,List.append_nil] at h3
     (refine w0 ?_;(repeat' first|refine W2.mk ?_ ?_|refine W1.mk fun hc=>?_))
     refine rt1 ?_
     exact rv_ownM rfl rfl rfl h3
end
end Go.Proofs.YtfcpkegmdlchhaaGreat
namespace Go.Proofs.YtfcpkegmdlchhaaGreat

def lead (l:List UInt8):Nat:=(l.takeWhile (fun c=>decide (128 ≤ c.toNat))).length
def leVal:List UInt8 → Nat
 | []=>0
 | c :: r=>c.toNat % 128 + 128 * leVal r
def rdBad (l:List UInt8):Prop:=(0 < lead l ∧ l[lead l]? = some 0) ∨ 281474976710656 < leVal (l.take (lead l + 1))
instance (l:List UInt8):Decidable (rdBad l):=by unfold rdBad;infer_instance
/-- the number that begins some bytes, how many it has, and what is wrong -/
def rdNum (l:List UInt8):Nat × Nat × Int:=
 if 8 ≤ lead l then (0,0,11) else if l.length ≤ lead l then (0,0,10) else if rdBad l then (0,0,11) else (leVal (l.take (lead l + 1)),lead l + 1,0)

theorem lead_le (l:List UInt8):lead l ≤ l.length:=by
 unfold lead;exact (List.takeWhile_sublist _).length_le
theorem lead_step:∀ (l:List UInt8) (i:Nat) (h:i < l.length),i ≤ lead l → (128 ≤ l[i].toNat → i + 1 ≤ lead l) ∧ (l[i].toNat < 128 → lead l = i):=by
 intro l
 induction l with
 | nil=>intro i h;simp at h
 | cons c r ih=>
   intro i h hi
   unfold lead at *
   rw [List.takeWhile_cons] at *
   cases i with
   | zero=>
     refine ⟨fun hc=>?_,fun hc=>?_⟩
     · simp at hc;simp [hc]
     · simp at hc;rw [if_neg (by simp;omega)];rfl
   | succ i=>
     by_cases hc:128 ≤ c.toNat
     · rw [if_pos (by simpa using hc)] at hi ⊢
       simp only [List.length_cons] at hi ⊢
       have:=ih i (by simpa using h) (by omega)
       simp only [List.getElem_cons_succ]
       omega
     · rw [if_neg (by simpa using hc)] at hi;simp at hi
theorem lead_before:∀ (l:List UInt8) (i:Nat) (h:i < l.length),i < lead l → 128 ≤ l[i].toNat:=by
 intro l i h hi
 rcases Nat.lt_or_ge (l[i].toNat) 128 with h1|h1
 · have:=(lead_step l i h (by omega)).2 h1;omega
 · exact h1
theorem lead_at (l:List UInt8) (h:lead l < l.length):l[lead l].toNat < 128:=by
 rcases Nat.lt_or_ge (l[lead l].toNat) 128 with h1|h1
 · exact h1
 · have:=(lead_step l (lead l) h (Nat.le_refl _)).1 h1;omega

theorem leVal_lt (l:List UInt8):leVal l < 128 ^ l.length:=by
 induction l with
 | nil=>simp [leVal]
 | cons c r ih=>simp only [leVal,List.length_cons,Nat.pow_succ];omega

/-- a reader's state behind a call of Number -/
def numSt (l:List UInt8) (e:Int):Int × List UInt8 × Int:=
 if e ≠ 0 then (0,l,e) else if (rdNum l).2.2 ≠ 0 then (0,l,(rdNum l).2.2) else ((rdNum l).1,l.drop (rdNum l).2.1,0)
def withinSt (lo hi:Int) (l:List UInt8) (e:Int):Int × List UInt8 × Int:=
 if (numSt l e).2.2 = 0 ∧ ((numSt l e).1 < lo ∨ hi < (numSt l e).1) then (0,l,11) else numSt l e
def textSt (most:Int) (l:List UInt8) (e:Int):List UInt8 × List UInt8 × Int:=
 if (withinSt 0 most l e).2.2 ≠ 0 then ([],(withinSt 0 most l e).2)
 else if (withinSt 0 most l e).2.1.length < (withinSt 0 most l e).1 then ([],l,10)
 else ((withinSt 0 most l e).2.1.take (withinSt 0 most l e).1.toNat,(withinSt 0 most l e).2.1.drop (withinSt 0 most l e).1.toNat,0)
def failSt (x:Int) (l:List UInt8) (e:Int):List UInt8 × Int:=if e = 0 then (l,x) else (l,e)
def endSt (l:List UInt8) (e:Int):Int:=if e = 0 ∧ 0 < l.length then 14 else e
end Go.Proofs.YtfcpkegmdlchhaaGreat
namespace Go.Proofs.YtfcpkegmdlchhaaGreat
open Go.RowKit

theorem numB_leVal:∀ (xs:List UInt8) (c:UInt8),(∀ x ∈ xs,128 ≤ x.toNat) → c.toNat < 128 → (xs ≠ [] → c ≠ 0) → numB (leVal (xs ++ [c])) = xs ++ [c]:=by
 intro xs
 induction xs with
 | nil=>
   intro c _ hc _
   have:leVal ([] ++ [c]) = c.toNat:=by simp [leVal];omega
   rw [this,numB_lt hc];simp
 | cons x r ih=>
   intro c hx hc hne
   have hc0:=hne (by simp)
   have hr:=ih c (fun y hy=>hx y (by simp [hy])) hc (fun _=>hc0)
   have hxx:=hx x (by simp)
   have hV:0 < leVal (r ++ [c]):=by
     have h1:∀ r:List UInt8,0 < c.toNat → 0 < leVal (r ++ [c]):=by
       intro r hp
       induction r with
       | nil=>simp [leVal];omega
       | cons y r ih=>simp only [List.cons_append,leVal];omega
     apply h1
     rcases Nat.eq_zero_or_pos c.toNat with h|h
     · exact absurd (UInt8.toNat_inj.1 (by simpa using h)) hc0
     · exact h
   have hval:leVal (x :: r ++ [c]) = x.toNat % 128 + 128 * leVal (r ++ [c]):=rfl
   have hlt:=x.toNat_lt
   rw [hval,numB_ge (by omega)]
   rw [show (x.toNat % 128 + 128 * leVal (r ++ [c])) / 128 = leVal (r ++ [c]) by omega,hr]
   rw [show 128 + (x.toNat % 128 + 128 * leVal (r ++ [c])) % 128 = x.toNat by omega]
   simp

theorem rdNum_ok {l:List UInt8} (h:(rdNum l).2.2 = 0):lead l < 8 ∧ lead l < l.length ∧ ¬ rdBad l ∧ (rdNum l).1 = leVal (l.take (lead l + 1)) ∧ (rdNum l).2.1 = lead l + 1:=by
 unfold rdNum at h ⊢
 by_cases h1:8 ≤ lead l
 · rw [if_pos h1] at h;simp at h
 · rw [if_neg h1] at h ⊢
   by_cases h2:l.length ≤ lead l
   · rw [if_pos h2] at h;simp at h
   · rw [if_neg h2] at h ⊢
     by_cases h3:rdBad l
     · rw [if_pos h3] at h;simp at h
     · rw [if_neg h3];exact ⟨by omega,by omega,h3,rfl,rfl⟩

/-- what was read is put as it stood -/
theorem rd_put {l:List UInt8} (h:(rdNum l).2.2 = 0):numB (rdNum l).1 = l.take (rdNum l).2.1 ∧ 0 < (rdNum l).2.1 ∧ (rdNum l).2.1 ≤ l.length ∧ (rdNum l).1 ≤ 281474976710656:=by
 obtain ⟨h8,hl,hb,e1,e2⟩:=rdNum_ok h
 rw [e1,e2]
 have ht:l.take (lead l + 1) = l.take (lead l) ++ [l[lead l]]:=List.take_succ_eq_append_getElem hl
 refine ⟨?_,by omega,by omega,?_⟩
 · rw [ht]
   refine numB_leVal _ _ ?_ (lead_at l hl) ?_
   · intro x hx
     obtain ⟨i,hi,rfl⟩:=List.getElem_of_mem hx
     rw [List.length_take] at hi
     rw [List.getElem_take]
     exact lead_before l i (by omega) (by omega)
   · intro hne h0
     refine hb (.inl ⟨?_,by rw [List.getElem?_eq_getElem hl,h0]⟩)
     rcases Nat.eq_zero_or_pos (lead l) with h|h
     · rw [h] at hne;simp at hne
     · exact h
 · rcases Nat.lt_or_ge 281474976710656 (leVal (l.take (lead l + 1))) with h|h
   · exact absurd (.inr h) hb
   · exact h

/-- what was put is read as it was -/
theorem numB_shape (n:Nat):∃ xs c,numB n = xs ++ [c] ∧ (∀ x ∈ xs,128 ≤ x.toNat) ∧ c.toNat < 128 ∧ (xs ≠ [] → c ≠ 0) ∧ leVal (numB n) = n:=by
 induction n using Nat.strongRecOn with
 | ind n ih=>
   by_cases h:n < 128
   · refine ⟨[],UInt8.ofNat n,by rw [numB_lt h];rfl,by simp,by rw [UInt8.toNat_ofNat'];omega,by simp,?_⟩
     rw [numB_lt h];simp only [leVal,UInt8.toNat_ofNat'];omega
   · obtain ⟨xs,c,e,h1,h2,h3,h4⟩:=ih (n / 128) (by omega)
     refine ⟨UInt8.ofNat (128 + n % 128) :: xs,c,by rw [numB_ge h,e];rfl,?_,h2,?_,?_⟩
     · intro x hx
       rcases List.mem_cons.1 hx with rfl|hx
       · rw [UInt8.toNat_ofNat'];omega
       · exact h1 x hx
     · intro _
       by_cases hx:xs = []
       · subst hx
         intro hc
         subst hc
         rw [e] at h4
         simp [leVal] at h4
         omega
       · exact h3 hx
     · rw [numB_ge h];simp only [leVal,h4,UInt8.toNat_ofNat'];omega

theorem lead_numB (n:Nat) (r:List UInt8):lead (numB n ++ r) + 1 = (numB n).length:=by
 obtain ⟨xs,c,e,h1,h2,h3,h4⟩:=numB_shape n
 rw [e]
 have:(xs ++ [c] ++ r).takeWhile (fun c=>decide (128 ≤ c.toNat)) = xs:=by
   rw [List.append_assoc,List.takeWhile_append_of_pos (by simpa using h1)]
   rw [List.cons_append,List.takeWhile_cons,if_neg (by simp;omega)];simp
 unfold lead
 rw [this];simp

theorem put_rd (n:Nat) (r:List UInt8) (hn:n ≤ 281474976710656):rdNum (numB n ++ r) = (n,(numB n).length,0):=by
 have hl:=lead_numB n r
 have h8:=numB_len 7 n (by omega)
 obtain ⟨xs,c,e,h1,h2,h3,h4⟩:=numB_shape n
 have hlen:lead (numB n ++ r) = xs.length:=by rw [e] at hl ⊢;simp at hl ⊢;exact hl
 unfold rdNum
 rw [if_neg (by omega),if_neg (by rw [List.length_append];omega)]
 have ht:(numB n ++ r).take (lead (numB n ++ r) + 1) = numB n:=by rw [hl];simp
 rw [if_neg,ht,hl,h4]
 unfold rdBad
 rw [ht,h4]
 rintro (⟨h,h'⟩|h)
 · rw [hlen] at h h'
   rw [e,List.getElem?_append_left (by simp),List.getElem?_append_right (by omega)] at h'
   simp at h'
   exact h3 (by intro hx;subst hx;simp at h) h'
 · omega
end Go.Proofs.YtfcpkegmdlchhaaGreat
namespace Go.Proofs.YtfcpkegmdlchhaaGreat
open Go.RowKit
theorem num_put {n:Int} (h:okNum n) (r:List UInt8):numSt (numI n ++ r) 0 = (n,r,0):=by
 unfold numSt numI
 obtain ⟨h1,h2⟩:=h
 rw [put_rd n.toNat r (by omega)]
 rw [if_neg (by simp),if_neg (by simp)]
 simp;omega
theorem within_put {n lo hi:Int} (h:okNum n) (h1:lo ≤ n) (h2:n ≤ hi) (r:List UInt8):withinSt lo hi (numI n ++ r) 0 = (n,r,0):=by
 unfold withinSt
 rw [num_put h]
 rw [if_neg]
 simp;omega
theorem text_put {s:ByteArray} {most:Int} (h:(s.size:Int) ≤ most) (h2:s.size ≤ 281474976710656) (r:List UInt8):textSt most (textB s ++ r) 0 = (s.data.toList,r,0):=by
 have hw:withinSt 0 most (textB s ++ r) 0 = ((s.size:Int),s.data.toList ++ r,0):=by
   have:=within_put (n:=(s.size:Int)) (lo:=0) (hi:=most) ⟨by omega,by omega⟩ (by omega) h (s.data.toList ++ r)
   unfold numI at this
   rw [Int.toNat_natCast] at this
   rw [textB,List.append_assoc];exact this
 unfold textSt
 rw [hw]
 have hl:s.data.toList.length = s.size:=str_len s
 rw [if_neg (by simp),if_neg (by simp;omega),Int.toNat_natCast]
 rw [List.take_append_of_le_length (by omega),List.take_of_length_le (by omega),List.drop_append_of_le_length (by omega),List.drop_of_length_le (by omega)]
 rfl
theorem ba_eta (s:ByteArray):(⟨s.data.toList.toArray⟩:ByteArray) = s:=by cases s;simp
/-! an error stays -/
theorem num_err {l:List UInt8} {e:Int} (h:e ≠ 0):numSt l e = (0,l,e):=by unfold numSt;rw [if_pos h]
/-! what was read without an error stands so in the bytes -/
theorem num_back {l:List UInt8} {e:Int} (h:(numSt l e).2.2 = 0):e = 0 ∧ okNum (numSt l e).1 ∧ l = numI (numSt l e).1 ++ (numSt l e).2.1:=by
 by_cases he:e = 0
 · subst he
   unfold numSt at h ⊢
   rw [if_neg (by simp)] at h ⊢
   by_cases hr:(rdNum l).2.2 = 0
   · obtain ⟨h1,h2,h3,h4⟩:=rd_put hr
     rw [if_neg (by simp [hr])]
     refine ⟨rfl,⟨by simp only;omega,by simp only;omega⟩,?_⟩
     simp only [numI,Int.toNat_natCast]
     rw [h1,List.take_append_drop]
   · rw [if_pos hr] at h
     exact absurd h hr
 · rw [num_err he] at h;exact absurd h he
theorem within_back {lo hi:Int} {l:List UInt8} {e:Int} (h:(withinSt lo hi l e).2.2 = 0):e = 0 ∧ okNum (withinSt lo hi l e).1 ∧ lo ≤ (withinSt lo hi l e).1 ∧ (withinSt lo hi l e).1 ≤ hi ∧ l = numI (withinSt lo hi l e).1 ++ (withinSt lo hi l e).2.1:=by
 unfold withinSt at h ⊢
 split at h
 · simp at h
 · rename_i hc
   rw [if_neg hc]
   obtain ⟨h1,h2,h3⟩:=num_back h
   exact ⟨h1,h2,by omega,by omega,h3⟩
theorem text_back {most:Int} {l:List UInt8} {e:Int} (h:(textSt most l e).2.2 = 0):e = 0 ∧ ((textSt most l e).1.length:Int) ≤ most ∧ l = textB ⟨(textSt most l e).1.toArray⟩ ++ (textSt most l e).2.1:=by
 unfold textSt at h ⊢
 split at h
 · rename_i hc;exact absurd h hc
 · rename_i hc
   rw [if_neg hc]
   split at h
   · simp at h
   · rename_i hc2
     rw [if_neg hc2]
     have hc:(withinSt 0 most l e).2.2 = 0:=by simpa using hc
     obtain ⟨h1,h2,h3,h4,h5⟩:=within_back hc
     have hlen:((withinSt 0 most l e).2.1.take (withinSt 0 most l e).1.toNat).length = (withinSt 0 most l e).1.toNat:=by rw [List.length_take];omega
     refine ⟨h1,by simp only;rw [hlen];omega,?_⟩
     simp only
     unfold textB
     have:(⟨((withinSt 0 most l e).2.1.take (withinSt 0 most l e).1.toNat).toArray⟩:ByteArray).size = (withinSt 0 most l e).1.toNat:=by
       show (((withinSt 0 most l e).2.1.take (withinSt 0 most l e).1.toNat).toArray).size = _
       rw [List.size_toArray];exact hlen
     rw [this]
     simp only
     rw [List.append_assoc,List.take_append_drop]
     exact h5
theorem end_back {l:List UInt8} {e:Int} (h:endSt l e = 0):l = [] ∧ e = 0:=by
 unfold endSt at h
 split at h
 · simp at h
 · rename_i hc
   subst h
   refine ⟨?_,rfl⟩
   have:l.length = 0:=by omega
   exact List.eq_nil_of_length_eq_zero this
end Go.Proofs.YtfcpkegmdlchhaaGreat
