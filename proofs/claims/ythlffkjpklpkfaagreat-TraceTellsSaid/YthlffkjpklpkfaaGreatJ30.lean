/- Texts joined: Ref34 TcR TcN. -/
import Derived.Test.YthlffkjpklpkfaaGreatJ09
import Derived.Test.YthlffkjpklpkfaaGreatJ19
import Derived.Test.YthlffkjpklpkfaaGreatJ07
import Derived.Test.YthlffkjpklpkfaaGreatJ26
import Derived.Test.YthlffkjpklpkfaaGreatJ29
set_option maxRecDepth 10000
set_option maxHeartbeats 8000000
namespace Go.Proofs.YthlffkjpklpkfaaGreat
open Go.RowKit
theorem ref_Size (l:List It) (hl:l.length ≤ 1000000000):Fn Tryz.prog 34 [itsB l] (.per (rawP (.int .i64 (sizes l:Nat)))):=by
 refine fi Tryz.func34 Tryz.ntmps34 ?_
 (repeat' (first|refine AW_seq ?_|refine AW_block ?_|refine AW_skip ?_|refine AW_exit ?_|refine AW_ret ?_|refine AW_region ?_|refine AW_draw mixed0 ?_|refine AL_nil ?_|refine AD_nil (by kernel_rfl) ?_|refine thenA_n ?_|refine thenA_r ?_|refine thenA_e ?_|refine inB_n ?_|refine inB_r ?_|refine inB_hit ?_|refine inB_miss rfl ?_|(refine AW_cond_per rfl rfl (fun hc=>?_) (fun hc=>?_) <;> (try rw [Bool.not_eq_true'] at hc) <;> (try rw [Bool.not_eq_false'] at hc) <;> (try first|rw [decide_eq_true_eq] at hc|rw [decide_eq_false_iff_not] at hc|rw [beq_iff_eq] at hc|rw [beq_eq_false_iff_ne] at hc|rw [bne_iff_ne] at hc|rw [bne_eq_false_iff_eq] at hc) <;> (repeat rw [List.length_map] at hc) <;> (try first|contradiction|(exfalso;omega)|(exfalso;simp [*] at hc;done)))|((first|apply AL_t rfl|apply AL_0 rfl|apply AD_t rfl|apply AD_0 rfl);focus (first|exact o_auto))))
 refine AW_count l.length (fun k=>mkSt [(0,itsB l),(3,iC .i64 (sizes (l.take k):Nat)),(4,iC .i64 (k:Nat))] []) ?_ ?_
 · exact le_auto
 · intro k hk
   have hb:=sizes_le (l.take k)
   rw [List.length_take] at hb
   by_cases hlt:k < l.length
   · have hb2:=itB_len l[k]
     have hs:sizes (l.take (k + 1)) = sizes (l.take k) + (itB l[k]).length:=by rw [take_snoc' l k hlt,sizes_snoc]
     by_cases hr:itR l[k] = true
     · (repeat' (first|refine AW_seq ?_|refine AW_block ?_|refine AW_skip ?_|refine AW_exit ?_|refine AW_ret ?_|refine AW_region ?_|refine AW_draw mixed0 ?_|refine AL_nil ?_|refine AD_nil (by kernel_rfl) ?_|refine thenA_n ?_|refine thenA_r ?_|refine thenA_e ?_|refine inB_n ?_|refine inB_r ?_|refine inB_hit ?_|refine inB_miss rfl ?_|(refine AW_cond_per rfl rfl (fun hc=>?_) (fun hc=>?_) <;> (try rw [Bool.not_eq_true'] at hc) <;> (try rw [Bool.not_eq_false'] at hc) <;> (try first|rw [decide_eq_true_eq] at hc|rw [decide_eq_false_iff_not] at hc|rw [beq_iff_eq] at hc|rw [beq_eq_false_iff_ne] at hc|rw [bne_iff_ne] at hc|rw [bne_eq_false_iff_eq] at hc) <;> (repeat rw [List.length_map] at hc) <;> (try first|contradiction|(exfalso;omega)|(exfalso;simp [*] at hc;done)))|((first|apply AL_t rfl|apply AL_0 rfl|apply AD_t rfl|apply AD_0 rfl);focus (first|exact o_auto|(apply u_g;(focus rfl);(first|apply op_guard_raw rfl rfl rfl rfl rfl (as_guard rfl)|apply op_guard_raw rfl rfl rfl rfl rfl rfl);intro g1 g2;(first|(apply u_k 20;(focus rfl);apply u_call;(case hp=>exact ⟨rfl,rfl,rfl⟩);(case ho=>exact ⟨_,rfl⟩);(case' hf=>apply ritem_Right);(case hpl=>rfl);(case hg=>(repeat (first|exact GL.nil|(refine GL.cons ?_ ?_;focus (first|exact gl_per (get_gr rfl (by rw [g2];rfl))|exact gl_per (get_gc rfl (by rw [g2];rfl))|exact gl_lst (get_gc rfl (by rw [g2];rfl))|exact gl_bor (get_gc rfl (by rw [g2];rfl))|exact gl_per rfl|exact gl_lst rfl|exact gl_bor rfl)))));all_goals (first|assumption|omega|(simp;done)|(simp;omega)))|(apply u_k 20;(focus rfl);apply u_call;(case hp=>exact ⟨rfl,rfl,rfl⟩);(case ho=>exact ⟨_,rfl⟩);(case' hf=>apply ref_Item l[k] hr);(case hpl=>rfl);(case hg=>(repeat (first|exact GL.nil|(refine GL.cons ?_ ?_;focus (first|exact gl_per (get_gr rfl (by rw [g2];rfl))|exact gl_per (get_gc rfl (by rw [g2];rfl))|exact gl_lst (get_gc rfl (by rw [g2];rfl))|exact gl_bor (get_gc rfl (by rw [g2];rfl))|exact gl_per rfl|exact gl_lst rfl|exact gl_bor rfl)))));all_goals (first|assumption|omega|(simp;done)|(simp;omega)))))|(apply u_g;(focus rfl);(first|apply op_guard rfl rfl rfl rfl rfl (as_guard rfl)|apply op_guard rfl rfl rfl rfl rfl rfl);intro g1 g2;(first|(apply u_k 20;(focus rfl);apply u_call;(case hp=>exact ⟨rfl,rfl,rfl⟩);(case ho=>exact ⟨_,rfl⟩);(case' hf=>apply ritem_Right);(case hpl=>rfl);(case hg=>(repeat (first|exact GL.nil|(refine GL.cons ?_ ?_;focus (first|exact gl_per (get_gr rfl (by rw [g2];rfl))|exact gl_per (get_gc rfl (by rw [g2];rfl))|exact gl_lst (get_gc rfl (by rw [g2];rfl))|exact gl_bor (get_gc rfl (by rw [g2];rfl))|exact gl_per rfl|exact gl_lst rfl|exact gl_bor rfl)))));all_goals (first|assumption|omega|(simp;done)|(simp;omega)))|(apply u_k 20;(focus rfl);apply u_call;(case hp=>exact ⟨rfl,rfl,rfl⟩);(case ho=>exact ⟨_,rfl⟩);(case' hf=>apply ref_Item l[k] hr);(case hpl=>rfl);(case hg=>(repeat (first|exact GL.nil|(refine GL.cons ?_ ?_;focus (first|exact gl_per (get_gr rfl (by rw [g2];rfl))|exact gl_per (get_gc rfl (by rw [g2];rfl))|exact gl_lst (get_gc rfl (by rw [g2];rfl))|exact gl_bor (get_gc rfl (by rw [g2];rfl))|exact gl_per rfl|exact gl_lst rfl|exact gl_bor rfl)))));all_goals (first|assumption|omega|(simp;done)|(simp;omega)))))|(apply u_k 20;(focus rfl);first|(apply u_call;(case hp=>exact ⟨rfl,rfl,rfl⟩);(case ho=>exact ⟨_,rfl⟩);(case' hf=>apply ritem_Right);(case hpl=>rfl);(case hg=>(repeat (first|exact GL.nil|(refine GL.cons ?_ ?_;focus (first|exact gl_per rfl|exact gl_lst rfl|exact gl_row rfl rfl rfl|exact gl_bor rfl|exact gl_nil rfl|exact gl_nil' rfl)))));all_goals (first|assumption|omega|(simp;done)|(simp;omega)))|(apply u_call_own;(case hp=>exact ⟨rfl,rfl,rfl⟩);(case ho=>exact ⟨_,rfl⟩);(case' hf=>apply ritem_Right);(case hg=>(repeat (first|exact GL.nil|(refine GL.cons ?_ ?_;focus (first|exact gl_per rfl|exact gl_lst rfl|exact gl_row rfl rfl rfl|exact gl_bor rfl|exact gl_nil rfl|exact gl_nil' rfl)))));all_goals (first|assumption|omega|(simp;done)|(simp;omega)))|(apply u_call_own2;(case hp=>exact ⟨rfl,rfl,rfl⟩);(case ho=>exact ⟨_,rfl⟩);(case' hf=>apply ritem_Right);(case hg=>(repeat (first|exact GL.nil|(refine GL.cons ?_ ?_;focus (first|exact gl_per rfl|exact gl_lst rfl|exact gl_row rfl rfl rfl|exact gl_bor rfl|exact gl_nil rfl|exact gl_nil' rfl)))));all_goals (first|assumption|omega|(simp;done)|(simp;omega))))|(apply u_k 20;(focus rfl);first|(apply u_call;(case hp=>exact ⟨rfl,rfl,rfl⟩);(case ho=>exact ⟨_,rfl⟩);(case' hf=>apply ref_Item l[k] hr);(case hpl=>rfl);(case hg=>(repeat (first|exact GL.nil|(refine GL.cons ?_ ?_;focus (first|exact gl_per rfl|exact gl_lst rfl|exact gl_row rfl rfl rfl|exact gl_bor rfl|exact gl_nil rfl|exact gl_nil' rfl)))));all_goals (first|assumption|omega|(simp;done)|(simp;omega)))|(apply u_call_own;(case hp=>exact ⟨rfl,rfl,rfl⟩);(case ho=>exact ⟨_,rfl⟩);(case' hf=>apply ref_Item l[k] hr);(case hg=>(repeat (first|exact GL.nil|(refine GL.cons ?_ ?_;focus (first|exact gl_per rfl|exact gl_lst rfl|exact gl_row rfl rfl rfl|exact gl_bor rfl|exact gl_nil rfl|exact gl_nil' rfl)))));all_goals (first|assumption|omega|(simp;done)|(simp;omega)))|(apply u_call_own2;(case hp=>exact ⟨rfl,rfl,rfl⟩);(case ho=>exact ⟨_,rfl⟩);(case' hf=>apply ref_Item l[k] hr);(case hg=>(repeat (first|exact GL.nil|(refine GL.cons ?_ ?_;focus (first|exact gl_per rfl|exact gl_lst rfl|exact gl_row rfl rfl rfl|exact gl_bor rfl|exact gl_nil rfl|exact gl_nil' rfl)))));all_goals (first|assumption|omega|(simp;done)|(simp;omega))))))))
       refine ⟨hlt,?_⟩
       exact le_auto
     · have hz:itB l[k] = []:=by rw [itB,if_neg hr]
       rw [hz] at hs
       simp at hs
       (repeat' (first|refine AW_seq ?_|refine AW_block ?_|refine AW_skip ?_|refine AW_exit ?_|refine AW_ret ?_|refine AW_region ?_|refine AW_draw mixed0 ?_|refine AL_nil ?_|refine AD_nil (by kernel_rfl) ?_|refine thenA_n ?_|refine thenA_r ?_|refine thenA_e ?_|refine inB_n ?_|refine inB_r ?_|refine inB_hit ?_|refine inB_miss rfl ?_|(refine AW_cond_per rfl rfl (fun hc=>?_) (fun hc=>?_) <;> (try rw [Bool.not_eq_true'] at hc) <;> (try rw [Bool.not_eq_false'] at hc) <;> (try first|rw [decide_eq_true_eq] at hc|rw [decide_eq_false_iff_not] at hc|rw [beq_iff_eq] at hc|rw [beq_eq_false_iff_ne] at hc|rw [bne_iff_ne] at hc|rw [bne_eq_false_iff_eq] at hc) <;> (repeat rw [List.length_map] at hc) <;> (try first|contradiction|(exfalso;omega)|(exfalso;simp [*] at hc;done)))|((first|apply AL_t rfl|apply AL_0 rfl|apply AD_t rfl|apply AD_0 rfl);focus (first|exact o_auto|(apply u_g;(focus rfl);(first|apply op_guard_raw rfl rfl rfl rfl rfl (as_guard rfl)|apply op_guard_raw rfl rfl rfl rfl rfl rfl);intro g1 g2;(first|(apply u_k 20;(focus rfl);apply u_call;(case hp=>exact ⟨rfl,rfl,rfl⟩);(case ho=>exact ⟨_,rfl⟩);(case' hf=>apply ritem_Right);(case hpl=>rfl);(case hg=>(repeat (first|exact GL.nil|(refine GL.cons ?_ ?_;focus (first|exact gl_per (get_gr rfl (by rw [g2];rfl))|exact gl_per (get_gc rfl (by rw [g2];rfl))|exact gl_lst (get_gc rfl (by rw [g2];rfl))|exact gl_bor (get_gc rfl (by rw [g2];rfl))|exact gl_per rfl|exact gl_lst rfl|exact gl_bor rfl)))));all_goals (first|assumption|omega|(simp;done)|(simp;omega)))))|(apply u_g;(focus rfl);(first|apply op_guard rfl rfl rfl rfl rfl (as_guard rfl)|apply op_guard rfl rfl rfl rfl rfl rfl);intro g1 g2;(first|(apply u_k 20;(focus rfl);apply u_call;(case hp=>exact ⟨rfl,rfl,rfl⟩);(case ho=>exact ⟨_,rfl⟩);(case' hf=>apply ritem_Right);(case hpl=>rfl);(case hg=>(repeat (first|exact GL.nil|(refine GL.cons ?_ ?_;focus (first|exact gl_per (get_gr rfl (by rw [g2];rfl))|exact gl_per (get_gc rfl (by rw [g2];rfl))|exact gl_lst (get_gc rfl (by rw [g2];rfl))|exact gl_bor (get_gc rfl (by rw [g2];rfl))|exact gl_per rfl|exact gl_lst rfl|exact gl_bor rfl)))));all_goals (first|assumption|omega|(simp;done)|(simp;omega)))))|(apply u_k 20;(focus rfl);first|(apply u_call;(case hp=>exact ⟨rfl,rfl,rfl⟩);(case ho=>exact ⟨_,rfl⟩);(case' hf=>apply ritem_Right);(case hpl=>rfl);(case hg=>(repeat (first|exact GL.nil|(refine GL.cons ?_ ?_;focus (first|exact gl_per rfl|exact gl_lst rfl|exact gl_row rfl rfl rfl|exact gl_bor rfl|exact gl_nil rfl|exact gl_nil' rfl)))));all_goals (first|assumption|omega|(simp;done)|(simp;omega)))|(apply u_call_own;(case hp=>exact ⟨rfl,rfl,rfl⟩);(case ho=>exact ⟨_,rfl⟩);(case' hf=>apply ritem_Right);(case hg=>(repeat (first|exact GL.nil|(refine GL.cons ?_ ?_;focus (first|exact gl_per rfl|exact gl_lst rfl|exact gl_row rfl rfl rfl|exact gl_bor rfl|exact gl_nil rfl|exact gl_nil' rfl)))));all_goals (first|assumption|omega|(simp;done)|(simp;omega)))|(apply u_call_own2;(case hp=>exact ⟨rfl,rfl,rfl⟩);(case ho=>exact ⟨_,rfl⟩);(case' hf=>apply ritem_Right);(case hg=>(repeat (first|exact GL.nil|(refine GL.cons ?_ ?_;focus (first|exact gl_per rfl|exact gl_lst rfl|exact gl_row rfl rfl rfl|exact gl_bor rfl|exact gl_nil rfl|exact gl_nil' rfl)))));all_goals (first|assumption|omega|(simp;done)|(simp;omega))))))))
       refine ⟨hlt,?_⟩
       exact le_auto
   · (repeat' (first|refine AW_seq ?_|refine AW_block ?_|refine AW_skip ?_|refine AW_exit ?_|refine AW_ret ?_|refine AW_region ?_|refine AW_draw mixed0 ?_|refine AL_nil ?_|refine AD_nil (by kernel_rfl) ?_|refine thenA_n ?_|refine thenA_r ?_|refine thenA_e ?_|refine inB_n ?_|refine inB_r ?_|refine inB_hit ?_|refine inB_miss rfl ?_|(refine AW_cond_per rfl rfl (fun hc=>?_) (fun hc=>?_) <;> (try rw [Bool.not_eq_true'] at hc) <;> (try rw [Bool.not_eq_false'] at hc) <;> (try first|rw [decide_eq_true_eq] at hc|rw [decide_eq_false_iff_not] at hc|rw [beq_iff_eq] at hc|rw [beq_eq_false_iff_ne] at hc|rw [bne_iff_ne] at hc|rw [bne_eq_false_iff_eq] at hc) <;> (repeat rw [List.length_map] at hc) <;> (try first|contradiction|(exfalso;omega)|(exfalso;simp [*] at hc;done)))|((first|apply AL_t rfl|apply AL_0 rfl|apply AD_t rfl|apply AD_0 rfl);focus (first|exact o_auto))))
     refine rt1 ?_
     exact rv_int rfl (by rw [List.take_of_length_le (by omega)])
def lit (l:List UInt8):ByteArray:=ba l
section
theorem rtr_Digits (n0:Nat) (h0:n0 < 18446744073709551616):Fn Tryz.prog 33 [iC .u64 (n0:Int)] (.per (rawP (.string (ba (digL n0))))):=by
 have hlen:=digL_len64 h0
 generalize hD:digL n0 = D at *
 refine fi Tryz.func33 Tryz.ntmps33 ?_
 (refine w0 ?_;(repeat' first|refine W2.mk ?_ ?_|refine W1.mk fun hc=>?_))
 refine AW_loopP (X:=Nat × List UInt8) (fun x=>x.1 ≤ n0 ∧ x.2.length ≤ D.length ∧ (x.2 = [] → digL x.1 = D) ∧ (x.2 ≠ [] → (if x.1 = 0 then x.2 else digL x.1 ++ x.2) = D))
   (fun x=>mkSt [(0,iC .u64 (x.1:Int)),(3,sC (ba x.2))] []) (fun x=>x.1 + (if x.2 = [] then 1 else 0)) (n0,[]) ⟨Nat.le_refl _,Nat.zero_le _,fun _=>hD,fun q=>absurd rfl q⟩ ?_ ?_
 · exact le_auto
 · rintro ⟨n,s⟩ ⟨g0,g1,g2,g3⟩
   simp only at g0 g1 g2 g3 ⊢
   have hten:((10:Nat):Int) = 10:=rfl
   by_cases hgo:s = [] ∨ 0 < n
   · have w1:(n:Int).tmod 10 = ((n % 10:Nat):Int):=by rw [Int.tmod_eq_emod_of_nonneg (by omega)];omega
     have w2:IntKind.u64.wrap (48 + ((n % 10:Nat):Int)) = ((48 + n % 10:Nat):Int):=u64_of (by omega) (by omega)
     have w3:IntKind.u8.wrap ((48 + n % 10:Nat):Int) = ((UInt8.ofNat (48 + n % 10)).toNat:Int):=u8_of (by rw [ofNat_lt (by omega)])
     have w4:IntKind.u64.wrap ((n:Int).tdiv 10) = ((n / 10:Nat):Int):=u64_of (by rw [Int.tdiv_eq_ediv_of_nonneg (by omega)];omega) (by omega)
     have hd:digL n = (if n / 10 = 0 then [] else digL (n / 10)) ++ [UInt8.ofNat (48 + n % 10)]:=by
       by_cases c:n < 10
       · rw [if_pos (by omega),digL_lt c,show n % 10 = n by omega];rfl
       · rw [if_neg (by omega),digL,dif_neg c]
     have hnew:(if n / 10 = 0 then UInt8.ofNat (48 + n % 10) :: s else digL (n / 10) ++ UInt8.ofNat (48 + n % 10) :: s) = D:=by
       have e:digL n ++ s = D:=by
         by_cases c:s = []
         · rw [c,List.append_nil];exact g2 c
         · have:=g3 c
           rw [if_neg (by rcases hgo with q | q; · exact absurd q c
                          · omega)] at this
           exact this
       rw [← e,hd]
       by_cases c:n / 10 = 0
       · rw [if_pos c,if_pos c];rfl
       · rw [if_neg c,if_neg c];simp
     have hl':(UInt8.ofNat (48 + n % 10) :: s).length ≤ D.length:=by
       rw [← hnew]
       split
       · exact Nat.le_refl _
       · rw [List.length_append];omega
     have hs1:(ba (UInt8.ofNat (48 + n % 10) :: s)) = (⟨[UInt8.ofNat (48 + n % 10)].toArray⟩:ByteArray) ++ ba s:=by
       show _ = ba [UInt8.ofNat (48 + n % 10)] ++ ba s
       rw [ba_app];rfl
     have hsz:(ba s).size ≤ 20:=by rw [ba_sz];omega
     have hs2:(⟨[UInt8.ofNat (48 + n % 10)].toArray⟩:ByteArray).size = 1:=rfl
     have hsl:(ba s).toList = (⟨#[]⟩:ByteArray).toList ↔ s = []:=(toL_inj' _ _).trans ⟨fun q=>congrArg (fun s:ByteArray=>s.data.toList) q,fun q=>by rw [q];rfl⟩
     clear hd g2 g3 hD
     generalize UInt8.ofNat (48 + n % 10) = c at *
     have hmu:n / 10 + (if (c :: s) = [] then 1 else 0) < n + (if s = [] then 1 else 0):=by
       rw [if_neg (by simp)]
       by_cases q:s = []
       · rw [if_pos q];omega
       · rw [if_neg q];rcases hgo with w|w
         · exact absurd w q
         · omega
     have fin:(n / 10 ≤ n0 ∧ (c :: s).length ≤ D.length ∧ ((c :: s) = [] → digL (n / 10) = D) ∧ ((c :: s) ≠ [] → (if n / 10 = 0 then c :: s else digL (n / 10) ++ c :: s) = D)):=⟨by omega,hl',fun q=>(by simp at q),fun _=>hnew⟩
     generalize n % 10 = p at *
     generalize n / 10 = q at *
     (repeat' (first|refine AW_seq ?_|refine AW_block ?_|refine AW_skip ?_|refine AW_exit ?_|refine AW_ret ?_|refine AW_region ?_|refine AW_draw mixed0 ?_|refine AL_nil ?_|refine AD_nil (by kernel_rfl) ?_|(refine AW_cl rfl rfl ⟨fun hc=>?_,fun hc=>?_⟩ <;> (repeat rw [List.length_map] at hc) <;> (try exact absd hc))|((first|apply AL_t rfl|apply AL_0 rfl|apply AD_t rfl|apply AD_0 rfl);focus (first|((apply u_k 8;(focus rfl);exact op_rem ⟨rfl,rfl,rfl⟩ rfl rfl rfl (by decide) w1))|(apply u_g;(focus rfl);apply op_gyes rfl rfl rfl rfl rfl;((apply u_k 8;(focus rfl);exact op_rem ⟨rfl,rfl,rfl⟩ rfl rfl rfl (by decide) w1)))|((apply u_k 8;(focus rfl);exact op_num ⟨rfl,rfl,rfl⟩ rfl rfl rfl rfl w2))|(apply u_g;(focus rfl);apply op_gyes rfl rfl rfl rfl rfl;((apply u_k 8;(focus rfl);exact op_num ⟨rfl,rfl,rfl⟩ rfl rfl rfl rfl w2)))|((apply u_k 8;(focus rfl);exact op_quo ⟨rfl,rfl,rfl⟩ rfl rfl rfl (by decide) w4))|(apply u_g;(focus rfl);apply op_gyes rfl rfl rfl rfl rfl;((apply u_k 8;(focus rfl);exact op_quo ⟨rfl,rfl,rfl⟩ rfl rfl rfl (by decide) w4)))|((apply u_k 10;(focus rfl);exact u_conv ⟨rfl,rfl,rfl⟩ rfl inferInstance inferInstance rfl w3))|(apply u_g;(focus rfl);apply op_gyes rfl rfl rfl rfl rfl;((apply u_k 10;(focus rfl);exact u_conv ⟨rfl,rfl,rfl⟩ rfl inferInstance inferInstance rfl w3)))|((apply u_k 10;(focus rfl);exact u_sb (l:=[c]) ⟨rfl,rfl,rfl⟩ rfl inferInstance inferInstance inferInstance (by first|exact sr_lst rfl|exact sr_row rfl rfl rfl|exact sr_bor rfl|exact sr_nil rfl)))|(apply u_g;(focus rfl);apply op_gyes rfl rfl rfl rfl rfl;((apply u_k 10;(focus rfl);exact u_sb (l:=[c]) ⟨rfl,rfl,rfl⟩ rfl inferInstance inferInstance inferInstance (by first|exact sr_lst rfl|exact sr_row rfl rfl rfl|exact sr_bor rfl|exact sr_nil rfl))))|exact z_auto|fail))|refine thenA_n ?_|refine thenA_r ?_|refine thenA_e ?_|refine inB_n ?_|refine inB_r ?_|refine inB_hit ?_|refine inB_miss rfl ?_|((first|refine AL_cl rfl rfl rfl ⟨fun hc=>?_,fun hc=>?_⟩|refine AD_cl rfl rfl rfl ⟨fun hc=>?_,fun hc=>?_⟩) <;> (fail_if_success (have q:(true = true):=hc)) <;> (fail_if_success (have q:(false = false):=hc)) <;> (repeat rw [List.length_map] at hc) <;> (try exact absd hc))|refine AW_cond_nil rfl rfl (fun hc=>?_) ?_))
     all_goals first|(exfalso;rcases hgo with w|w <;> first|omega|(have:=hsl.2 w;contradiction))|skip
     all_goals
       refine ⟨(q,c :: s),fin,hmu,?_⟩
       rw [hs1]
       exact le_auto
   · have hn:n = 0:=by omega
     have hs:s ≠ []:=fun q=>hgo (.inl q)
     have e:=g3 hs
     rw [if_pos hn] at e
     subst e
     subst hn
     have hsl:¬ (ba s).toList = (⟨#[]⟩:ByteArray).toList:=fun q=>hs (congrArg (fun s:ByteArray=>s.data.toList) ((toL_inj' _ _).1 q))
     clear g2 g3 hD
     (refine w0 ?_;(repeat' first|refine W2.mk ?_ ?_|refine W1.mk fun hc=>?_))
     refine rt1 ?_
     exact rv_per rfl
theorem rtr_num (n:Int):Fn Tryz.prog 30 [iC .i64 n] (.per (rawP (.string (ba (32 :: numW n))))):=by
 obtain ⟨k,hk⟩:=Int.eq_ofNat_of_zero_le (wrapu_nn n)
 have a2:=rtr_Digits k (by have:=wrapU_lt n;omega)
 have hW:numW n = digL k:=by unfold numW;rw [hk];rfl
 have hn:=numW_len n
 rw [hW] at hn
 have fin:ba (32 :: numW n) = (⟨#[32]⟩:ByteArray) ++ ba (digL k):=by rw [hW];show _ = ba [32] ++ _;rw [ba_app];rfl
 have hz:(ba (digL k)).size ≤ 20:=by rw [ba_sz];exact hn
 rw [fin]
 have zl:(⟨#[32]⟩:ByteArray).size = 1:=rfl
 clear fin hn hW
 generalize ba (digL k) = D at *
 refine fi Tryz.func30 Tryz.ntmps30 ?_
 (repeat' (first|refine AW_seq ?_|refine AW_block ?_|refine AW_skip ?_|refine AW_exit ?_|refine AW_ret ?_|refine AW_region ?_|refine AW_draw mixed0 ?_|refine AL_nil ?_|refine AD_nil (by kernel_rfl) ?_|(refine AW_cl rfl rfl ⟨fun hc=>?_,fun hc=>?_⟩ <;> (repeat rw [List.length_map] at hc) <;> (try exact absd hc))|((first|apply AL_t rfl|apply AL_0 rfl|apply AD_t rfl|apply AD_0 rfl);focus (first|((apply u_k 10;(focus rfl);exact u_conv ⟨rfl,rfl,rfl⟩ rfl inferInstance inferInstance rfl hk))|(apply u_g;(focus rfl);apply op_gyes rfl rfl rfl rfl rfl;((apply u_k 10;(focus rfl);exact u_conv ⟨rfl,rfl,rfl⟩ rfl inferInstance inferInstance rfl hk)))|exact z_auto|exact c_A (a2)|fail))|refine thenA_n ?_|refine thenA_r ?_|refine thenA_e ?_|refine inB_n ?_|refine inB_r ?_|refine inB_hit ?_|refine inB_miss rfl ?_|((first|refine AL_cl rfl rfl rfl ⟨fun hc=>?_,fun hc=>?_⟩|refine AD_cl rfl rfl rfl ⟨fun hc=>?_,fun hc=>?_⟩) <;> (fail_if_success (have q:(true = true):=hc)) <;> (fail_if_success (have q:(false = false):=hc)) <;> (repeat rw [List.length_map] at hc) <;> (try exact absd hc))|refine AW_cond_nil rfl rfl (fun hc=>?_) ?_))
 refine rt1 ?_
 exact rv_per rfl
theorem rwd_Of (s:ByteArray) (hs:s.size ≤ 1000000):Fn Tryz.prog 32 [sC s] (.per (rawP (.string (ba (wofL s.data.toList))))):=by
 by_cases h0:s = ⟨#[]⟩
 · subst h0
   refine fi Tryz.func32 Tryz.ntmps32 ?_
   (refine w0 ?_;(repeat' first|refine W2.mk ?_ ?_|refine W1.mk fun hc=>?_))
   refine rt1 ?_
   exact rv_per rfl
 · have h1:¬ s.data.toList = []:=fun q=>h0 (ba_ext q)
   have h1':=fun (q:s.toList = (⟨#[]⟩:ByteArray).toList)=>h0 ((toL_inj' _ _).1 q)
   have hlen:s.data.toList.length = s.size:=by rw [Array.length_toList];rfl
   have hW:wofL s.data.toList = s.data.toList.flatMap wofC:=by unfold wofL;rw [if_neg h1]
   rw [hW]
   clear hW
   refine fi Tryz.func32 Tryz.ntmps32 ?_
   (refine w0 ?_;(repeat' first|refine W2.mk ?_ ?_|refine W1.mk fun hc=>?_))
   refine AW_le (Le_nil 3 600 5 1 rfl rfl) ?_
   refine AW_loopP (X:=Nat) (fun i=>i ≤ s.size) (fun i=>mkSt [(0,sC s),(3,.row 600 0),(4,iC .i64 (i:Nat))] [(600,.row 5 1 (((s.data.toList.take i).flatMap wofC).map byteP))]) (fun i=>s.size - i) 0 (Nat.zero_le _) ?_ ?_
   · exact le_auto
   · intro i hi
     by_cases hl:i < s.size
     · have hil:i < s.data.toList.length:=by omega
       have hT:=wof_take hil
       have a1:=rwd_plain s.data.toList[i]
       have hc:=s.data.toList[i].toNat_lt
       have hwl:=wof_len (l:=s.data.toList.take i)
       rw [List.length_take] at hwl
       cases hp:plainC s.data.toList[i] with
       | true=>
         rw [hp] at a1
         have hwc:wofC s.data.toList[i] = [s.data.toList[i]]:=by unfold wofC;rw [if_pos hp]
         rw [hwc] at hT
         generalize (s.data.toList.take i).flatMap wofC = W at *
         (have kc1:=a1;refine w0 ?_;(repeat' first|refine W2.mk ?_ ?_|refine W1.mk fun hc=>?_);all_goals clear kc1)
         refine ⟨i + 1,by omega,by omega,?_⟩
         rw [hT]
         exact le_auto
       | false=>
         rw [hp] at a1
         have hwc:wofC s.data.toList[i] = [45,UInt8.ofNat (hexN (s.data.toList[i].toNat / 16)),UInt8.ofNat (hexN (s.data.toList[i].toNat % 16))]:=by unfold wofC;rw [if_neg (by rw [hp];decide)]
         rw [hwc] at hT
         have w1:IntKind.i64.wrap ((s.data.toList[i].toNat:Int).tdiv 16) = ((s.data.toList[i].toNat / 16:Nat):Int):=by
           rw [Int.tdiv_eq_ediv_of_nonneg (by omega),wrap_id64 (by omega) (by omega)];omega
         have w2:(s.data.toList[i].toNat:Int).tmod 16 = ((s.data.toList[i].toNat % 16:Nat):Int):=by rw [Int.tmod_eq_emod_of_nonneg (by omega)];omega
         have q1:=rwd_hex (s.data.toList[i].toNat / 16) (by omega)
         have q2:=rwd_hex (s.data.toList[i].toNat % 16) (by omega)
         generalize UInt8.ofNat (hexN (s.data.toList[i].toNat / 16)) = d1 at *
         generalize UInt8.ofNat (hexN (s.data.toList[i].toNat % 16)) = d2 at *
         generalize s.data.toList[i].toNat / 16 = n1 at *
         generalize s.data.toList[i].toNat % 16 = n2 at *
         have hT':(s.data.toList.take (i + 1)).flatMap wofC = (((s.data.toList.take i).flatMap wofC ++ [45]) ++ [d1]) ++ [d2]:=by rw [hT];simp
         generalize (s.data.toList.take i).flatMap wofC = W at *
         (repeat' (first|refine AW_seq ?_|refine AW_block ?_|refine AW_skip ?_|refine AW_exit ?_|refine AW_ret ?_|refine AW_region ?_|refine AW_draw mixed0 ?_|refine AL_nil ?_|refine AD_nil (by kernel_rfl) ?_|(refine AW_cl rfl rfl ⟨fun hc=>?_,fun hc=>?_⟩ <;> (repeat rw [List.length_map] at hc) <;> (try exact absd hc))|((first|apply AL_t rfl|apply AL_0 rfl|apply AD_t rfl|apply AD_0 rfl);focus (first|((apply u_k 8;(focus rfl);exact op_quo ⟨rfl,rfl,rfl⟩ rfl rfl rfl (by decide) w1))|(apply u_g;(focus rfl);apply op_gyes rfl rfl rfl rfl rfl;((apply u_k 8;(focus rfl);exact op_quo ⟨rfl,rfl,rfl⟩ rfl rfl rfl (by decide) w1)))|((apply u_k 8;(focus rfl);exact op_rem ⟨rfl,rfl,rfl⟩ rfl rfl rfl (by decide) w2))|(apply u_g;(focus rfl);apply op_gyes rfl rfl rfl rfl rfl;((apply u_k 8;(focus rfl);exact op_rem ⟨rfl,rfl,rfl⟩ rfl rfl rfl (by decide) w2)))|exact z_auto|exact c_A (a1)|((refine c_F (q1) (hg:=?_);((repeat (first|exact GL.nil|(refine GL.cons ?_ ?_;focus (first|exact gl_per rfl|exact gl_lst rfl|exact gl_row rfl rfl rfl|exact gl_bor rfl|exact gl_nil rfl|exact gl_nil' rfl))));done)))|(apply u_g;(focus rfl);apply op_gyes rfl rfl rfl rfl rfl;((refine c_F (q1) (hg:=?_);((repeat (first|exact GL.nil|(refine GL.cons ?_ ?_;focus (first|exact gl_per rfl|exact gl_lst rfl|exact gl_row rfl rfl rfl|exact gl_bor rfl|exact gl_nil rfl|exact gl_nil' rfl))));done))))|((refine c_F (q2) (hg:=?_);((repeat (first|exact GL.nil|(refine GL.cons ?_ ?_;focus (first|exact gl_per rfl|exact gl_lst rfl|exact gl_row rfl rfl rfl|exact gl_bor rfl|exact gl_nil rfl|exact gl_nil' rfl))));done)))|(apply u_g;(focus rfl);apply op_gyes rfl rfl rfl rfl rfl;((refine c_F (q2) (hg:=?_);((repeat (first|exact GL.nil|(refine GL.cons ?_ ?_;focus (first|exact gl_per rfl|exact gl_lst rfl|exact gl_row rfl rfl rfl|exact gl_bor rfl|exact gl_nil rfl|exact gl_nil' rfl))));done))))|fail))|refine thenA_n ?_|refine thenA_r ?_|refine thenA_e ?_|refine inB_n ?_|refine inB_r ?_|refine inB_hit ?_|refine inB_miss rfl ?_|((first|refine AL_cl rfl rfl rfl ⟨fun hc=>?_,fun hc=>?_⟩|refine AD_cl rfl rfl rfl ⟨fun hc=>?_,fun hc=>?_⟩) <;> (fail_if_success (have q:(true = true):=hc)) <;> (fail_if_success (have q:(false = false):=hc)) <;> (repeat rw [List.length_map] at hc) <;> (try exact absd hc))|refine AW_cond_nil rfl rfl (fun hc=>?_) ?_))
         refine ⟨i + 1,by omega,by omega,?_⟩
         rw [hT',List.map_append,List.map_append,List.map_append]
         exact le_auto
     · have hT:s.data.toList.take i = s.data.toList:=List.take_of_length_le (by omega)
       rw [hT]
       generalize s.data.toList.flatMap wofC = W at *
       (refine w0 ?_;(repeat' first|refine W2.mk ?_ ?_|refine W1.mk fun hc=>?_))
       refine rt1 ?_
       exact rv_per rfl
end
section
theorem rtr_Line_0 (b:List UInt8) (m:Msg) (e:Int) (a1:Fn Tryz.prog 21 [.per (bysP b)] (.tup2 (.per (msP m)) (inR e))) (he:e ≠ 0):Fn Tryz.prog 12 [.per (bysP b)] (.per (rawP (.string (ba ([106,117,110,107] ++ 32 :: numW e))))):=by
 have a2:=rtr_num e
 have hz:(ba (32 :: numW e)).size ≤ 21:=by rw [ba_sz];have:=numW_len e;simp;omega
 have fin:ba ([106,117,110,107] ++ 32 :: numW e) = (⟨#[106,117,110,107]⟩:ByteArray) ++ ba (32 :: numW e):=by show _ = ba [106,117,110,107] ++ _;rw [ba_app]
 rw [fin]
 have zl:(⟨#[106,117,110,107]⟩:ByteArray).size = 4:=rfl
 clear fin
 generalize ba (32 :: numW e) = D at *
 refine fi Tryz.func12 Tryz.ntmps12 ?_
 (have kc1:=a1;have kc2:=a2;refine w0 ?_;(repeat' first|refine W2.mk ?_ ?_|refine W1.mk fun hc=>?_);all_goals clear kc2 kc1)
 refine rt1 ?_
 exact rv_per rfl
theorem rtr_Line_1t (b:List UInt8) (m:Msg) (c:m.kind = 1) (hw:m.wants = true) (a1:Fn Tryz.prog 21 [.per (bysP b)] (.tup2 (.per (msP m)) (inR 0))):Fn Tryz.prog 12 [.per (bysP b)] (.per (rawP (.string (ba (joinL (lineW m)))))):=by
 have nx1:=rtr_num (m.ses)
 have zx1:(ba (32 :: numW (m.ses))).size ≤ 21:=by rw [ba_sz];have:=numW_len (m.ses);simp;omega
 have nx2:=rtr_num (m.num)
 have zx2:(ba (32 :: numW (m.num))).size ≤ 21:=by rw [ba_sz];have:=numW_len (m.num);simp;omega
 have nx3:=rtr_num (m.lim)
 have zx3:(ba (32 :: numW (m.lim))).size ≤ 21:=by rw [ba_sz];have:=numW_len (m.lim);simp;omega
 have nx4:=rtr_num (m.seed)
 have zx4:(ba (32 :: numW (m.seed))).size ≤ 21:=by rw [ba_sz];have:=numW_len (m.seed);simp;omega
 have nx5:=rtr_num (m.bits)
 have zx5:(ba (32 :: numW (m.bits))).size ≤ 21:=by rw [ba_sz];have:=numW_len (m.bits);simp;omega
 have nx6:=rtr_num (1)
 have zx6:(ba (32 :: numW (1))).size ≤ 21:=by rw [ba_sz];have:=numW_len (1);simp;omega
 have nx7:=rtr_num ((m.flt.length:Nat))
 have zx7:(ba (32 :: numW ((m.flt.length:Nat)))).size ≤ 21:=by rw [ba_sz];have:=numW_len ((m.flt.length:Nat));simp;omega
 have nx8:=rtr_num ((m.know.length:Nat))
 have zx8:(ba (32 :: numW ((m.know.length:Nat)))).size ≤ 21:=by rw [ba_sz];have:=numW_len ((m.know.length:Nat));simp;omega
 have nx9:=rtr_num ((m.there.length:Nat))
 have zx9:(ba (32 :: numW ((m.there.length:Nat)))).size ≤ 21:=by rw [ba_sz];have:=numW_len ((m.there.length:Nat));simp;omega
 have fin:ba (joinL (lineW m)) = ((((((((⟨#[104,101,108,108,111]⟩:ByteArray) ++ (ba (32 :: numW (m.ses)) ++ ba (32 :: numW (m.num)))) ++ ba (32 :: numW (m.lim))) ++ ba (32 :: numW (m.seed))) ++ ba (32 :: numW (m.bits))) ++ ba (32 :: numW (1))) ++ ba (32 :: numW ((m.flt.length:Nat)))) ++ ba (32 :: numW ((m.know.length:Nat)))) ++ ba (32 :: numW ((m.there.length:Nat))):=by
   have e0:(⟨#[104,101,108,108,111]⟩:ByteArray) = (ba [104,101,108,108,111]):=rfl
   rw [e0]
   unfold lineW moreW nameK
   simp only [if_pos c]
   simp only [hw,if_true]
   simp only [joinL,ba_app]
   congr 1
   simp
 rw [fin]
 have zl:(⟨#[104,101,108,108,111]⟩:ByteArray).size = 5:=rfl
 clear fin
 generalize ba (32 :: numW (m.ses)) = x1 at *
 generalize ba (32 :: numW (m.num)) = x2 at *
 generalize ba (32 :: numW (m.lim)) = x3 at *
 generalize ba (32 :: numW (m.seed)) = x4 at *
 generalize ba (32 :: numW (m.bits)) = x5 at *
 generalize ba (32 :: numW (1)) = x6 at *
 generalize ba (32 :: numW ((m.flt.length:Nat))) = x7 at *
 generalize ba (32 :: numW ((m.know.length:Nat))) = x8 at *
 generalize ba (32 :: numW ((m.there.length:Nat))) = x9 at *
 refine fi Tryz.func12 Tryz.ntmps12 ?_
 (have kc1:=a1;have kf1:=nx1;have kf2:=nx2;have kf3:=nx3;have kf4:=nx4;have kf5:=nx5;have kf6:=nx6;have kf7:=nx7;have kf8:=nx8;have kf9:=nx9;refine w0 ?_;(repeat' first|refine W2.mk ?_ ?_|refine W1.mk fun hc=>?_);all_goals clear kf9 kf8 kf7 kf6 kf5 kf4 kf3 kf2 kf1 kc1)
 refine rt1 ?_
 exact rv_per rfl
theorem rtr_Line_1f (b:List UInt8) (m:Msg) (c:m.kind = 1) (hw:m.wants = false) (a1:Fn Tryz.prog 21 [.per (bysP b)] (.tup2 (.per (msP m)) (inR 0))):Fn Tryz.prog 12 [.per (bysP b)] (.per (rawP (.string (ba (joinL (lineW m)))))):=by
 have nx1:=rtr_num (m.ses)
 have zx1:(ba (32 :: numW (m.ses))).size ≤ 21:=by rw [ba_sz];have:=numW_len (m.ses);simp;omega
 have nx2:=rtr_num (m.num)
 have zx2:(ba (32 :: numW (m.num))).size ≤ 21:=by rw [ba_sz];have:=numW_len (m.num);simp;omega
 have nx3:=rtr_num (m.lim)
 have zx3:(ba (32 :: numW (m.lim))).size ≤ 21:=by rw [ba_sz];have:=numW_len (m.lim);simp;omega
 have nx4:=rtr_num (m.seed)
 have zx4:(ba (32 :: numW (m.seed))).size ≤ 21:=by rw [ba_sz];have:=numW_len (m.seed);simp;omega
 have nx5:=rtr_num (m.bits)
 have zx5:(ba (32 :: numW (m.bits))).size ≤ 21:=by rw [ba_sz];have:=numW_len (m.bits);simp;omega
 have nx6:=rtr_num (0)
 have zx6:(ba (32 :: numW (0))).size ≤ 21:=by rw [ba_sz];have:=numW_len (0);simp;omega
 have nx7:=rtr_num ((m.flt.length:Nat))
 have zx7:(ba (32 :: numW ((m.flt.length:Nat)))).size ≤ 21:=by rw [ba_sz];have:=numW_len ((m.flt.length:Nat));simp;omega
 have nx8:=rtr_num ((m.know.length:Nat))
 have zx8:(ba (32 :: numW ((m.know.length:Nat)))).size ≤ 21:=by rw [ba_sz];have:=numW_len ((m.know.length:Nat));simp;omega
 have nx9:=rtr_num ((m.there.length:Nat))
 have zx9:(ba (32 :: numW ((m.there.length:Nat)))).size ≤ 21:=by rw [ba_sz];have:=numW_len ((m.there.length:Nat));simp;omega
 have fin:ba (joinL (lineW m)) = ((((((((⟨#[104,101,108,108,111]⟩:ByteArray) ++ (ba (32 :: numW (m.ses)) ++ ba (32 :: numW (m.num)))) ++ ba (32 :: numW (m.lim))) ++ ba (32 :: numW (m.seed))) ++ ba (32 :: numW (m.bits))) ++ ba (32 :: numW (0))) ++ ba (32 :: numW ((m.flt.length:Nat)))) ++ ba (32 :: numW ((m.know.length:Nat)))) ++ ba (32 :: numW ((m.there.length:Nat))):=by
   have e0:(⟨#[104,101,108,108,111]⟩:ByteArray) = (ba [104,101,108,108,111]):=rfl
   rw [e0]
   unfold lineW moreW nameK
   simp only [if_pos c]
   simp only [hw,Bool.false_eq_true,if_false]
   simp only [joinL,ba_app]
   congr 1
   simp
 rw [fin]
 have zl:(⟨#[104,101,108,108,111]⟩:ByteArray).size = 5:=rfl
 clear fin
 generalize ba (32 :: numW (m.ses)) = x1 at *
 generalize ba (32 :: numW (m.num)) = x2 at *
 generalize ba (32 :: numW (m.lim)) = x3 at *
 generalize ba (32 :: numW (m.seed)) = x4 at *
 generalize ba (32 :: numW (m.bits)) = x5 at *
 generalize ba (32 :: numW (0)) = x6 at *
 generalize ba (32 :: numW ((m.flt.length:Nat))) = x7 at *
 generalize ba (32 :: numW ((m.know.length:Nat))) = x8 at *
 generalize ba (32 :: numW ((m.there.length:Nat))) = x9 at *
 refine fi Tryz.func12 Tryz.ntmps12 ?_
 (have kc1:=a1;have kf1:=nx1;have kf2:=nx2;have kf3:=nx3;have kf4:=nx4;have kf5:=nx5;have kf6:=nx6;have kf7:=nx7;have kf8:=nx8;have kf9:=nx9;refine w0 ?_;(repeat' first|refine W2.mk ?_ ?_|refine W1.mk fun hc=>?_);all_goals clear kf9 kf8 kf7 kf6 kf5 kf4 kf3 kf2 kf1 kc1)
 refine rt1 ?_
 exact rv_per rfl
theorem rtr_Line_2 (b:List UInt8) (m:Msg) (c:m.kind = 2) (a1:Fn Tryz.prog 21 [.per (bysP b)] (.tup2 (.per (msP m)) (inR 0))):Fn Tryz.prog 12 [.per (bysP b)] (.per (rawP (.string (ba (joinL (lineW m)))))):=by
 have nx1:=rtr_num (m.ses)
 have zx1:(ba (32 :: numW (m.ses))).size ≤ 21:=by rw [ba_sz];have:=numW_len (m.ses);simp;omega
 have nx2:=rtr_num (m.num)
 have zx2:(ba (32 :: numW (m.num))).size ≤ 21:=by rw [ba_sz];have:=numW_len (m.num);simp;omega
 have nP3:=rtr_pick m.same (ba [32,115,97,109,101]) (ba [32,111,116,104,101,114])
 have zP3:(if m.same = true then (ba [32,115,97,109,101]) else (ba [32,111,116,104,101,114])).size ≤ 10:=by split <;> decide
 have fin:ba (joinL (lineW m)) = ((⟨#[97,110,115,119,101,114]⟩:ByteArray) ++ (ba (32 :: numW (m.ses)) ++ ba (32 :: numW (m.num)))) ++ (if m.same = true then (ba [32,115,97,109,101]) else (ba [32,111,116,104,101,114])):=by
   have e0:(⟨#[97,110,115,119,101,114]⟩:ByteArray) = (ba [97,110,115,119,101,114]):=rfl
   rw [e0]
   unfold lineW moreW nameK
   simp only [if_neg (show ¬ m.kind = 1 by omega)]
   simp only [if_pos c]
   cases m.same <;> simp only [if_true,Bool.false_eq_true,if_false] <;> simp only [joinL,ba_app] <;> congr 1 <;> simp
 rw [fin]
 have zl:(⟨#[97,110,115,119,101,114]⟩:ByteArray).size = 6:=rfl
 clear fin
 generalize ba (32 :: numW (m.ses)) = x1 at *
 generalize ba (32 :: numW (m.num)) = x2 at *
 generalize (if m.same = true then (ba [32,115,97,109,101]) else (ba [32,111,116,104,101,114])) = P3 at *
 refine fi Tryz.func12 Tryz.ntmps12 ?_
 (have kc1:=a1;have kf1:=nx1;have kf2:=nx2;have kc2:=nP3;refine w0 ?_;(repeat' first|refine W2.mk ?_ ?_|refine W1.mk fun hc=>?_);all_goals clear kc2 kf2 kf1 kc1)
 refine rt1 ?_
 exact rv_per rfl
theorem rtr_Line_3 (b:List UInt8) (m:Msg) (c:m.kind = 3) (a1:Fn Tryz.prog 21 [.per (bysP b)] (.tup2 (.per (msP m)) (inR 0))):Fn Tryz.prog 12 [.per (bysP b)] (.per (rawP (.string (ba (joinL (lineW m)))))):=by
 have nx1:=rtr_num (m.ses)
 have zx1:(ba (32 :: numW (m.ses))).size ≤ 21:=by rw [ba_sz];have:=numW_len (m.ses);simp;omega
 have nx2:=rtr_num (m.num)
 have zx2:(ba (32 :: numW (m.num))).size ≤ 21:=by rw [ba_sz];have:=numW_len (m.num);simp;omega
 have nx3:=rtr_num (m.nxt)
 have zx3:(ba (32 :: numW (m.nxt))).size ≤ 21:=by rw [ba_sz];have:=numW_len (m.nxt);simp;omega
 have fin:ba (joinL (lineW m)) = ((⟨#[112,117,108,108]⟩:ByteArray) ++ (ba (32 :: numW (m.ses)) ++ ba (32 :: numW (m.num)))) ++ ba (32 :: numW (m.nxt)):=by
   have e0:(⟨#[112,117,108,108]⟩:ByteArray) = (ba [112,117,108,108]):=rfl
   rw [e0]
   unfold lineW moreW nameK
   simp only [if_neg (show ¬ m.kind = 1 by omega)]
   simp only [if_neg (show ¬ m.kind = 2 by omega)]
   simp only [if_pos c]
   simp only [joinL,ba_app]
   congr 1
   simp
 rw [fin]
 have zl:(⟨#[112,117,108,108]⟩:ByteArray).size = 4:=rfl
 clear fin
 generalize ba (32 :: numW (m.ses)) = x1 at *
 generalize ba (32 :: numW (m.num)) = x2 at *
 generalize ba (32 :: numW (m.nxt)) = x3 at *
 refine fi Tryz.func12 Tryz.ntmps12 ?_
 (have kc1:=a1;have kf1:=nx1;have kf2:=nx2;have kf3:=nx3;refine w0 ?_;(repeat' first|refine W2.mk ?_ ?_|refine W1.mk fun hc=>?_);all_goals clear kf3 kf2 kf1 kc1)
 refine rt1 ?_
 exact rv_per rfl
theorem rtr_Line_5 (b:List UInt8) (m:Msg) (c:m.kind = 5) (hi:m.its.length ≤ 1000000) (a1:Fn Tryz.prog 21 [.per (bysP b)] (.tup2 (.per (msP m)) (inR 0))):Fn Tryz.prog 12 [.per (bysP b)] (.per (rawP (.string (ba (joinL (lineW m)))))):=by
 have nx1:=rtr_num (m.ses)
 have zx1:(ba (32 :: numW (m.ses))).size ≤ 21:=by rw [ba_sz];have:=numW_len (m.ses);simp;omega
 have nx2:=rtr_num (m.num)
 have zx2:(ba (32 :: numW (m.num))).size ≤ 21:=by rw [ba_sz];have:=numW_len (m.num);simp;omega
 have nx3:=rtr_num (m.nxt)
 have zx3:(ba (32 :: numW (m.nxt))).size ≤ 21:=by rw [ba_sz];have:=numW_len (m.nxt);simp;omega
 have nx5:=rtr_num ((m.its.length:Nat))
 have zx5:(ba (32 :: numW ((m.its.length:Nat)))).size ≤ 21:=by rw [ba_sz];have:=numW_len ((m.its.length:Nat));simp;omega
 have nx6:=rtr_num ((sizes m.its:Nat))
 have zx6:(ba (32 :: numW ((sizes m.its:Nat)))).size ≤ 21:=by rw [ba_sz];have:=numW_len ((sizes m.its:Nat));simp;omega
 have nP4:=rtr_pick m.last (ba [32,108,97,115,116]) (ba [32,109,111,114,101])
 have zP4:(if m.last = true then (ba [32,108,97,115,116]) else (ba [32,109,111,114,101])).size ≤ 10:=by split <;> decide
 have nS:=ref_Size m.its (by omega)
 have fin:ba (joinL (lineW m)) = (((((⟨#[98,97,116,99,104]⟩:ByteArray) ++ (ba (32 :: numW (m.ses)) ++ ba (32 :: numW (m.num)))) ++ ba (32 :: numW (m.nxt))) ++ (if m.last = true then (ba [32,108,97,115,116]) else (ba [32,109,111,114,101]))) ++ ba (32 :: numW ((m.its.length:Nat)))) ++ ba (32 :: numW ((sizes m.its:Nat))):=by
   have e0:(⟨#[98,97,116,99,104]⟩:ByteArray) = (ba [98,97,116,99,104]):=rfl
   rw [e0]
   unfold lineW moreW nameK
   simp only [if_neg (show ¬ m.kind = 1 by omega)]
   simp only [if_neg (show ¬ m.kind = 2 by omega)]
   simp only [if_neg (show ¬ m.kind = 3 by omega)]
   simp only [if_neg (show ¬ m.kind = 4 by omega)]
   simp only [if_pos c]
   cases m.last <;> simp only [if_true,Bool.false_eq_true,if_false] <;> simp only [joinL,ba_app] <;> congr 1 <;> simp
 rw [fin]
 have zl:(⟨#[98,97,116,99,104]⟩:ByteArray).size = 5:=rfl
 clear fin
 generalize ba (32 :: numW (m.ses)) = x1 at *
 generalize ba (32 :: numW (m.num)) = x2 at *
 generalize ba (32 :: numW (m.nxt)) = x3 at *
 generalize ba (32 :: numW ((m.its.length:Nat))) = x5 at *
 generalize ba (32 :: numW ((sizes m.its:Nat))) = x6 at *
 generalize (if m.last = true then (ba [32,108,97,115,116]) else (ba [32,109,111,114,101])) = P4 at *
 generalize sizes m.its = sz at *
 refine fi Tryz.func12 Tryz.ntmps12 ?_
 (have kc1:=a1;have kf1:=nx1;have kf2:=nx2;have kf3:=nx3;have kf4:=nx5;have kf5:=nx6;have kc2:=nP4;have kc3:=nS;refine w0 ?_;(repeat' first|refine W2.mk ?_ ?_|refine W1.mk fun hc=>?_);all_goals clear kc3 kc2 kf5 kf4 kf3 kf2 kf1 kc1)
 refine rt1 ?_
 exact rv_per rfl
theorem rtr_Line_6 (b:List UInt8) (m:Msg) (c1:m.kind ≠ 1) (c2:m.kind ≠ 2) (c3:m.kind ≠ 3) (c4:m.kind ≠ 4) (c5:m.kind ≠ 5) (a1:Fn Tryz.prog 21 [.per (bysP b)] (.tup2 (.per (msP m)) (inR 0))):Fn Tryz.prog 12 [.per (bysP b)] (.per (rawP (.string (ba (joinL (lineW m)))))):=by
 have nx1:=rtr_num (m.ses)
 have zx1:(ba (32 :: numW (m.ses))).size ≤ 21:=by rw [ba_sz];have:=numW_len (m.ses);simp;omega
 have nx2:=rtr_num (m.num)
 have zx2:(ba (32 :: numW (m.num))).size ≤ 21:=by rw [ba_sz];have:=numW_len (m.num);simp;omega
 have nx3:=rtr_num (m.err)
 have zx3:(ba (32 :: numW (m.err))).size ≤ 21:=by rw [ba_sz];have:=numW_len (m.err);simp;omega
 have fin:ba (joinL (lineW m)) = ((⟨#[114,101,102,117,115,101]⟩:ByteArray) ++ (ba (32 :: numW (m.ses)) ++ ba (32 :: numW (m.num)))) ++ ba (32 :: numW (m.err)):=by
   have e0:(⟨#[114,101,102,117,115,101]⟩:ByteArray) = (ba [114,101,102,117,115,101]):=rfl
   rw [e0]
   unfold lineW moreW nameK
   simp only [if_neg c1,if_neg c2,if_neg c3,if_neg c4,if_neg c5]
   simp only [joinL,ba_app]
   congr 1
   simp
 rw [fin]
 have zl:(⟨#[114,101,102,117,115,101]⟩:ByteArray).size = 6:=rfl
 clear fin
 generalize ba (32 :: numW (m.ses)) = x1 at *
 generalize ba (32 :: numW (m.num)) = x2 at *
 generalize ba (32 :: numW (m.err)) = x3 at *
 refine fi Tryz.func12 Tryz.ntmps12 ?_
 (have kc1:=a1;have kf1:=nx1;have kf2:=nx2;have kf3:=nx3;refine w0 ?_;(repeat' first|refine W2.mk ?_ ?_|refine W1.mk fun hc=>?_);all_goals clear kf3 kf2 kf1 kc1)
 refine rt1 ?_
 exact rv_per rfl
theorem rtr_Line_4 (b:List UInt8) (m:Msg) (c:m.kind = 4) (hs:m.sum < 18446744073709551616) (h1:m.rg.lo.size ≤ 20) (h2:m.rg.hi.size ≤ 20) (a1:Fn Tryz.prog 21 [.per (bysP b)] (.tup2 (.per (msP m)) (inR 0))):Fn Tryz.prog 12 [.per (bysP b)] (.per (rawP (.string (ba (joinL (lineW m)))))):=by
 have nx1:=rtr_num m.ses
 have nx2:=rtr_num m.num
 have zx1:(ba (32 :: numW m.ses)).size ≤ 21:=by rw [ba_sz];have:=numW_len m.ses;simp;omega
 have zx2:(ba (32 :: numW m.num)).size ≤ 21:=by rw [ba_sz];have:=numW_len m.num;simp;omega
 have a2:=rwd_Of m.rg.lo (by omega)
 have a3:=rwd_Of m.rg.hi (by omega)
 have a4:=rtr_pick m.rg.op (ba [43]) (ba (wofL m.rg.hi.data.toList))
 have a5:=rtr_Digits m.sum hs
 have hz:∀ s:ByteArray,s.data.toList.length = s.size:=fun s=>by rw [Array.length_toList];rfl
 have l1:=wofL_len m.rg.lo.data.toList
 have l2:=wofL_len m.rg.hi.data.toList
 rw [hz] at l1 l2
 have z3:(ba (wofL m.rg.lo.data.toList)).size ≤ 100:=by rw [ba_sz];omega
 have z4:(if m.rg.op = true then ba [43] else ba (wofL m.rg.hi.data.toList)).size ≤ 100:=by
   split
   · decide
   · rw [ba_sz];omega
 have z5:(ba (digL m.sum)).size ≤ 20:=by rw [ba_sz];exact digL_len64 hs
 have fin:ba (joinL (lineW m)) = ((((((⟨#[113,117,101,115,116,105,111,110]⟩:ByteArray) ++ (ba (32 :: numW m.ses) ++ ba (32 :: numW m.num))) ++ (⟨#[32]⟩:ByteArray)) ++ ba (wofL m.rg.lo.data.toList)) ++ (⟨#[32]⟩:ByteArray)) ++ (if m.rg.op = true then ba [43] else ba (wofL m.rg.hi.data.toList))) ++ (⟨#[32]⟩:ByteArray) ++ ba (digL m.sum):=by
   have e0:(⟨#[113,117,101,115,116,105,111,110]⟩:ByteArray) = (ba [113,117,101,115,116,105,111,110]):=rfl
   have e1:(⟨#[32]⟩:ByteArray) = ba [32]:=rfl
   rw [e0,e1]
   unfold lineW moreW nameK
   simp only [if_neg (show ¬ m.kind = 1 by omega),if_neg (show ¬ m.kind = 2 by omega),if_neg (show ¬ m.kind = 3 by omega),if_pos c]
   cases m.rg.op <;> simp only [if_true,Bool.false_eq_true,if_false] <;> simp only [joinL,ba_app] <;> congr 1 <;> simp
 rw [fin]
 have zl:(⟨#[113,117,101,115,116,105,111,110]⟩:ByteArray).size = 8:=rfl
 have zb:(⟨#[32]⟩:ByteArray).size = 1:=rfl
 clear fin l1 l2 hz h1 h2
 generalize ba (32 :: numW m.ses) = x1 at *
 generalize ba (32 :: numW m.num) = x2 at *
 generalize (if m.rg.op = true then ba [43] else ba (wofL m.rg.hi.data.toList)) = x4 at *
 generalize ba (wofL m.rg.lo.data.toList) = x3 at *
 generalize ba (wofL m.rg.hi.data.toList) = x6 at *
 generalize ba (digL m.sum) = x5 at *
 refine fi Tryz.func12 Tryz.ntmps12 ?_
 (have kc1:=a1;have kf1:=nx1;have kf2:=nx2;have kf3:=a2;have kf4:=a3;have kc2:=a4;have kc3:=a5;refine w0 ?_;(repeat' first|refine W2.mk ?_ ?_|refine W1.mk fun hc=>?_);all_goals clear kc3 kc2 kf4 kf3 kf2 kf1 kc1)
 refine rt1 ?_
 exact rv_per rfl
theorem rtr_Line (b:List UInt8) (hb:b.length ≤ 1000000):Fn Tryz.prog 12 [.per (bysP b)] (.per (rawP (.string (ba (lineB b))))):=by
 have a1:=rm_Read b hb
 have hI:=rdM_its b
 have hS:=rdM_B (b:=b) hb
 unfold lineB
 generalize rdM b = Q at *
 obtain ⟨m,e⟩:=Q
 dsimp only at a1 hI hS ⊢
 by_cases he:e ≠ 0
 · rw [if_pos he];exact rtr_Line_0 b m e a1 he
 rw [if_neg he]
 have he:e = 0:=Decidable.not_not.1 he
 subst he
 obtain ⟨i1,i2,i3,i4,i5⟩:=hI
 have hR:=i5 rfl
 have hs:=(hS rfl).2
 have hP:=msR_parts hR
 by_cases c1:m.kind = 1
 · cases hw:m.wants with
   | true=>exact rtr_Line_1t b m c1 hw a1
   | false=>exact rtr_Line_1f b m c1 hw a1
 by_cases c2:m.kind = 2
 · exact rtr_Line_2 b m c2 a1
 by_cases c3:m.kind = 3
 · exact rtr_Line_3 b m c3 a1
 by_cases c4:m.kind = 4
 · have:=(rgR_iff _).1 (hP.2.2.2.2.2.2.2.1 c4)
   exact rtr_Line_4 b m c4 hs (by omega) (by omega) a1
 by_cases c5:m.kind = 5
 · exact rtr_Line_5 b m c5 (by omega) a1
 · exact rtr_Line_6 b m c1 c2 c3 c4 c5 a1
end
end Go.Proofs.YthlffkjpklpkfaaGreat
