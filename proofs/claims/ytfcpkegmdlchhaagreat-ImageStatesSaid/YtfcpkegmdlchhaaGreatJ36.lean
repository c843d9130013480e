/- Texts joined: ImS ImT ImV. -/
import Derived.Test.YtfcpkegmdlchhaaGreatJ33
import Derived.Test.YtfcpkegmdlchhaaGreatJ35
import Derived.Test.YtfcpkegmdlchhaaGreatJ16
import Derived.Test.YtfcpkegmdlchhaaGreatJ10
import Derived.Test.YtfcpkegmdlchhaaGreatJ06
set_option maxRecDepth 10000
set_option maxHeartbeats 8000000
namespace Go.Proofs.YtfcpkegmdlchhaaGreat
open Go.RowKit
def longS (s:Sta):Bool:=longRgs s.flt 8 || (longB s.its 24 || longPcs s.know 24)
section
theorem rst_Long (s:Sta):Fn Tryz.prog 7 [stC s] (boR (longS s)):=by
 have a1:=rgs_Long s.flt 8 (by decide)
 have a2:=item_Long s.its 24 (by decide)
 have a3:=rknow_Long s.know 24 (by decide)
 unfold longS
 generalize longRgs s.flt 8 = d1 at *
 generalize longPcs s.know 24 = d2 at *
 generalize longB s.its 24 = d3 at *
 refine fi Tryz.func7 Tryz.ntmps7 ?_
 (have kc1:=a1;have kc2:=a2;have kc3:=a3;refine w0 ?_;(repeat' first|refine W2.mk ?_ ?_|refine W1.mk fun hc=>?_);all_goals clear kc3 kc2 kc1)
 all_goals
   refine rt1 ?_
   refine rv_bool rfl ?_
   first|rfl|(simp [*];done)|(rw [Bool.eq_iff_iff];simp [*];done)|(rw [Bool.eq_iff_iff];simp [*];omega)
theorem rst_Same (s t:Sta) (h1:s.flt.length ≤ 1000000000) (h2:pcsSz s.know) (h3:s.its.length ≤ 1000000000) (h:s = t):Fn Tryz.prog 13 [stC s,stC t] (boR true):=by
 subst h
 have a1:=rgs_Same s.flt s.flt h1
 have a2:=rknow_Same s.know s.know h2
 have a3:=item_Same s.its s.its h3
 rw [decide_eq_true rfl] at a1 a2 a3
 clear h2
 refine fi Tryz.func13 Tryz.ntmps13 ?_
 (have kc1:=a1;have kc2:=a2;have kc3:=a3;refine w0 ?_;(repeat' first|refine W2.mk ?_ ?_|refine W1.mk fun hc=>?_);all_goals clear kc3 kc2 kc1)
 all_goals
   refine rt1 ?_
   refine rv_bool rfl ?_
   first|rfl|(simp;done)
theorem rim_wrap (l:List UInt8) (hl:l.length ≤ 1000000000):Fn Tryz.prog 49 [bytesB l] (ownB (txB l)):=by
 have a1:=ref_Text ⟨l.toArray⟩ (by show l.toArray.size ≤ _;rw [List.size_toArray];omega)
 unfold txB
 refine fi Tryz.func49 Tryz.ntmps49 ?_
 (have kc1:=a1;refine w0 ?_;(repeat' first|refine W2.mk ?_ ?_|refine W1.mk fun hc=>?_);all_goals clear kc1)
 refine rt1 ?_
 exact rv_own rfl rfl rfl
theorem rim_State (s:Sta) (hR:stR s = true) (hP:PrB s.flt s.its s.know):Fn Tryz.prog 12 [stC s] (ownB (staB s)):=by
 obtain ⟨h1,h2,h3,h4,h5,h6⟩:=stR_iff hR
 have a1:=ref_Put [s.id,s.cnt] (by simp) (fun n hn=>by
   simp at hn
   rcases hn with rfl|rfl
   · exact ⟨by omega,by omega⟩
   · exact ⟨by omega,by omega⟩)
 rw [show [s.id,s.cnt].flatMap numI = numI s.id ++ numI s.cnt by simp] at a1
 have hn2:(numI s.id ++ numI s.cnt).length ≤ 1000:=by
   rw [List.length_append]
   have q1:=numI_le s.id ⟨by omega,by omega⟩
   have q2:=numI_le s.cnt ⟨by omega,by omega⟩
   omega
 have b1:=ref_Ranges s.flt hP.flt h4
 have b2:=ref_Items s.its h3 (listB_all h5)
 have b3:=rkc_Know s.know hP.few hP.kln h6
 have a2:=rim_wrap (rgsBy s.flt) (by have:=hP.bf;omega)
 have a3:=rim_wrap (itemsB s.its) (by have:=hP.bi;omega)
 have a4:=rim_wrap (knowB s.know) (by have:=hP.bk;omega)
 have q2:=txB_len (rgsBy s.flt) hP.bf
 have q3:=txB_len (itemsB s.its) hP.bi
 have q4:=txB_len (knowB s.know) hP.bk
 have q5:=hP.bf
 have q6:=hP.bi
 have q7:=hP.bk
 have fin:staB s = (numI s.id ++ numI s.cnt) ++ txB (rgsBy s.flt) ++ txB (itemsB s.its) ++ txB (knowB s.know):=by simp [staB]
 rw [fin]
 clear fin hR hP h1 h2 h3 h4 h5 h6
 generalize numI s.id ++ numI s.cnt = H at *
 generalize txB (rgsBy s.flt) = T1 at *
 generalize txB (itemsB s.its) = T2 at *
 generalize txB (knowB s.know) = T3 at *
 refine fi Tryz.func12 Tryz.ntmps12 ?_
 (have kc1:=a1;have kc2:=b1;have kc3:=b2;have kc4:=b3;have ko1:=a2;have ko2:=a3;have ko3:=a4;refine w0 ?_;(repeat' first|refine W2.mk ?_ ?_|refine W1.mk fun hc=>?_);all_goals clear ko3 ko2 ko1 kc4 kc3 kc2 kc1)
 refine rt1 ?_
 refine rv_own rfl rfl ?_
 show _ = Blk.row _ _ ((H ++ T1 ++ T2 ++ T3).map byteP)
 rw [List.map_append,List.map_append,List.map_append];rfl
end
def longN (n:Nt):Bool:=decide ((n.key.size:Int) > 60) || (decide ((n.body.size:Int) > 200) || (longS n.st || (longB n.its 24 || longPcs n.know 24)))
theorem numI_k {k:Nat} (h:k < 128):(numI (k:Int)).map byteP = [[rawP (.int .u8 (k:Int))]]:=by
 unfold numI
 rw [Int.toNat_natCast,numB_lt h]
 simp only [List.map_cons,List.map_nil]
 have:(UInt8.ofNat k).toNat = k:=by simp;omega
 show [[rawP (.int .u8 (((UInt8.ofNat k).toNat:Nat):Int))]] = _
 rw [this]
section
theorem rim_number (n:Int):Fn Tryz.prog 60 [iC .i64 n] (boR (isNum n)):=by
 unfold isNum
 refine fi Tryz.func60 Tryz.ntmps60 ?_
 (refine w0 ?_;(repeat' first|refine W2.mk ?_ ?_|refine W1.mk fun hc=>?_))
 all_goals
   refine rt1 ?_
   refine rv_bool rfl ?_
   first|(simp [*];done)|(rw [Bool.eq_iff_iff];simp [*];done)|(rw [Bool.eq_iff_iff];simp [*];omega)
theorem rim_Right (n:Nt) (hS:StB n.st) (hk:kOk n.its) (hl:n.its.length ≤ 1000000) (hz:pcsSz n.know):Fn Tryz.prog 16 [ntC n] (boR (ntR n)):=by
 have a1:=rst_Right n.st hS
 have a2:=ref_List n.its hk (by omega) (listB n.its) listB_iff
 have a3:=rknow_Right n.know hz (decide (pcsOk n.know)) (by simp)
 have a4:=rkey_Right n.key
 unfold ntR
 clear hS hk hz
 generalize decide (pcsOk n.know) = d3 at *
 generalize stR n.st = d1 at *
 generalize listB n.its = d2 at *
 generalize keyR n.key = d4 at *
 by_cases c1:n.kind = 1
 · rw [if_pos c1]
   refine fi Tryz.func16 Tryz.ntmps16 ?_
   (have kc1:=a1;refine w0 ?_;(repeat' first|refine W2.mk ?_ ?_|refine W1.mk fun hc=>?_);all_goals clear kc1)
   refine rt1 ?_
   exact rv_bool rfl rfl
 rw [if_neg c1]
 by_cases c2:n.kind = 2
 · rw [if_pos c2]
   refine fi Tryz.func16 Tryz.ntmps16 ?_
   (have kc1:=a4;refine w0 ?_;(repeat' first|refine W2.mk ?_ ?_|refine W1.mk fun hc=>?_);all_goals clear kc1)
   all_goals
     refine rt1 ?_
     refine rv_bool rfl ?_
     first|rfl|(simp [*];done)|(rw [Bool.eq_iff_iff];simp [*];done)|(rw [Bool.eq_iff_iff];simp [*];omega)
 rw [if_neg c2]
 by_cases c3:n.kind = 3
 · rw [if_pos c3]
   refine fi Tryz.func16 Tryz.ntmps16 ?_
   (have kc1:=a4;refine w0 ?_;(repeat' first|refine W2.mk ?_ ?_|refine W1.mk fun hc=>?_);all_goals clear kc1)
   refine rt1 ?_
   exact rv_bool rfl rfl
 rw [if_neg c3]
 by_cases c4:n.kind = 4
 · rw [if_pos c4]
   refine fi Tryz.func16 Tryz.ntmps16 ?_
   (refine w0 ?_;(repeat' (first|refine W2.mk ?_ ?_|refine W1.mk fun hc=>?_|((first|apply AL_t rfl|apply AL_0 rfl|apply AD_t rfl|apply AD_0 rfl);(focus (first|exact c_A (rim_number _)|(apply u_g;(focus rfl);apply op_gyes rfl rfl rfl rfl rfl;first|exact c_A (rim_number _))));refine w0 ?_))))
   all_goals
     refine rt1 ?_
     refine rv_bool rfl ?_
     first|rfl|(simp [*];done)|(rw [Bool.eq_iff_iff];simp [*];done)|(rw [Bool.eq_iff_iff];simp [*];omega)
 rw [if_neg c4]
 by_cases c5:n.kind = 5
 · rw [decide_eq_true c5]
   refine fi Tryz.func16 Tryz.ntmps16 ?_
   (have kc1:=a2;have kc2:=a3;refine w0 ?_;(repeat' (first|refine W2.mk ?_ ?_|refine W1.mk fun hc=>?_|((first|apply AL_t rfl|apply AL_0 rfl|apply AD_t rfl|apply AD_0 rfl);(focus (first|exact c_A (rim_number _)|(apply u_g;(focus rfl);apply op_gyes rfl rfl rfl rfl rfl;first|exact c_A (rim_number _))));refine w0 ?_)));all_goals clear kc2 kc1)
   all_goals
     refine rt1 ?_
     refine rv_bool rfl ?_
     first|rfl|(simp [*];done)|(rw [Bool.eq_iff_iff];simp [*];done)|(rw [Bool.eq_iff_iff];simp [*];omega)
 · rw [decide_eq_false c5]
   simp only [Bool.false_and]
   refine fi Tryz.func16 Tryz.ntmps16 ?_
   (refine w0 ?_;(repeat' first|refine W2.mk ?_ ?_|refine W1.mk fun hc=>?_))
   refine rt1 ?_
   exact rv_bool rfl rfl
theorem rim_Of_1 (n:Nt) (hR:ntR n = true) (c:n.kind = 1) (hP:PrB n.st.flt n.st.its n.st.know) (hs:(staB n.st).length ≤ 100000000):Fn Tryz.prog 18 [ntC n] (ownB (ntB n)):=by
 have hr:stR n.st = true:=by unfold ntR at hR;rw [if_pos c] at hR;exact hR
 have a1:=rim_State n.st hr hP
 have a2:=rim_wrap (staB n.st) (by omega)
 have fin:ntB n = numI 1 ++ txB (staB n.st):=by simp [ntB,c]
 rw [fin]
 have e1:(numI ((1:Nat):Int)).map byteP = [[rawP (.int .u8 (IntKind.u8.wrap n.kind))]]:=by rw [c];exact numI_k (by decide)
 have hq:=txB_len (staB n.st) hs
 clear hR hr hP fin
 generalize txB (staB n.st) = T at *
 generalize staB n.st = B at *
 refine fi Tryz.func18 Tryz.ntmps18 ?_
 (repeat' (first|refine AW_seq ?_|refine AW_block ?_|refine AW_skip ?_|refine AW_exit ?_|refine AW_ret ?_|refine AW_region ?_|refine AW_draw mixed0 ?_|refine AL_nil ?_|refine AD_nil (by kernel_rfl) ?_|(refine AW_cl rfl rfl ⟨fun hc=>?_,fun hc=>?_⟩ <;> (repeat rw [List.length_map] at hc) <;> (try exact absd hc))|((first|apply AL_t rfl|apply AL_0 rfl|apply AD_t rfl|apply AD_0 rfl);focus (first|((apply u_k 15;(focus rfl);solve|(apply u_bslice_row <;> first|exact ⟨rfl,rfl,rfl⟩|rfl|infer_instance|(repeat (first|exact PartsL.nil|(apply PartsL.cons;(focus (first|exact part_raw rfl rfl rfl|exact part_agg rfl|exact part_lst rfl))))))))|(apply u_g;(focus rfl);apply op_gyes rfl rfl rfl rfl rfl;((apply u_k 15;(focus rfl);solve|(apply u_bslice_row <;> first|exact ⟨rfl,rfl,rfl⟩|rfl|infer_instance|(repeat (first|exact PartsL.nil|(apply PartsL.cons;(focus (first|exact part_raw rfl rfl rfl|exact part_agg rfl|exact part_lst rfl)))))))))|exact z_auto|exact c_A (a1)|exact c_A (a2)|fail))|refine thenA_n ?_|refine thenA_r ?_|refine thenA_e ?_|refine inB_n ?_|refine inB_r ?_|refine inB_hit ?_|refine inB_miss rfl ?_|((first|refine AL_cl rfl rfl rfl ⟨fun hc=>?_,fun hc=>?_⟩|refine AD_cl rfl rfl rfl ⟨fun hc=>?_,fun hc=>?_⟩) <;> (fail_if_success (have q:(true = true):=hc)) <;> (fail_if_success (have q:(false = false):=hc)) <;> (repeat rw [List.length_map] at hc) <;> (try exact absd hc))|refine AW_cond_nil rfl rfl (fun hc=>?_) ?_))
 refine rt1 ?_
 refine rv_own rfl rfl ?_
 show _ = Blk.row _ _ ((numI ((1:Nat):Int) ++ T).map byteP)
 rw [List.map_append,e1];rfl
theorem rim_Of_2 (n:Nt) (hR:ntR n = true) (c:n.kind = 2):Fn Tryz.prog 18 [ntC n] (ownB (ntB n)):=by
 have hr:keyR n.key = true ∧ 0 ≤ n.prio ∧ n.prio ≤ 255 ∧ n.body.size ≤ 64:=by
   unfold ntR at hR;rw [if_neg (by omega),if_pos c] at hR;simpa using hR
 obtain ⟨h1,h2,h3,h4⟩:=hr
 have h5:=keyR_sz h1
 have a1:=ref_Text n.key (by omega)
 have a2:=ref_Bytes n.prio ⟨by omega,by omega⟩
 have a3:=ref_Text n.body (by omega)
 have q1:=textB_len n.key (by omega)
 have q2:=numI_le n.prio ⟨by omega,by omega⟩
 have q3:=textB_len n.body (by omega)
 have fin:ntB n = numI 2 ++ textB n.key ++ numI n.prio ++ textB n.body:=by simp [ntB,c]
 rw [fin]
 have e1:(numI ((2:Nat):Int)).map byteP = [[rawP (.int .u8 (IntKind.u8.wrap n.kind))]]:=by rw [c];exact numI_k (by decide)
 clear hR fin h1 h2 h3
 generalize textB n.key = T1 at *
 generalize textB n.body = T2 at *
 generalize numI n.prio = G at *
 refine fi Tryz.func18 Tryz.ntmps18 ?_
 (repeat' (first|refine AW_seq ?_|refine AW_block ?_|refine AW_skip ?_|refine AW_exit ?_|refine AW_ret ?_|refine AW_region ?_|refine AW_draw mixed0 ?_|refine AL_nil ?_|refine AD_nil (by kernel_rfl) ?_|(refine AW_cl rfl rfl ⟨fun hc=>?_,fun hc=>?_⟩ <;> (repeat rw [List.length_map] at hc) <;> (try exact absd hc))|((first|apply AL_t rfl|apply AL_0 rfl|apply AD_t rfl|apply AD_0 rfl);focus (first|((apply u_k 15;(focus rfl);solve|(apply u_bslice_row <;> first|exact ⟨rfl,rfl,rfl⟩|rfl|infer_instance|(repeat (first|exact PartsL.nil|(apply PartsL.cons;(focus (first|exact part_raw rfl rfl rfl|exact part_agg rfl|exact part_lst rfl))))))))|(apply u_g;(focus rfl);apply op_gyes rfl rfl rfl rfl rfl;((apply u_k 15;(focus rfl);solve|(apply u_bslice_row <;> first|exact ⟨rfl,rfl,rfl⟩|rfl|infer_instance|(repeat (first|exact PartsL.nil|(apply PartsL.cons;(focus (first|exact part_raw rfl rfl rfl|exact part_agg rfl|exact part_lst rfl)))))))))|exact z_auto|((refine c_O (a1) (hg:=?_);((repeat (first|exact GL.nil|(refine GL.cons ?_ ?_;focus (first|exact gl_per rfl|exact gl_lst rfl|exact gl_row rfl rfl rfl|exact gl_bor rfl|exact gl_nil rfl|exact gl_nil' rfl))));done)))|(apply u_g;(focus rfl);apply op_gyes rfl rfl rfl rfl rfl;((refine c_O (a1) (hg:=?_);((repeat (first|exact GL.nil|(refine GL.cons ?_ ?_;focus (first|exact gl_per rfl|exact gl_lst rfl|exact gl_row rfl rfl rfl|exact gl_bor rfl|exact gl_nil rfl|exact gl_nil' rfl))));done))))|exact c_A (a2)|((refine c_O (a3) (hg:=?_);((repeat (first|exact GL.nil|(refine GL.cons ?_ ?_;focus (first|exact gl_per rfl|exact gl_lst rfl|exact gl_row rfl rfl rfl|exact gl_bor rfl|exact gl_nil rfl|exact gl_nil' rfl))));done)))|(apply u_g;(focus rfl);apply op_gyes rfl rfl rfl rfl rfl;((refine c_O (a3) (hg:=?_);((repeat (first|exact GL.nil|(refine GL.cons ?_ ?_;focus (first|exact gl_per rfl|exact gl_lst rfl|exact gl_row rfl rfl rfl|exact gl_bor rfl|exact gl_nil rfl|exact gl_nil' rfl))));done))))|fail))|refine thenA_n ?_|refine thenA_r ?_|refine thenA_e ?_|refine inB_n ?_|refine inB_r ?_|refine inB_hit ?_|refine inB_miss rfl ?_|((first|refine AL_cl rfl rfl rfl ⟨fun hc=>?_,fun hc=>?_⟩|refine AD_cl rfl rfl rfl ⟨fun hc=>?_,fun hc=>?_⟩) <;> (fail_if_success (have q:(true = true):=hc)) <;> (fail_if_success (have q:(false = false):=hc)) <;> (repeat rw [List.length_map] at hc) <;> (try exact absd hc))|refine AW_cond_nil rfl rfl (fun hc=>?_) ?_))
 refine rt1 ?_
 refine rv_own rfl rfl ?_
 show _ = Blk.row _ _ ((numI ((2:Nat):Int) ++ T1 ++ G ++ T2).map byteP)
 rw [List.map_append,List.map_append,List.map_append,e1];rfl
theorem rim_Of_3 (n:Nt) (hR:ntR n = true) (c:n.kind = 3):Fn Tryz.prog 18 [ntC n] (ownB (ntB n)):=by
 have h1:keyR n.key = true:=by
   unfold ntR at hR;rw [if_neg (by omega),if_neg (by omega),if_pos c] at hR;exact hR
 have h5:=keyR_sz h1
 have a1:=ref_Text n.key (by omega)
 have q1:=textB_len n.key (by omega)
 have fin:ntB n = numI 3 ++ textB n.key:=by simp [ntB,c]
 rw [fin]
 have e1:(numI ((3:Nat):Int)).map byteP = [[rawP (.int .u8 (IntKind.u8.wrap n.kind))]]:=by rw [c];exact numI_k (by decide)
 clear hR fin h1
 generalize textB n.key = T1 at *
 refine fi Tryz.func18 Tryz.ntmps18 ?_
 (repeat' (first|refine AW_seq ?_|refine AW_block ?_|refine AW_skip ?_|refine AW_exit ?_|refine AW_ret ?_|refine AW_region ?_|refine AW_draw mixed0 ?_|refine AL_nil ?_|refine AD_nil (by kernel_rfl) ?_|(refine AW_cl rfl rfl ⟨fun hc=>?_,fun hc=>?_⟩ <;> (repeat rw [List.length_map] at hc) <;> (try exact absd hc))|((first|apply AL_t rfl|apply AL_0 rfl|apply AD_t rfl|apply AD_0 rfl);focus (first|((apply u_k 15;(focus rfl);solve|(apply u_bslice_row <;> first|exact ⟨rfl,rfl,rfl⟩|rfl|infer_instance|(repeat (first|exact PartsL.nil|(apply PartsL.cons;(focus (first|exact part_raw rfl rfl rfl|exact part_agg rfl|exact part_lst rfl))))))))|(apply u_g;(focus rfl);apply op_gyes rfl rfl rfl rfl rfl;((apply u_k 15;(focus rfl);solve|(apply u_bslice_row <;> first|exact ⟨rfl,rfl,rfl⟩|rfl|infer_instance|(repeat (first|exact PartsL.nil|(apply PartsL.cons;(focus (first|exact part_raw rfl rfl rfl|exact part_agg rfl|exact part_lst rfl)))))))))|exact z_auto|exact c_A (a1)|fail))|refine thenA_n ?_|refine thenA_r ?_|refine thenA_e ?_|refine inB_n ?_|refine inB_r ?_|refine inB_hit ?_|refine inB_miss rfl ?_|((first|refine AL_cl rfl rfl rfl ⟨fun hc=>?_,fun hc=>?_⟩|refine AD_cl rfl rfl rfl ⟨fun hc=>?_,fun hc=>?_⟩) <;> (fail_if_success (have q:(true = true):=hc)) <;> (fail_if_success (have q:(false = false):=hc)) <;> (repeat rw [List.length_map] at hc) <;> (try exact absd hc))|refine AW_cond_nil rfl rfl (fun hc=>?_) ?_))
 refine rt1 ?_
 refine rv_own rfl rfl ?_
 show _ = Blk.row _ _ ((numI ((3:Nat):Int) ++ T1).map byteP)
 rw [List.map_append,e1];rfl
theorem rim_Of_4 (n:Nt) (hR:ntR n = true) (c:n.kind = 4):Fn Tryz.prog 18 [ntC n] (ownB (ntB n)):=by
 have h1:1 ≤ n.ses ∧ isNum n.ses = true:=by
   unfold ntR at hR;rw [if_neg (by omega),if_neg (by omega),if_neg (by omega),if_pos c] at hR;simpa using hR
 have a1:=ref_Bytes n.ses (isNum_ok h1.2)
 have q1:=numI_le n.ses (isNum_ok h1.2)
 have fin:ntB n = numI 4 ++ numI n.ses:=by simp [ntB,c]
 rw [fin]
 have e1:(numI ((4:Nat):Int)).map byteP = [[rawP (.int .u8 (IntKind.u8.wrap n.kind))]]:=by rw [c];exact numI_k (by decide)
 clear hR fin h1
 generalize numI n.ses = T1 at *
 refine fi Tryz.func18 Tryz.ntmps18 ?_
 (repeat' (first|refine AW_seq ?_|refine AW_block ?_|refine AW_skip ?_|refine AW_exit ?_|refine AW_ret ?_|refine AW_region ?_|refine AW_draw mixed0 ?_|refine AL_nil ?_|refine AD_nil (by kernel_rfl) ?_|(refine AW_cl rfl rfl ⟨fun hc=>?_,fun hc=>?_⟩ <;> (repeat rw [List.length_map] at hc) <;> (try exact absd hc))|((first|apply AL_t rfl|apply AL_0 rfl|apply AD_t rfl|apply AD_0 rfl);focus (first|((apply u_k 15;(focus rfl);solve|(apply u_bslice_row <;> first|exact ⟨rfl,rfl,rfl⟩|rfl|infer_instance|(repeat (first|exact PartsL.nil|(apply PartsL.cons;(focus (first|exact part_raw rfl rfl rfl|exact part_agg rfl|exact part_lst rfl))))))))|(apply u_g;(focus rfl);apply op_gyes rfl rfl rfl rfl rfl;((apply u_k 15;(focus rfl);solve|(apply u_bslice_row <;> first|exact ⟨rfl,rfl,rfl⟩|rfl|infer_instance|(repeat (first|exact PartsL.nil|(apply PartsL.cons;(focus (first|exact part_raw rfl rfl rfl|exact part_agg rfl|exact part_lst rfl)))))))))|exact z_auto|exact c_A (a1)|fail))|refine thenA_n ?_|refine thenA_r ?_|refine thenA_e ?_|refine inB_n ?_|refine inB_r ?_|refine inB_hit ?_|refine inB_miss rfl ?_|((first|refine AL_cl rfl rfl rfl ⟨fun hc=>?_,fun hc=>?_⟩|refine AD_cl rfl rfl rfl ⟨fun hc=>?_,fun hc=>?_⟩) <;> (fail_if_success (have q:(true = true):=hc)) <;> (fail_if_success (have q:(false = false):=hc)) <;> (repeat rw [List.length_map] at hc) <;> (try exact absd hc))|refine AW_cond_nil rfl rfl (fun hc=>?_) ?_))
 refine rt1 ?_
 refine rv_own rfl rfl ?_
 show _ = Blk.row _ _ ((numI ((4:Nat):Int) ++ T1).map byteP)
 rw [List.map_append,e1];rfl
theorem rim_Of_5 (n:Nt) (hR:ntR n = true) (c:n.kind = 5) (hP:PrB [] n.its n.know):Fn Tryz.prog 18 [ntC n] (ownB (ntB n)):=by
 have h':=hR
 unfold ntR at h'
 simp only [if_neg (show ¬ n.kind = 1 by omega),if_neg (show ¬ n.kind = 2 by omega),if_neg (show ¬ n.kind = 3 by omega),if_neg (show ¬ n.kind = 4 by omega),Bool.and_eq_true,decide_eq_true_eq] at h'
 obtain ⟨⟨⟨⟨⟨⟨⟨_,a1⟩,a2⟩,a3⟩,a4⟩,a5⟩,a6⟩,a7⟩:=h'
 have hall:=listB_all a6
 have b1:=ref_Put [n.ses,n.num,n.nxt] (by simp) (fun k hk=>by
   simp at hk
   rcases hk with rfl|rfl|rfl
   · exact isNum_ok a2
   · exact isNum_ok a3
   · exact isNum_ok a4)
 have l1:([n.ses,n.num,n.nxt].flatMap numI).length ≤ 27:=by
   have q1:=numI_le _ (isNum_ok a2)
   have q2:=numI_le _ (isNum_ok a3)
   have q3:=numI_le _ (isNum_ok a4)
   simp;omega
 have b2:=ref_Items n.its a5 hall
 have b3:=rkc_Know n.know hP.few hP.kln a7
 have b4:=rim_wrap (itemsB n.its) (by have:=hP.bi;omega)
 have b5:=rim_wrap (knowB n.know) (by have:=hP.bk;omega)
 have q3:=txB_len (itemsB n.its) hP.bi
 have q4:=txB_len (knowB n.know) hP.bk
 have q6:=hP.bi
 have q7:=hP.bk
 have fin:ntB n = numI 5 ++ [n.ses,n.num,n.nxt].flatMap numI ++ txB (itemsB n.its) ++ txB (knowB n.know):=by simp [ntB,c]
 rw [fin]
 have e1:(numI ((5:Nat):Int)).map byteP = [[rawP (.int .u8 (IntKind.u8.wrap n.kind))]]:=by rw [c];exact numI_k (by decide)
 clear fin hR hP a1 a2 a3 a4 a5 a6 a7 hall
 generalize [n.ses,n.num,n.nxt].flatMap numI = H at *
 generalize txB (itemsB n.its) = T1 at *
 generalize txB (knowB n.know) = T2 at *
 refine fi Tryz.func18 Tryz.ntmps18 ?_
 (repeat' (first|refine AW_seq ?_|refine AW_block ?_|refine AW_skip ?_|refine AW_exit ?_|refine AW_ret ?_|refine AW_region ?_|refine AW_draw mixed0 ?_|refine AL_nil ?_|refine AD_nil (by kernel_rfl) ?_|(refine AW_cl rfl rfl ⟨fun hc=>?_,fun hc=>?_⟩ <;> (repeat rw [List.length_map] at hc) <;> (try exact absd hc))|((first|apply AL_t rfl|apply AL_0 rfl|apply AD_t rfl|apply AD_0 rfl);focus (first|((apply u_k 15;(focus rfl);solve|(apply u_bslice_row <;> first|exact ⟨rfl,rfl,rfl⟩|rfl|infer_instance|(repeat (first|exact PartsL.nil|(apply PartsL.cons;(focus (first|exact part_raw rfl rfl rfl|exact part_agg rfl|exact part_lst rfl))))))))|(apply u_g;(focus rfl);apply op_gyes rfl rfl rfl rfl rfl;((apply u_k 15;(focus rfl);solve|(apply u_bslice_row <;> first|exact ⟨rfl,rfl,rfl⟩|rfl|infer_instance|(repeat (first|exact PartsL.nil|(apply PartsL.cons;(focus (first|exact part_raw rfl rfl rfl|exact part_agg rfl|exact part_lst rfl)))))))))|exact z_auto|exact c_A (b1)|exact c_A (b2)|exact c_A (b3)|((refine c_O (b4) (hg:=?_);((repeat (first|exact GL.nil|(refine GL.cons ?_ ?_;focus (first|exact gl_per rfl|exact gl_lst rfl|exact gl_row rfl rfl rfl|exact gl_bor rfl|exact gl_nil rfl|exact gl_nil' rfl))));done)))|(apply u_g;(focus rfl);apply op_gyes rfl rfl rfl rfl rfl;((refine c_O (b4) (hg:=?_);((repeat (first|exact GL.nil|(refine GL.cons ?_ ?_;focus (first|exact gl_per rfl|exact gl_lst rfl|exact gl_row rfl rfl rfl|exact gl_bor rfl|exact gl_nil rfl|exact gl_nil' rfl))));done))))|((refine c_O (b5) (hg:=?_);((repeat (first|exact GL.nil|(refine GL.cons ?_ ?_;focus (first|exact gl_per rfl|exact gl_lst rfl|exact gl_row rfl rfl rfl|exact gl_bor rfl|exact gl_nil rfl|exact gl_nil' rfl))));done)))|(apply u_g;(focus rfl);apply op_gyes rfl rfl rfl rfl rfl;((refine c_O (b5) (hg:=?_);((repeat (first|exact GL.nil|(refine GL.cons ?_ ?_;focus (first|exact gl_per rfl|exact gl_lst rfl|exact gl_row rfl rfl rfl|exact gl_bor rfl|exact gl_nil rfl|exact gl_nil' rfl))));done))))|fail))|refine thenA_n ?_|refine thenA_r ?_|refine thenA_e ?_|refine inB_n ?_|refine inB_r ?_|refine inB_hit ?_|refine inB_miss rfl ?_|((first|refine AL_cl rfl rfl rfl ⟨fun hc=>?_,fun hc=>?_⟩|refine AD_cl rfl rfl rfl ⟨fun hc=>?_,fun hc=>?_⟩) <;> (fail_if_success (have q:(true = true):=hc)) <;> (fail_if_success (have q:(false = false):=hc)) <;> (repeat rw [List.length_map] at hc) <;> (try exact absd hc))|refine AW_cond_nil rfl rfl (fun hc=>?_) ?_))
 refine rt1 ?_
 refine rv_own rfl rfl ?_
 show _ = Blk.row _ _ ((numI ((5:Nat):Int) ++ H ++ T1 ++ T2).map byteP)
 rw [List.map_append,List.map_append,List.map_append,e1];rfl
theorem rim_Of (n:Nt) (hR:ntR n = true) (hP:n.kind = 1 → PrB n.st.flt n.st.its n.st.know) (hs:n.kind = 1 → (staB n.st).length ≤ 100000000) (hQ:n.kind = 5 → PrB [] n.its n.know):Fn Tryz.prog 18 [ntC n] (ownB (ntB n)):=by
 have hk:=ntR_kind hR
 by_cases c1:n.kind = 1
 · exact rim_Of_1 n hR c1 (hP c1) (hs c1)
 by_cases c2:n.kind = 2
 · exact rim_Of_2 n hR c2
 by_cases c3:n.kind = 3
 · exact rim_Of_3 n hR c3
 by_cases c4:n.kind = 4
 · exact rim_Of_4 n hR c4
 · exact rim_Of_5 n hR (by omega) (hQ (by omega))
theorem rim_Plain (n:Nt):Fn Tryz.prog 20 [ntC n] (.per (ntP (plainN n))):=by
 unfold plainN
 by_cases c1:n.kind = 1
 · rw [if_pos c1]
   refine fi Tryz.func20 Tryz.ntmps20 ?_
   (refine w0 ?_;(repeat' first|refine W2.mk ?_ ?_|refine W1.mk fun hc=>?_))
   refine rt1 ?_
   rw [c1]
   exact rv_wk (rv_cA inferInstance inferInstance rfl rfl rfl rfl rfl rfl) aI
 rw [if_neg c1]
 by_cases c2:n.kind = 2
 · rw [if_pos c2]
   refine fi Tryz.func20 Tryz.ntmps20 ?_
   (refine w0 ?_;(repeat' first|refine W2.mk ?_ ?_|refine W1.mk fun hc=>?_))
   refine rt1 ?_
   rw [c2]
   exact rv_wk (rv_cA inferInstance inferInstance rfl rfl rfl rfl rfl rfl) aI
 rw [if_neg c2]
 by_cases c3:n.kind = 3
 · rw [if_pos c3]
   refine fi Tryz.func20 Tryz.ntmps20 ?_
   (refine w0 ?_;(repeat' first|refine W2.mk ?_ ?_|refine W1.mk fun hc=>?_))
   refine rt1 ?_
   rw [c3]
   exact rv_wk (rv_cA inferInstance inferInstance rfl rfl rfl rfl rfl rfl) aI
 rw [if_neg c3]
 by_cases c4:n.kind = 4
 · rw [if_pos c4]
   refine fi Tryz.func20 Tryz.ntmps20 ?_
   (refine w0 ?_;(repeat' first|refine W2.mk ?_ ?_|refine W1.mk fun hc=>?_))
   refine rt1 ?_
   rw [c4]
   exact rv_wk (rv_cA inferInstance inferInstance rfl rfl rfl rfl rfl rfl) aI
 rw [if_neg c4]
 by_cases c5:n.kind = 5
 · rw [if_pos c5]
   refine fi Tryz.func20 Tryz.ntmps20 ?_
   (refine w0 ?_;(repeat' first|refine W2.mk ?_ ?_|refine W1.mk fun hc=>?_))
   refine rt1 ?_
   rw [c5]
   exact rv_wk (rv_cA inferInstance inferInstance rfl rfl rfl rfl rfl rfl) aI
 rw [if_neg c5]
 refine fi Tryz.func20 Tryz.ntmps20 ?_
 (refine w0 ?_;(repeat' first|refine W2.mk ?_ ?_|refine W1.mk fun hc=>?_))
 refine rt1 ?_
 exact rv_wk (rv_cA inferInstance inferInstance rfl rfl rfl rfl rfl rfl) aI
theorem rim_Same (n m:Nt) (h:n = m) (h1:n.st.flt.length ≤ 1000000000) (h2:pcsSz n.st.know) (h3:n.st.its.length ≤ 1000000000) (h4:pcsSz n.know) (h5:n.its.length ≤ 1000000000):Fn Tryz.prog 19 [ntC n,ntC m] (boR true):=by
 subst h
 have a1:=rst_Same n.st n.st h1 h2 h3 rfl
 have a2:=rknow_Same n.know n.know h4
 have a3:=item_Same n.its n.its h5
 rw [decide_eq_true rfl] at a2 a3
 clear h1 h2 h3 h4 h5
 refine fi Tryz.func19 Tryz.ntmps19 ?_
 (have kc1:=a1;have kc2:=a2;have kc3:=a3;refine w0 ?_;(repeat' first|refine W2.mk ?_ ?_|refine W1.mk fun hc=>?_);all_goals clear kc3 kc2 kc1)
 all_goals
   refine rt1 ?_
   refine rv_bool rfl ?_
   first|rfl|(simp;done)
theorem rim_Long (n:Nt):Fn Tryz.prog 14 [ntC n] (boR (longN n)):=by
 have a1:=rst_Long n.st
 have a2:=rknow_Long n.know 24 (by decide)
 have a3:=item_Long n.its 24 (by decide)
 unfold longN
 generalize longS n.st = d1 at *
 generalize longPcs n.know 24 = d2 at *
 generalize longB n.its 24 = d3 at *
 refine fi Tryz.func14 Tryz.ntmps14 ?_
 (have kc1:=a1;have kc2:=a2;have kc3:=a3;refine w0 ?_;(repeat' first|refine W2.mk ?_ ?_|refine W1.mk fun hc=>?_);all_goals clear kc3 kc2 kc1)
 all_goals
   refine rt1 ?_
   refine rv_bool rfl ?_
   first|rfl|(simp [*];done)|(rw [Bool.eq_iff_iff];simp [*];done)|(rw [Bool.eq_iff_iff];simp [*];omega)
end
theorem itemsT_ln:∀ (l:List It) (was:ByteArray),l.all itR = true → (itemsT was l).length ≤ 200 * l.length:=by
 intro l
 induction l with
 | nil=>intro was _;simp [itemsT]
 | cons x l ih=>
   intro was h
   rw [List.all_cons,Bool.and_eq_true] at h
   have h1:=itR_nums h.1
   have h2:=alike_le was x.key
   have q1:=numI_len ((alike was x.key:Nat):Int) (by omega)
   have q2:=textB_len (cutS x.key (alike was x.key)) (by rw [cutS_size];omega)
   have q3:=restB_len h.1
   have q4:=ih x.key h.2
   rw [cutS_size] at q2
   rw [itemsT,List.length_append,List.length_append,List.length_append,List.length_cons]
   omega
theorem itemsB_ln {l:List It} (h:l.all itR = true) (hl:l.length ≤ 4096):(itemsB l).length ≤ 9 + 200 * l.length:=by
 have q1:=numI_len (l.length:Int) (by omega)
 have q2:=itemsT_ln l s0 h
 unfold itemsB
 rw [List.length_append];omega
theorem knowB_ln24 {k:List Pc} (h:pcsOk k) (hL:longPcs k 24 = false):(knowB k).length ≤ 200000:=by
 obtain ⟨h1,h2⟩:=longPcs_sz hL
 have hp:∀ p ∈ k,(pcB p).length ≤ 8000:=fun p hp=>by
   obtain ⟨_,_,h3⟩:=h2 p hp
   obtain ⟨g1,g2⟩:=longKns_sz h3
   obtain ⟨i,hi,rfl⟩:=List.getElem_of_mem hp
   obtain ⟨a,b⟩:=pcsOk_get h hi
   have hk:∀ x ∈ k[i].set,(knB x).length ≤ 400:=fun x hx=>by
     have hx2:=g2 x hx
     obtain ⟨j,hj,rfl⟩:=List.getElem_of_mem hx
     obtain ⟨c1,c2,_,c3⟩:=knsOk_get b hj
     have q1:=numI_len k[i].set[j].rep (by omega)
     have q2:=numI_len (k[i].set[j].runs.length:Int) (by omega)
     have q3:=runsB_len k[i].set[j].runs 0 (by omega) (fun r hr=>by
       obtain ⟨m,hm,rfl⟩:=List.getElem_of_mem hr
       exact (c3 m hm hm).1)
     unfold knB
     rw [List.length_append,List.length_append];omega
   have q1:=rgB_len a
   have q2:=flat_lenC 400 k[i].set hk
   have q3:=numI_len (k[i].set.length:Int) (by omega)
   unfold pcB setB
   rw [List.length_append,List.length_append];omega
 have q1:=flat_lenC 8000 k hp
 have q2:=numI_len (k.length:Int) (by omega)
 unfold knowB
 rw [List.length_append];omega
theorem longPcs_mid {k:List Pc} (hL:longPcs k 24 = false):pcsMid k:=by
 obtain ⟨h1,h2⟩:=longPcs_sz hL
 have e1:∀ l:List Pc,(∀ p ∈ l,p ∈ k) → (l.flatMap Pc.set).length ≤ 16 * l.length ∧ ((l.flatMap Pc.set).flatMap Kn.runs).length ≤ 256 * l.length:=by
   intro l
   induction l with
   | nil=>intro _;simp
   | cons p l ih=>
     intro h
     obtain ⟨i1,i2⟩:=ih (fun q hq=>h q (List.mem_cons_of_mem _ hq))
     obtain ⟨_,_,h3⟩:=h2 p (h p List.mem_cons_self)
     obtain ⟨g1,g2⟩:=longKns_sz h3
     have:∀ s:List Kn,(∀ x ∈ s,(x.runs.length:Int) ≤ 16) → (s.flatMap Kn.runs).length ≤ 16 * s.length:=by
       intro s
       induction s with
       | nil=>intro _;simp
       | cons x s ih=>
         intro h
         have h1:=h x List.mem_cons_self
         have h2:=ih (fun y hy=>h y (List.mem_cons_of_mem _ hy))
         rw [List.flatMap_cons,List.length_append,List.length_cons];omega
     have:=this _ g2
     rw [List.flatMap_cons,List.flatMap_append,List.length_append,List.length_append,List.length_cons]
     constructor <;> omega
 obtain ⟨i1,i2⟩:=e1 k (fun p hp=>hp)
 exact ⟨by omega,by omega,by omega⟩
theorem longB_sz {l:List It} (h:longB l 24 = false):l.length ≤ 24 ∧ kOk l:=by
 unfold longB at h
 rw [Bool.or_eq_false_iff,decide_eq_false_iff_not] at h
 refine ⟨by omega,fun x hx=>?_⟩
 have:=List.any_eq_false.1 h.2 x hx
 simp [itL] at this
 omega
theorem longRgs_sz8 {l:List Rg} (h:longRgs l 8 = false):l.length ≤ 8:=by
 unfold longRgs at h
 rw [Bool.or_eq_false_iff,decide_eq_false_iff_not] at h
 omega
theorem longS_B {s:Sta} (h:longS s = false):StB s ∧ (stR s = true → PrB s.flt s.its s.know ∧ (staB s).length ≤ 900000):=by
 unfold longS at h
 simp only [Bool.or_eq_false_iff] at h
 obtain ⟨h1,h2,h3⟩:=h
 have q1:=longRgs_sz8 h1
 obtain ⟨q2,q3⟩:=longB_sz h2
 have q4:=longPcs_mid h3
 have q5:=longPcs_sz h3
 have q6:=longPcs_pcsSz h3 (by decide)
 refine ⟨⟨by omega,q4,by omega,by omega,q3⟩,fun hr=>?_⟩
 obtain ⟨r1,r2,r3,r4,r5,r6⟩:=stR_iff hr
 have w1:=rgsBy_len r4 (by omega)
 have w2:=itemsB_ln (listB_all r5) r3
 have w3:=knowB_ln24 r6 h3
 have v1:=txB_len (rgsBy s.flt) (by omega)
 have v2:=txB_len (itemsB s.its) (by omega)
 have v3:=txB_len (knowB s.know) (by omega)
 have v4:=numI_le s.id ⟨by omega,by omega⟩
 have v5:=numI_le s.cnt ⟨by omega,by omega⟩
 refine ⟨⟨by omega,q6.2,by omega,by omega,by omega,by omega⟩,?_⟩
 unfold staB
 rw [List.length_append,List.length_append,List.length_append,List.length_append]
 omega
theorem longN_B {n:Nt} (h:longN n = false):NtB n ∧ (n.kind = 5 → ntR n = true → PrB [] n.its n.know) ∧ (ntR n = true → (ntB n).length ≤ 1000000):=by
 unfold longN at h
 simp only [Bool.or_eq_false_iff] at h
 obtain ⟨h1,h2,h3,h4,h5⟩:=h
 obtain ⟨g1,g2⟩:=longS_B h3
 obtain ⟨q2,q3⟩:=longB_sz h4
 have q5:=longPcs_sz h5
 have q6:=longPcs_pcsSz h5 (by decide)
 have w2:n.its.all itR = true → (itemsB n.its).length ≤ 9000:=fun ha=>by
   have:=itemsB_ln ha (by omega);omega
 have w3:pcsOk n.know → (knowB n.know).length ≤ 200000:=fun ha=>knowB_ln24 ha h5
 refine ⟨⟨g1,fun hr=>(g2 hr).1,fun hr=>by have:=(g2 hr).2;omega,by omega,q3,q6.1,q6.2,by omega,fun ha=>by have:=w2 ha;omega,fun ha=>by have:=w3 ha;omega⟩,fun hk hr=>?_,fun hr=>?_⟩
 · unfold ntR at hr
   simp only [if_neg (show ¬ n.kind = 1 by omega),if_neg (show ¬ n.kind = 2 by omega),if_neg (show ¬ n.kind = 3 by omega),if_neg (show ¬ n.kind = 4 by omega),Bool.and_eq_true,decide_eq_true_eq] at hr
   have a1:=w2 (listB_all hr.1.2)
   have a2:=w3 hr.2
   exact ⟨by simp,q6.2,by omega,by simp [rgsBy];exact Nat.le_trans (numI_len 0 (by decide)) (by decide),by omega,by omega⟩
 · have hk:=ntR_kind hr
   have v0:=numI_le n.kind ⟨by omega,by omega⟩
   unfold ntR at hr
   unfold ntB
   by_cases c1:n.kind = 1
   · rw [if_pos c1] at hr ⊢
     have a1:=(g2 hr).2
     have a2:=txB_len (staB n.st) (by omega)
     rw [List.length_append];omega
   rw [if_neg c1] at hr ⊢
   by_cases c2:n.kind = 2
   · rw [if_pos c2] at hr ⊢
     simp only [Bool.and_eq_true,decide_eq_true_eq] at hr
     have a1:=textB_len n.key (by have:=keyR_sz hr.1;omega)
     have a0:=keyR_sz hr.1
     have a2:=numI_le n.prio ⟨by omega,by omega⟩
     have a3:=textB_len n.body (by omega)
     rw [List.length_append,List.length_append,List.length_append];omega
   rw [if_neg c2] at hr ⊢
   by_cases c3:n.kind = 3
   · rw [if_pos c3] at hr ⊢
     have a0:=keyR_sz hr
     have a1:=textB_len n.key (by omega)
     rw [List.length_append];omega
   rw [if_neg c3] at hr ⊢
   by_cases c4:n.kind = 4
   · rw [if_pos c4] at hr ⊢
     simp only [Bool.and_eq_true] at hr
     have a2:=numI_le n.ses (isNum_ok hr.2)
     rw [List.length_append];omega
   rw [if_neg c4] at hr ⊢
   simp only [Bool.and_eq_true,decide_eq_true_eq] at hr
   have a1:=w2 (listB_all hr.1.2)
   have a2:=w3 hr.2
   have a3:=txB_len (itemsB n.its) (by omega)
   have a4:=txB_len (knowB n.know) (by omega)
   have a5:=numI_le n.ses (isNum_ok hr.1.1.1.1.1.2)
   have a6:=numI_le n.num (isNum_ok hr.1.1.1.1.2)
   have a7:=numI_le n.nxt (isNum_ok hr.1.1.1.2)
   rw [List.length_append,List.length_append,List.length_append,List.length_append,List.length_append];omega
/-- a state that was read is in bounds -/
theorem rdSt_P {l:List UInt8} (hl:l.length ≤ 1000000) (h:(rdSt l).2 = 0):PrB (rdSt l).1.flt (rdSt l).1.its (rdSt l).1.know:=by
 have hlen:=rdSh_len l
 unfold rdSt at h ⊢
 dsimp only at h ⊢
 by_cases c:endSt (rdSh l).2.2.2.2.2.1 (rdSh l).2.2.2.2.2.2 ≠ 0
 · rw [if_pos c] at h;exact absurd h c
 rw [if_neg c] at h ⊢
 unfold rdSp at h ⊢
 by_cases c1:(rdRgs (rdSh l).2.2.1).2 ≠ 0
 · rw [if_pos c1] at h;exact absurd h c1
 rw [if_neg c1] at h ⊢
 by_cases c2:(rdItems (rdSh l).2.2.2.1).2 ≠ 0
 · rw [if_pos c2] at h;exact absurd h c2
 rw [if_neg c2] at h ⊢
 by_cases c3:(rdKnow (rdSh l).2.2.2.2.1).2 ≠ 0
 · rw [if_pos c3] at h;exact absurd h c3
 rw [if_neg c3] at h ⊢
 have q1:=rdRgs_back (Decidable.not_not.1 c1)
 have q2:=rdItems_back (Decidable.not_not.1 c2)
 have q3:=rdKnow_back (Decidable.not_not.1 c3)
 have q4:=rdKnow_sz (rdSh l).2.2.2.2.1
 split
 · refine ⟨?_,q4.2,?_,?_,?_,?_⟩
   · have:=q1.2.1;simp only;omega
   · have:=q3.2.1;simp only;omega
   · simp only;rw [q1.2.2];omega
   · simp only;rw [q2.2.2];omega
   · simp only;rw [q3.2.2];omega
 · rename_i c4
   rw [if_neg c4] at h;simp at h
theorem fewK_nil:fewK []:=fun p hp=>by cases hp
theorem rdNt_B {b:List UInt8} (hb:b.length ≤ 1000000):StB (rdNt b).1.st ∧ pcsSz (rdNt b).1.know ∧ (rdNt b).1.its.length ≤ 4096 ∧ kOk (rdNt b).1.its ∧
   ((rdNt b).2 = 0 → ((rdNt b).1.kind = 1 → PrB (rdNt b).1.st.flt (rdNt b).1.st.its (rdNt b).1.st.know ∧ (staB (rdNt b).1.st).length ≤ 100000000) ∧ ((rdNt b).1.kind = 5 → PrB [] (rdNt b).1.its (rdNt b).1.know)):=by
 have z0:∀ e:Int,e ≠ 0 → StB (({},e):Nt × Int).1.st ∧ pcsSz (({},e):Nt × Int).1.know ∧ (({},e):Nt × Int).1.its.length ≤ 4096 ∧ kOk (({},e):Nt × Int).1.its ∧
   ((({},e):Nt × Int).2 = 0 → ((({},e):Nt × Int).1.kind = 1 → PrB (({},e):Nt × Int).1.st.flt (({},e):Nt × Int).1.st.its (({},e):Nt × Int).1.st.know ∧ (staB (({},e):Nt × Int).1.st).length ≤ 100000000) ∧ ((({},e):Nt × Int).1.kind = 5 → PrB [] (({},e):Nt × Int).1.its (({},e):Nt × Int).1.know)):=
   fun e he=>⟨stB_z,⟨by simp,fun p hp=>by cases hp⟩,by simp,kOk_nil,fun h=>absurd h he⟩
 have hl:=rdNh_len b
 obtain ⟨z1,z2,z3⟩:=rdNh_z b
 unfold rdNt
 dsimp only
 generalize rdNh b = H at *
 obtain ⟨n,x,y,l',e'⟩:=H
 dsimp only at hl z1 z2 z3 ⊢
 by_cases c0:endSt l' e' ≠ 0
 · rw [if_pos c0];exact z0 _ c0
 rw [if_neg c0]
 by_cases c9:(rdNp n x y).2 ≠ 0
 · rw [if_pos c9];exact z0 _ c9
 rw [if_neg c9]
 by_cases c8:ntR (rdNp n x y).1 = true
 · rw [if_pos c8]
   dsimp only
   clear c8 c0
   unfold rdNp at c9 ⊢
   by_cases c1:n.kind = 1
   · simp only [if_pos c1] at c9 ⊢
     by_cases d:(rdSt x).2 ≠ 0
     · rw [if_pos d] at c9;exact absurd d c9
     rw [if_neg d]
     dsimp only
     rw [z2,z3]
     have hs:=st_back (Decidable.not_not.1 d)
     exact ⟨rdSt_B (by omega),⟨by simp,fun p hp=>by cases hp⟩,by simp,kOk_nil,fun _=>⟨fun _=>⟨rdSt_P (by omega) (Decidable.not_not.1 d),by rw [hs.1];omega⟩,fun h5=>by omega⟩⟩
   rw [if_neg c1] at c9 ⊢
   by_cases c5:n.kind = 5
   · simp only [if_pos c5] at c9 ⊢
     by_cases d:(rdItems x).2 ≠ 0
     · rw [if_pos d] at c9;exact absurd d c9
     rw [if_neg d] at c9 ⊢
     by_cases d2:(rdKnow y).2 ≠ 0
     · rw [if_pos d2] at c9;exact absurd d2 c9
     rw [if_neg d2]
     dsimp only
     rw [z1]
     obtain ⟨q1,q2,q3⟩:=rdItems_back (Decidable.not_not.1 d)
     obtain ⟨p1,p2,p3⟩:=rdKnow_back (Decidable.not_not.1 d2)
     have p4:=rdKnow_sz y
     refine ⟨stB_z,p4.1,q2,fun w hw=>?_,fun _=>⟨fun h1=>by omega,fun _=>⟨by simp,p4.2,by omega,by simp [rgsBy];exact Nat.le_trans (numI_len 0 (by decide)) (by decide),by rw [q3];omega,by rw [p3];omega⟩⟩⟩
     rw [List.all_eq_true] at q1
     have:=(itR_nums (q1 w hw)).2.2.2
     omega
   rw [if_neg c5]
   dsimp only
   rw [z1,z2,z3]
   exact ⟨stB_z,⟨by simp,fun p hp=>by cases hp⟩,by simp,kOk_nil,fun _=>⟨fun h1=>absurd h1 c1,fun h5=>absurd h5 c5⟩⟩
 · rw [if_neg c8];exact z0 _ (by decide)
end Go.Proofs.YtfcpkegmdlchhaaGreat
