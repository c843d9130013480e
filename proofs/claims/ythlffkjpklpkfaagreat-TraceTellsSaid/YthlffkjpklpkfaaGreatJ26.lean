/- Texts joined: TcM AbsMix WkB. -/
import Derived.Test.YthlffkjpklpkfaaGreatJ25
import Derived.Test.YthlffkjpklpkfaaGreatJ07
import Derived.Test.YthlffkjpklpkfaaGreatJ03
import Derived.Test.YthlffkjpklpkfaaGreatJ22
set_option maxRecDepth 10000
set_option maxHeartbeats 8000000
namespace Go.Proofs.YthlffkjpklpkfaaGreat
open Go.RowKit
abbrev ownS (l:List (List UInt8)):Ret:=.own 9 1 ((l.map ba).map strP)
section
theorem tr_name (k:Int):Fn Tryz.prog 26 [iC .i64 k] (.per (rawP (.string (ba (nameK k))))):=by
 unfold nameK
 by_cases c1:k = 1
 · rw [if_pos c1]
   refine fi Tryz.func26 Tryz.ntmps26 ?_
   (refine w0 ?_;(repeat' first|refine W2.mk ?_ ?_|refine W1.mk fun hc=>?_))
   refine rt1 ?_
   exact rv_per rfl
 rw [if_neg c1]
 by_cases c2:k = 2
 · rw [if_pos c2]
   refine fi Tryz.func26 Tryz.ntmps26 ?_
   (refine w0 ?_;(repeat' first|refine W2.mk ?_ ?_|refine W1.mk fun hc=>?_))
   refine rt1 ?_
   exact rv_per rfl
 rw [if_neg c2]
 by_cases c3:k = 3
 · rw [if_pos c3]
   refine fi Tryz.func26 Tryz.ntmps26 ?_
   (refine w0 ?_;(repeat' first|refine W2.mk ?_ ?_|refine W1.mk fun hc=>?_))
   refine rt1 ?_
   exact rv_per rfl
 rw [if_neg c3]
 by_cases c4:k = 4
 · rw [if_pos c4]
   refine fi Tryz.func26 Tryz.ntmps26 ?_
   (refine w0 ?_;(repeat' first|refine W2.mk ?_ ?_|refine W1.mk fun hc=>?_))
   refine rt1 ?_
   exact rv_per rfl
 rw [if_neg c4]
 by_cases c5:k = 5
 · rw [if_pos c5]
   refine fi Tryz.func26 Tryz.ntmps26 ?_
   (refine w0 ?_;(repeat' first|refine W2.mk ?_ ?_|refine W1.mk fun hc=>?_))
   refine rt1 ?_
   exact rv_per rfl
 rw [if_neg c5]
 refine fi Tryz.func26 Tryz.ntmps26 ?_
 (refine w0 ?_;(repeat' first|refine W2.mk ?_ ?_|refine W1.mk fun hc=>?_))
 refine rt1 ?_
 exact rv_per rfl
theorem tr_more (m:Msg) (hs:m.sum < 18446744073709551616) (hi:m.its.length ≤ 4096) (h4:m.kind = 4 → m.rg.lo.size ≤ 20 ∧ m.rg.hi.size ≤ 20):Fn Tryz.prog 29 [msC m] (ownS (moreW m)):=by
 unfold moreW
 by_cases c1:m.kind = 1
 · rw [if_pos c1]
   cases hw:m.wants with
   | true=>
     have a1:=tr_numbers [m.lim,m.seed,m.bits,1,(m.flt.length:Nat),(m.know.length:Nat),(m.there.length:Nat)] (by simp)
     refine fi Tryz.func29 Tryz.ntmps29 ?_
     (have kc1:=a1;refine w0 ?_;(repeat' first|refine W2.mk ?_ ?_|refine W1.mk fun hc=>?_);all_goals clear kc1)
     refine rt1 ?_
     exact rv_own rfl rfl rfl
   | false=>
     have a1:=tr_numbers [m.lim,m.seed,m.bits,0,(m.flt.length:Nat),(m.know.length:Nat),(m.there.length:Nat)] (by simp)
     refine fi Tryz.func29 Tryz.ntmps29 ?_
     (have kc1:=a1;refine w0 ?_;(repeat' first|refine W2.mk ?_ ?_|refine W1.mk fun hc=>?_);all_goals clear kc1)
     refine rt1 ?_
     exact rv_own rfl rfl rfl
 rw [if_neg c1]
 by_cases c2:m.kind = 2
 · rw [if_pos c2]
   have a1:=tr_pick m.same (ba [115,97,109,101]) (ba [111,116,104,101,114])
   have e:(if m.same = true then ba [115,97,109,101] else ba [111,116,104,101,114]) = ba (if m.same = true then [115,97,109,101] else [111,116,104,101,114]):=by split <;> rfl
   rw [e] at a1
   generalize (if m.same = true then ([115,97,109,101]:List UInt8) else [111,116,104,101,114]) = W at *
   refine fi Tryz.func29 Tryz.ntmps29 ?_
   (repeat' (first|refine AW_seq ?_|refine AW_block ?_|refine AW_skip ?_|refine AW_exit ?_|refine AW_ret ?_|refine AW_region ?_|refine AW_draw mixed0 ?_|refine AL_nil ?_|refine AD_nil (by kernel_rfl) ?_|(refine AW_cl rfl rfl ⟨fun hc=>?_,fun hc=>?_⟩ <;> (repeat rw [List.length_map] at hc) <;> (try exact absd hc))|((first|apply AL_t rfl|apply AL_0 rfl|apply AD_t rfl|apply AD_0 rfl);focus (first|((apply u_k 15;(focus rfl);solve|(apply u_bslice_row <;> first|exact ⟨rfl,rfl,rfl⟩|rfl|infer_instance|(repeat (first|exact PartsL.nil|(apply PartsL.cons;(focus (first|exact part_raw rfl rfl rfl|exact part_agg rfl|exact part_lst rfl))))))))|(apply u_g;(focus rfl);apply op_gyes rfl rfl rfl rfl rfl;((apply u_k 15;(focus rfl);solve|(apply u_bslice_row <;> first|exact ⟨rfl,rfl,rfl⟩|rfl|infer_instance|(repeat (first|exact PartsL.nil|(apply PartsL.cons;(focus (first|exact part_raw rfl rfl rfl|exact part_agg rfl|exact part_lst rfl)))))))))|exact z_auto|exact c_A (a1)|fail))|refine thenA_n ?_|refine thenA_r ?_|refine thenA_e ?_|refine inB_n ?_|refine inB_r ?_|refine inB_hit ?_|refine inB_miss rfl ?_|((first|refine AL_cl rfl rfl rfl ⟨fun hc=>?_,fun hc=>?_⟩|refine AD_cl rfl rfl rfl ⟨fun hc=>?_,fun hc=>?_⟩) <;> (fail_if_success (have q:(true = true):=hc)) <;> (fail_if_success (have q:(false = false):=hc)) <;> (repeat rw [List.length_map] at hc) <;> (try exact absd hc))|refine AW_cond_nil rfl rfl (fun hc=>?_) ?_))
   refine rt1 ?_
   exact rv_own rfl rfl rfl
 rw [if_neg c2]
 by_cases c3:m.kind = 3
 · rw [if_pos c3]
   have a1:=tr_numbers [m.nxt] (by simp)
   refine fi Tryz.func29 Tryz.ntmps29 ?_
   (have kc1:=a1;refine w0 ?_;(repeat' first|refine W2.mk ?_ ?_|refine W1.mk fun hc=>?_);all_goals clear kc1)
   refine rt1 ?_
   exact rv_own rfl rfl rfl
 rw [if_neg c3]
 by_cases c4:m.kind = 4
 · rw [if_pos c4]
   obtain ⟨g1,g2⟩:=h4 c4
   have a1:=wd_Of m.rg.lo (by omega)
   have a2:=wd_Of m.rg.hi (by omega)
   have a3:=tr_digits m.sum hs
   have a4:=tr_pick m.rg.op (ba [43]) (ba (wofL m.rg.hi.data.toList))
   have e:(if m.rg.op = true then ba [43] else ba (wofL m.rg.hi.data.toList)) = ba (if m.rg.op = true then [43] else wofL m.rg.hi.data.toList):=by split <;> rfl
   rw [e] at a4
   generalize (if m.rg.op = true then ([43]:List UInt8) else wofL m.rg.hi.data.toList) = W at *
   generalize wofL m.rg.lo.data.toList = X at *
   generalize wofL m.rg.hi.data.toList = Y at *
   generalize digL m.sum = Z at *
   clear g1 g2 h4
   refine fi Tryz.func29 Tryz.ntmps29 ?_
   (repeat' (first|refine AW_seq ?_|refine AW_block ?_|refine AW_skip ?_|refine AW_exit ?_|refine AW_ret ?_|refine AW_region ?_|refine AW_draw mixed0 ?_|refine AL_nil ?_|refine AD_nil (by kernel_rfl) ?_|(refine AW_cl rfl rfl ⟨fun hc=>?_,fun hc=>?_⟩ <;> (repeat rw [List.length_map] at hc) <;> (try exact absd hc))|((first|apply AL_t rfl|apply AL_0 rfl|apply AD_t rfl|apply AD_0 rfl);focus (first|((apply u_k 15;(focus rfl);solve|(apply u_bslice_row <;> first|exact ⟨rfl,rfl,rfl⟩|rfl|infer_instance|(repeat (first|exact PartsL.nil|(apply PartsL.cons;(focus (first|exact part_raw rfl rfl rfl|exact part_agg rfl|exact part_lst rfl))))))))|(apply u_g;(focus rfl);apply op_gyes rfl rfl rfl rfl rfl;((apply u_k 15;(focus rfl);solve|(apply u_bslice_row <;> first|exact ⟨rfl,rfl,rfl⟩|rfl|infer_instance|(repeat (first|exact PartsL.nil|(apply PartsL.cons;(focus (first|exact part_raw rfl rfl rfl|exact part_agg rfl|exact part_lst rfl)))))))))|exact z_auto|((refine c_F (a1) (hg:=?_);((repeat (first|exact GL.nil|(refine GL.cons ?_ ?_;focus (first|exact gl_per rfl|exact gl_lst rfl|exact gl_row rfl rfl rfl|exact gl_bor rfl|exact gl_nil rfl|exact gl_nil' rfl))));done)))|(apply u_g;(focus rfl);apply op_gyes rfl rfl rfl rfl rfl;((refine c_F (a1) (hg:=?_);((repeat (first|exact GL.nil|(refine GL.cons ?_ ?_;focus (first|exact gl_per rfl|exact gl_lst rfl|exact gl_row rfl rfl rfl|exact gl_bor rfl|exact gl_nil rfl|exact gl_nil' rfl))));done))))|((refine c_F (a2) (hg:=?_);((repeat (first|exact GL.nil|(refine GL.cons ?_ ?_;focus (first|exact gl_per rfl|exact gl_lst rfl|exact gl_row rfl rfl rfl|exact gl_bor rfl|exact gl_nil rfl|exact gl_nil' rfl))));done)))|(apply u_g;(focus rfl);apply op_gyes rfl rfl rfl rfl rfl;((refine c_F (a2) (hg:=?_);((repeat (first|exact GL.nil|(refine GL.cons ?_ ?_;focus (first|exact gl_per rfl|exact gl_lst rfl|exact gl_row rfl rfl rfl|exact gl_bor rfl|exact gl_nil rfl|exact gl_nil' rfl))));done))))|exact c_A (a3)|exact c_A (a4)|fail))|refine thenA_n ?_|refine thenA_r ?_|refine thenA_e ?_|refine inB_n ?_|refine inB_r ?_|refine inB_hit ?_|refine inB_miss rfl ?_|((first|refine AL_cl rfl rfl rfl ⟨fun hc=>?_,fun hc=>?_⟩|refine AD_cl rfl rfl rfl ⟨fun hc=>?_,fun hc=>?_⟩) <;> (fail_if_success (have q:(true = true):=hc)) <;> (fail_if_success (have q:(false = false):=hc)) <;> (repeat rw [List.length_map] at hc) <;> (try exact absd hc))|refine AW_cond_nil rfl rfl (fun hc=>?_) ?_))
   refine rt1 ?_
   exact rv_own rfl rfl rfl
 rw [if_neg c4]
 by_cases c5:m.kind = 5
 · rw [if_pos c5]
   have a1:=tr_numbers [m.nxt] (by simp)
   have a2:=tr_numbers [(m.its.length:Nat),(sizes m.its:Nat)] (by simp)
   have a3:=batch_Size m.its (by omega)
   have a4:=tr_pick m.last (ba [108,97,115,116]) (ba [109,111,114,101])
   have e:(if m.last = true then ba [108,97,115,116] else ba [109,111,114,101]) = ba (if m.last = true then [108,97,115,116] else [109,111,114,101]):=by split <;> rfl
   rw [e] at a4
   generalize (if m.last = true then ([108,97,115,116]:List UInt8) else [109,111,114,101]) = W at *
   generalize sizes m.its = sz at *
   refine fi Tryz.func29 Tryz.ntmps29 ?_
   (have ko1:=a1;have ko2:=a2;have kc1:=a3;have kc2:=a4;refine w0 ?_;(repeat' first|refine W2.mk ?_ ?_|refine W1.mk fun hc=>?_);all_goals clear kc2 kc1 ko2 ko1)
   refine rt1 ?_
   exact rv_own rfl rfl rfl
 rw [if_neg c5]
 have a1:=tr_numbers [m.err] (by simp)
 refine fi Tryz.func29 Tryz.ntmps29 ?_
 (have kc1:=a1;refine w0 ?_;(repeat' first|refine W2.mk ?_ ?_|refine W1.mk fun hc=>?_);all_goals clear kc1)
 refine rt1 ?_
 exact rv_own rfl rfl rfl
theorem tr_Line (b:List UInt8) (hb:b.length ≤ 1000000):Fn Tryz.prog 11 [.per (bysP b)] (.per (rawP (.string (ba (lineB b))))):=by
 have a1:=ms_Read b hb
 have hI:=rdM_its b
 have hS:=rdM_B (b:=b) hb
 have hl:=lineB_len hb
 unfold lineB at hl ⊢
 generalize rdM b = Q at *
 obtain ⟨m,e⟩:=Q
 dsimp only at a1 hI hS hl ⊢
 by_cases he:e ≠ 0
 · rw [if_pos he] at hl ⊢
   obtain ⟨k,hk⟩:=Int.eq_ofNat_of_zero_le (wrapu_nn e)
   have a2:=tr_digits k (by have:=wrapU_lt e;omega)
   have hn:=numW_len e
   have hW:numW e = digL k:=by unfold numW;rw [hk];rfl
   have fin:ba ([106,117,110,107] ++ 32 :: numW e) = (⟨#[106,117,110,107,32]⟩:ByteArray) ++ ba (digL k):=by
     rw [hW];show _ = ba [106,117,110,107,32] ++ _;rw [ba_app];rfl
   have hz:(ba (digL k)).size ≤ 20:=by rw [ba_sz,← hW];exact hn
   rw [fin]
   have zl:(⟨#[106,117,110,107,32]⟩:ByteArray).size = 5:=rfl
   clear fin hl hn hW hI hS
   generalize ba (digL k) = D at *
   refine fi Tryz.func11 Tryz.ntmps11 ?_
   (repeat' (first|refine AW_seq ?_|refine AW_block ?_|refine AW_skip ?_|refine AW_exit ?_|refine AW_ret ?_|refine AW_region ?_|refine AW_draw mixed0 ?_|refine AL_nil ?_|refine AD_nil (by kernel_rfl) ?_|(refine AW_cl rfl rfl ⟨fun hc=>?_,fun hc=>?_⟩ <;> (repeat rw [List.length_map] at hc) <;> (try exact absd hc))|((first|apply AL_t rfl|apply AL_0 rfl|apply AD_t rfl|apply AD_0 rfl);focus (first|((apply u_k 10;(focus rfl);exact u_conv ⟨rfl,rfl,rfl⟩ rfl inferInstance inferInstance rfl hk))|(apply u_g;(focus rfl);apply op_gyes rfl rfl rfl rfl rfl;((apply u_k 10;(focus rfl);exact u_conv ⟨rfl,rfl,rfl⟩ rfl inferInstance inferInstance rfl hk)))|exact z_auto|exact c_A (a1)|exact c_A (a2)|fail))|refine thenA_n ?_|refine thenA_r ?_|refine thenA_e ?_|refine inB_n ?_|refine inB_r ?_|refine inB_hit ?_|refine inB_miss rfl ?_|((first|refine AL_cl rfl rfl rfl ⟨fun hc=>?_,fun hc=>?_⟩|refine AD_cl rfl rfl rfl ⟨fun hc=>?_,fun hc=>?_⟩) <;> (fail_if_success (have q:(true = true):=hc)) <;> (fail_if_success (have q:(false = false):=hc)) <;> (repeat rw [List.length_map] at hc) <;> (try exact absd hc))|refine AW_cond_nil rfl rfl (fun hc=>?_) ?_))
   refine rt1 ?_
   exact rv_per rfl
 · rw [if_neg he] at hl ⊢
   have he:e = 0:=Decidable.not_not.1 he
   subst he
   obtain ⟨i1,i2,i3,i4,i5⟩:=hI
   have hR:=i5 rfl
   obtain ⟨s1,s2⟩:=hS rfl
   have hP:=msR_parts hR
   have a2:=tr_name m.kind
   have a3:=tr_numbers [m.ses,m.num] (by simp)
   have hrg:m.kind = 4 → m.rg.lo.size ≤ 20 ∧ m.rg.hi.size ≤ 20:=fun h4=>by
     have:=(rgR_iff _).1 (hP.2.2.2.2.2.2.2.1 h4)
     omega
   have a4:=tr_more m s2 i2 hrg
   have hll:=(lineW_len hrg s2).1
   have a5:=wd_Join (lineW m) (lineW_word m) (by omega) (by omega)
   have hM:(moreW m).length ≤ 7:=by unfold lineW at hll;simp only [List.length_cons] at hll;omega
   generalize hJ:joinL (lineW m) = J at *
   unfold lineW at a5
   generalize moreW m = M at *
   generalize nameK m.kind = N at *
   clear hl hR hP hrg hll hJ i1 i3 i4 i5 s1
   refine fi Tryz.func11 Tryz.ntmps11 ?_
   (repeat' (first|refine AW_seq ?_|refine AW_block ?_|refine AW_skip ?_|refine AW_exit ?_|refine AW_ret ?_|refine AW_region ?_|refine AW_draw mixed0 ?_|refine AL_nil ?_|refine AD_nil (by kernel_rfl) ?_|(refine AW_cl rfl rfl ⟨fun hc=>?_,fun hc=>?_⟩ <;> (repeat rw [List.length_map] at hc) <;> (try exact absd hc))|((first|apply AL_t rfl|apply AL_0 rfl|apply AD_t rfl|apply AD_0 rfl);focus (first|((apply u_k 15;(focus rfl);solve|(apply u_bslice_row <;> first|exact ⟨rfl,rfl,rfl⟩|rfl|infer_instance|(repeat (first|exact PartsL.nil|(apply PartsL.cons;(focus (first|exact part_raw rfl rfl rfl|exact part_agg rfl|exact part_lst rfl))))))))|(apply u_g;(focus rfl);apply op_gyes rfl rfl rfl rfl rfl;((apply u_k 15;(focus rfl);solve|(apply u_bslice_row <;> first|exact ⟨rfl,rfl,rfl⟩|rfl|infer_instance|(repeat (first|exact PartsL.nil|(apply PartsL.cons;(focus (first|exact part_raw rfl rfl rfl|exact part_agg rfl|exact part_lst rfl)))))))))|exact z_auto|exact c_A (a1)|exact c_A (a2)|exact c_A (a3)|exact c_A (a4)|exact c_A (a5)|fail))|refine thenA_n ?_|refine thenA_r ?_|refine thenA_e ?_|refine inB_n ?_|refine inB_r ?_|refine inB_hit ?_|refine inB_miss rfl ?_|((first|refine AL_cl rfl rfl rfl ⟨fun hc=>?_,fun hc=>?_⟩|refine AD_cl rfl rfl rfl ⟨fun hc=>?_,fun hc=>?_⟩) <;> (fail_if_success (have q:(true = true):=hc)) <;> (fail_if_success (have q:(false = false):=hc)) <;> (repeat rw [List.length_map] at hc) <;> (try exact absd hc))|refine AW_cond_nil rfl rfl (fun hc=>?_) ?_))
   refine rt1 ?_
   exact rv_per rfl
end
section
variable {P:Program} {n:Nat} {ops:Array Oper} {o:Oper} {F:List Nat} {S T:St} {C:Ctx} {g:Gh} {a:Act} {w w':World} {t:Nat}

/-- a step that turns what is said of a block alone -/
theorem R_blk {id vr:Nat} {B:Blk} (hR:RG C n S g a w) (hv:S.ver id = vr) (hb:brep C S.ver g w id B):RG C n (S.putB [(id,vr,B)]) g a w:=by
 have hver:(S.putB [(id,vr,B)]).ver = S.ver:=by
   funext i
   rw [St.putB_ver]
   split
   · rename_i h;subst h;exact hv.symm
   · rfl
 refine ⟨hR.defers,hR.tsz,hR.nle,hR.keep,hR.os,hR.tape,hR.output,hR.size,hR.old,hR.n0,hR.n0l,hR.dom,fun t=>?_,fun i=>?_⟩
 · rw [hver];exact hR.slots t
 · rw [hver,St.putB_blk]
   split
   · rename_i h;subst h;exact hb
   · exact hR.blks i
end
theorem Le_boxW {n:Nat} {S:St} (id vr e:Nat) (As Bs:List PV) (hv:S.ver id = vr) (hb:S.blk id = .box e (As.map Cnt.per)) (k:PW As Bs):Le n S (S.putB [(id,vr,.box e (Bs.map Cnt.per))]):=by
 rintro C a w ⟨g,hR⟩
 have h:=hR.blks id
 rw [hb] at h
 obtain ⟨cs,h1,h2,h3,h4⟩:=h
 refine ⟨g,R_blk hR hv ⟨cs,h1,h2,by rw [h3,List.length_map,List.length_map,k.len],fun j c hj=>?_⟩⟩
 rw [List.getElem?_map] at hj
 cases hB:Bs[j]? with
 | none=>rw [hB] at hj;cases hj
 | some B=>
   rw [hB] at hj;cases hj
   obtain ⟨A,q1,q2⟩:=k.get j B hB
   obtain ⟨y,r1,r2,r3⟩:=h4 j (.per A) (by rw [List.getElem?_map,q1];rfl)
   exact ⟨y,r1,r2,q2 _ _ _ r3⟩
end Go.Proofs.YthlffkjpklpkfaaGreat
