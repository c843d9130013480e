/- Texts joined: Kc KcR Vs VsW Cnt. -/
import Derived.Test.YtembiemaiacdfaaGreatJ13
import Derived.Test.YtembiemaiacdfaaGreatJ05
set_option maxRecDepth 10000
set_option maxHeartbeats 8000000
namespace Go.Proofs.YtembiemaiacdfaaGreat
open Go.RowKit
section
end
section
end
/-! ### plainly -/
def tabAt (s:List Kn) (r:Nat):List Rn:=s.flatMap fun k=>if k.rep = (r:Int) + 1 then k.runs else []
def tabOf (s:List Kn):List (List Rn):=(List.range 16).map (tabAt s)
def setFrom (cOf:List Rn → List Rn):Nat → List (List Rn) → List Kn
 | _,[]=>[]
 | i,l :: T=>(if (cOf l).length = 0 then [] else [⟨(i:Int) + 1,cOf l⟩]) ++ setFrom cOf (i + 1) T
def vsOf (cOf:List Rn → List Rn) (s:List Kn):List Kn:=setFrom cOf 0 (tabOf s)
theorem tabOf_len (s:List Kn):(tabOf s).length = 16:=by simp [tabOf]
theorem tabAt_snoc (l:List Kn) (k:Kn) (r:Nat):tabAt (l ++ [k]) r = tabAt l r ++ (if k.rep = (r:Int) + 1 then k.runs else []):=by simp [tabAt]
theorem tabOf_get (s:List Kn) {r:Nat} (h:r < 16):(tabOf s)[r]? = some (tabAt s r):=by simp [tabOf,h]
theorem tabOf_in (l:List Kn) (k:Kn) {r:Nat} (h:r < 16) (hk:k.rep = (r:Int) + 1):tabOf (l ++ [k]) = (tabOf l).set r (tabAt l r ++ k.runs):=by
 apply List.ext_getElem?
 intro i
 rw [List.getElem?_set,tabOf_len]
 by_cases hi:i < 16
 · rw [tabOf_get _ hi,tabAt_snoc]
   by_cases h1:r = i
   · subst h1;rw [if_pos rfl,if_pos h,if_pos hk]
   · rw [if_neg h1,tabOf_get _ hi,if_neg (by omega),List.append_nil]
 · rw [List.getElem?_eq_none (by rw [tabOf_len];omega)]
   rw [if_neg (by omega),List.getElem?_eq_none (by rw [tabOf_len];omega)]
theorem tabOf_out (l:List Kn) (k:Kn) (hk:¬ (1 ≤ k.rep ∧ k.rep ≤ 16)):tabOf (l ++ [k]) = tabOf l:=by
 apply List.ext_getElem?
 intro i
 by_cases hi:i < 16
 · rw [tabOf_get _ hi,tabOf_get _ hi,tabAt_snoc,if_neg (by omega),List.append_nil]
 · rw [List.getElem?_eq_none (by rw [tabOf_len];omega),List.getElem?_eq_none (by rw [tabOf_len];omega)]
theorem tabAt_len:∀ (s:List Kn) (r:Nat),(tabAt s r).length ≤ (s.flatMap Kn.runs).length:=by
 intro s
 induction s with
 | nil=>intro r;simp [tabAt]
 | cons k s ih=>
   intro r
   have:=ih r
   unfold tabAt at this ⊢
   rw [List.flatMap_cons,List.flatMap_cons,List.length_append,List.length_append]
   have h2:(if k.rep = (r:Int) + 1 then k.runs else []).length ≤ k.runs.length:=by split <;> simp
   omega
theorem mem_flat_len {s:List Kn} {k:Kn} (h:k ∈ s):k.runs.length ≤ (s.flatMap Kn.runs).length:=by
 induction s with
 | nil=>cases h
 | cons x s ih=>
   rw [List.flatMap_cons,List.length_append]
   rcases List.mem_cons.1 h with q|q
   · subst q;omega
   · have:=ih q;omega
/-- not too much in all -/
def knsTot (s:List Kn):Prop:=s.length ≤ 1000000000 ∧ (s.flatMap Kn.runs).length ≤ 1000000000
theorem knsTot.sz {s:List Kn} (h:knsTot s):knsSz s:=⟨h.1,fun k hk=>by
 have h2:=h.2
 have:=mem_flat_len hk
 omega⟩
theorem setFrom_app (cOf:List Rn → List Rn):∀ (T U:List (List Rn)) (i:Nat),setFrom cOf i (T ++ U) = setFrom cOf i T ++ setFrom cOf (i + T.length) U:=by
 intro T
 induction T with
 | nil=>intro U i;rfl
 | cons l T ih=>intro U i;simp only [List.cons_append,setFrom,ih,List.length_cons,List.append_assoc];rw [show i + 1 + T.length = i + (T.length + 1) by omega]
/-- a right set is what its table says -/
theorem tabAt_right {s:List Kn} (h:knsOk s):∀ r,tabAt s r = [] ∨ ∃ k ∈ s,k.rep = (r:Int) + 1 ∧ tabAt s r = k.runs:=by
 intro r
 induction s using snoc_ind with
 | h0=>exact .inl rfl
 | h1 l k ih=>
   have hl:knsOk l:=fun i hi hi'=>by
     have h1:=h i (by simp;omega) (by simp;omega)
     have e1:(l ++ [k])[i]'(by simp;omega) = l[i]:=List.getElem_append_left hi
     rw [e1] at h1
     refine ⟨h1.1,h1.2.1,h1.2.2.1,h1.2.2.2.1,fun q=>?_⟩
     have:=h1.2.2.2.2 q
     rw [List.getElem_append_left (by omega)] at this
     exact this
   rw [tabAt_snoc]
   by_cases hk:k.rep = (r:Int) + 1
   · rw [if_pos hk]
     have hz:tabAt l r = []:=by
       rcases ih hl with q|⟨k',hk',e1,e2⟩
       · exact q
       · exfalso
         obtain ⟨i,hi,rfl⟩:=List.getElem_of_mem hk'
         have hlt:∀ (d i:Nat) (hi:i < l.length) (hd:i + d + 1 = l.length),l[i].rep < k.rep:=by
           intro d
           induction d with
           | zero=>
             intro i hi hd
             have:=(h (i + 1) (by simp;omega) (by simp;omega)).2.2.2.2 (by omega)
             simp only [Nat.add_sub_cancel] at this
             rw [List.getElem_append_left hi,List.getElem_append_right (by omega)] at this
             simpa using this
           | succ d ihd=>
             intro i hi hd
             have:=(h (i + 1) (by simp;omega) (by simp;omega)).2.2.2.2 (by omega)
             simp only [Nat.add_sub_cancel] at this
             rw [List.getElem_append_left hi,List.getElem_append_left (by omega)] at this
             have:=ihd (i + 1) (by omega) (by omega)
             omega
         have:=hlt (l.length - 1 - i) i hi (by omega)
         omega
     rw [hz,List.nil_append]
     exact .inr ⟨k,by simp,hk,rfl⟩
   · rw [if_neg hk,List.append_nil]
     rcases ih hl with q|⟨k',hk',e1,e2⟩
     · exact .inl q
     · exact .inr ⟨k',by simp [hk'],e1,e2⟩
theorem tab_rnsOk {s:List Kn} (h:knsOk s):∀ l ∈ tabOf s,rnsOk l:=by
 intro l hl
 obtain ⟨r,_,rfl⟩:=List.mem_map.1 hl
 rcases tabAt_right h r with q|⟨k,hk,_,q⟩
 · rw [q];intro i hi;simp at hi
 · rw [q]
   obtain ⟨i,hi,rfl⟩:=List.getElem_of_mem hk
   exact (knsOk_get h hi).2.2.2
theorem take_snocK {α:Type} (l:List α) (k:Nat) (h:k < l.length):l.take (k + 1) = l.take k ++ [l[k]]:=by rw [List.take_succ_eq_append_getElem h]
theorem tabAt_take (s:List Kn) (z r:Nat):(tabAt (s.take z) r).length ≤ (tabAt s r).length:=by
 have:tabAt s r = tabAt (s.take z) r ++ tabAt (s.drop z) r:=by
   unfold tabAt
   rw [← List.flatMap_append,List.take_append_drop]
 rw [this,List.length_append];omega
abbrev tabP (T:List (List Rn)):PV:=aggP (T.map rnsP)
abbrev tabC (T:List (List Rn)):List Cnt:=T.map fun l=>Cnt.per (rnsP l)
theorem perL_tab (T:List (List Rn)):perL (tabC T) = some (T.map rnsP):=by
 induction T with
 | nil=>rfl
 | cons l T ih=>
   show perL (Cnt.per (rnsP l) :: tabC T) = _
   unfold perL
   rw [ih];rfl
theorem tabC_map (T:List (List Rn)):(T.map rnsP).map Cnt.per = tabC T:=by simp [tabC]
theorem tabC_full {T:List (List Rn)} (h:T.length = 16):perL (((tabC T).drop 0).take 16) = some (T.map rnsP):=by
 rw [List.drop_zero,List.take_of_length_le (by simp;omega)];exact perL_tab T
theorem tabC_ble {T:List (List Rn)} (h:T.length = 16):Nat.ble (0 + 16) (tabC T).length = true:=by
 apply Nat.ble_eq_true_of_le;simp;omega
theorem setL_full {cells l:List Cnt} (h:l.length = cells.length):setL cells 0 l = l:=by
 unfold setL
 rw [List.take_zero,List.nil_append,List.drop_of_length_le (by omega),List.append_nil]
section
theorem sl_CloneRn (l:List Rn) (hl:l.length ≤ 1000000000):Fn Tryz.prog 201 [rnsB l] (.own 132 2 (l.map rnP)):=by
 by_cases h0:0 < l.length
 · refine fi Tryz.func201 Tryz.ntmps201 ?_
   (refine w0 ?_;(repeat' first|refine W2.mk ?_ ?_|refine W1.mk fun hc=>?_))
   refine rt1 ?_
   exact rv_own rfl rfl rfl
 · obtain rfl:l = []:=List.eq_nil_of_length_eq_zero (by omega)
   refine fi Tryz.func201 Tryz.ntmps201 ?_
   (refine w0 ?_;(repeat' first|refine W2.mk ?_ ?_|refine W1.mk fun hc=>?_))
   · refine rt1 ?_
     exact rv_nil rfl
   · refine rt1 ?_
     exact rv_own rfl rfl rfl
theorem cnt_Of_ok (l:List Rn) (hl:l.length ≤ 1000000000) (h:rnsOk l):Fn Tryz.prog 200 [rnsB l] (.own 132 2 (l.map rnP)):=by
 have h1:=cnt_Right l hl true (by simp [h])
 have h2:=sl_CloneRn l hl
 refine fi Tryz.func200 Tryz.ntmps200 ?_
 (have kc1:=h1;have kc2:=h2;refine w0 ?_;(repeat' first|refine W2.mk ?_ ?_|refine W1.mk fun hc=>?_);all_goals clear kc2 kc1)
 refine rt1 ?_
 exact rv_own rfl rfl rfl
theorem sl_EqualRn (l m:List Rn) (hl:l.length ≤ 1000000000):Fn Tryz.prog 170 [rnsB l,rnsB m] (boR (decide (l = m))):=by
 refine fi Tryz.func170 Tryz.ntmps170 ?_
 (repeat' (first|refine AW_seq ?_|refine AW_block ?_|refine AW_skip ?_|refine AW_exit ?_|refine AW_ret ?_|refine AW_region ?_|refine AW_draw mixed0 ?_|refine AL_nil ?_|refine AD_nil (by kernel_rfl) ?_|refine thenA_n ?_|refine thenA_r ?_|refine thenA_e ?_|refine inB_n ?_|refine inB_r ?_|refine inB_hit ?_|refine inB_miss rfl ?_|(refine AW_cond_per rfl rfl (fun hc=>?_) (fun hc=>?_) <;> (try rw [Bool.not_eq_true'] at hc) <;> (try rw [Bool.not_eq_false'] at hc) <;> (try first|rw [decide_eq_true_eq] at hc|rw [decide_eq_false_iff_not] at hc|rw [beq_iff_eq] at hc|rw [beq_eq_false_iff_ne] at hc|rw [bne_iff_ne] at hc|rw [bne_eq_false_iff_eq] at hc) <;> (repeat rw [List.length_map] at hc) <;> (try first|contradiction|(exfalso;omega)|(exfalso;simp [*] at hc;done)))|((first|apply AL_t rfl|apply AL_0 rfl|apply AD_t rfl|apply AD_0 rfl);focus (first|exact o_auto))))
 · refine rt1 ?_
   exact rv_bool rfl (by symm;rw [decide_eq_false_iff_not];intro h;subst h;omega)
 have hlm:l.length = m.length:=by omega
 refine AW_loopP (fun k=>k ≤ l.length ∧ l.take k = m.take k) (fun k=>mkSt [(0,rnsB l),(1,rnsB m),(12,iC .i64 (l.length:Nat)),(13,iC .i64 (k:Nat))] []) (fun k=>l.length - k) 0 ⟨Nat.zero_le _,rfl⟩ ?_ ?_
 · exact le_auto
 · rintro k ⟨hk,hpre⟩
   by_cases hlt:k < l.length
   · have hltm:k < m.length:=by omega
     (repeat' (first|refine AW_seq ?_|refine AW_block ?_|refine AW_skip ?_|refine AW_exit ?_|refine AW_ret ?_|refine AW_region ?_|refine AW_draw mixed0 ?_|refine AL_nil ?_|refine AD_nil (by kernel_rfl) ?_|refine thenA_n ?_|refine thenA_r ?_|refine thenA_e ?_|refine inB_n ?_|refine inB_r ?_|refine inB_hit ?_|refine inB_miss rfl ?_|(refine AW_cond_per rfl rfl (fun hc=>?_) (fun hc=>?_) <;> (try rw [Bool.not_eq_true'] at hc) <;> (try rw [Bool.not_eq_false'] at hc) <;> (try first|rw [decide_eq_true_eq] at hc|rw [decide_eq_false_iff_not] at hc|rw [beq_iff_eq] at hc|rw [beq_eq_false_iff_ne] at hc|rw [bne_iff_ne] at hc|rw [bne_eq_false_iff_eq] at hc) <;> (repeat rw [List.length_map] at hc) <;> (try first|contradiction|(exfalso;omega)|(exfalso;simp [*] at hc;done)))|((first|apply AL_t rfl|apply AL_0 rfl|apply AD_t rfl|apply AD_0 rfl);focus (first|exact o_auto|(exact op_eqA (us:=encRn l[k]) (vs:=encRn m[k]) ⟨rfl,rfl,rfl⟩ rfl rfl rfl (.inr ⟨rfl,rfl⟩) rnG rfl (rnE_o l[k] m[k]))))))
     · refine rt1 ?_
       exact rv_bool rfl (by symm;rw [decide_eq_false_iff_not];intro h;subst h;simp [(rnE_iff l[k] l[k]).2 rfl] at *)
     · refine ⟨k + 1,⟨by omega,?_⟩,by omega,?_⟩
       · rw [take_snoc' l k hlt,take_snoc' m k hltm,hpre,(rnE_iff l[k] m[k]).1 (by simpa using hc)]
       · exact le_auto
   · (repeat' (first|refine AW_seq ?_|refine AW_block ?_|refine AW_skip ?_|refine AW_exit ?_|refine AW_ret ?_|refine AW_region ?_|refine AW_draw mixed0 ?_|refine AL_nil ?_|refine AD_nil (by kernel_rfl) ?_|refine thenA_n ?_|refine thenA_r ?_|refine thenA_e ?_|refine inB_n ?_|refine inB_r ?_|refine inB_hit ?_|refine inB_miss rfl ?_|(refine AW_cond_per rfl rfl (fun hc=>?_) (fun hc=>?_) <;> (try rw [Bool.not_eq_true'] at hc) <;> (try rw [Bool.not_eq_false'] at hc) <;> (try first|rw [decide_eq_true_eq] at hc|rw [decide_eq_false_iff_not] at hc|rw [beq_iff_eq] at hc|rw [beq_eq_false_iff_ne] at hc|rw [bne_iff_ne] at hc|rw [bne_eq_false_iff_eq] at hc) <;> (repeat rw [List.length_map] at hc) <;> (try first|contradiction|(exfalso;omega)|(exfalso;simp [*] at hc;done)))|((first|apply AL_t rfl|apply AL_0 rfl|apply AD_t rfl|apply AD_0 rfl);focus (first|exact o_auto))))
     refine rt1 ?_
     exact rv_bool rfl (by symm;rw [decide_eq_true_eq,← List.take_of_length_le (show l.length ≤ k by omega),hpre,List.take_of_length_le (by omega)])
theorem vs_fill (s:List Kn) (hs:knsTot s):Fn Tryz.prog 172 [knsB s] (.per (tabP (tabOf s))):=by
 have hl0:=hs.1
 have htot:=hs.2
 refine fi Tryz.func172 Tryz.ntmps172 ?_
 (refine w0 ?_;(repeat' first|refine W2.mk ?_ ?_|refine W1.mk fun hc=>?_))
 refine AW_le (Le_cells 3 214 (cells':=tabC (tabOf [])) rfl rfl (fun j c c' h h'=>?_)) ?_
 · have h1:c = .per (rawP (.slice none 0 0)):=List.eq_of_mem_replicate (n:=16) (List.mem_of_getElem? h)
   have h2:c' = .per (rnsP []):=List.eq_of_mem_replicate (n:=16) (List.mem_of_getElem? h')
   rw [h1,h2];exact imp_nil
 refine AW_loopP (X:=Nat) (fun z=>z ≤ s.length)
   (fun z=>mkSt [(2,.ptr 2 0 0),(3,.ptr 3 0 0),(7,knsB s),(8,iC .i64 (s.length:Nat)),(9,iC .i64 (z:Nat))] [(2,.box 214 (List.replicate 16 (.per (rawP (.slice none 0 0))))),(3,.box 214 (tabC (tabOf (s.take z))))]) (fun z=>s.length - z) 0 (Nat.zero_le _) ?_ ?_
 · exact le_auto
 · intro z hz
   by_cases hlt:z < s.length
   · have c1:=vs_replica s[z].rep
     have hT:=tabOf_len (s.take z)
     have hsn:=take_snocK s z hlt
     by_cases hr:1 ≤ s[z].rep ∧ s[z].rep ≤ 16
     · rw [decide_eq_true hr] at c1
       obtain ⟨r,hq⟩:∃ r:Nat,s[z].rep - 1 = (r:Nat):=⟨(s[z].rep - 1).toNat,by omega⟩
       have hr16:r < 16:=by omega
       have hin:=tabOf_in (s.take z) s[z] hr16 (by omega)
       rw [← hsn] at hin
       have hg:=tabOf_get (s.take z) hr16
       have hb1:=tabAt_take s z r
       have hb2:=tabAt_len s r
       have hb3:=hs.sz.at hlt
       generalize tabAt (s.take z) r = Tr at *
       generalize tabOf (s.take z) = T at *
       have HJ:(tabC T)[0 + r * 1]? = some (.per (rnsP Tr)):=by
         rw [Nat.zero_add,Nat.mul_one,List.getElem?_map,hg];rfl
       have HB:Nat.ble (0 + r * 1 + 1) (tabC T).length = true:=Nat.ble_eq_true_of_le (by simp;omega)
       have hTr:Tr.length ≤ 1000000000:=by omega
       have c2:=sl_CloneRn Tr (by omega)
       have HF:∀ (F:Cnt → Cnt) (c:Cnt),(∀ A,F (.per A) = .per A) → F c = .per (lstP 2 (Tr.map rnP ++ s[z].runs.map rnP)) → (setL (tabC T) (0 + r * 1) [c]).map F = tabC (T.set r (Tr ++ s[z].runs)):=fun F c h1 h2=>by
         rw [Nat.zero_add,Nat.mul_one,setL_set _ _ _ (by simp;omega),List.map_set,h2,← List.map_append]
         have e:(tabC T).map F = tabC T:=by
           unfold tabC
           rw [List.map_map]
           exact List.map_congr_left fun x _=>h1 _
         rw [e]
         unfold tabC
         rw [List.map_set]
       clear hs htot hg
       (repeat' (first|refine AW_seq ?_|refine AW_block ?_|refine AW_skip ?_|refine AW_exit ?_|refine AW_ret ?_|refine AW_region ?_|refine AW_draw mixed0 ?_|refine AL_nil ?_|refine AD_nil (by kernel_rfl) ?_|(refine AW_cl rfl rfl ⟨fun hc=>?_,fun hc=>?_⟩ <;> (repeat rw [List.length_map] at hc) <;> (try exact absd hc))|((first|apply AL_t rfl|apply AL_0 rfl|apply AD_t rfl|apply AD_0 rfl);focus (first|((apply u_k 8;(focus rfl);exact op_num ⟨rfl,rfl,rfl⟩ rfl rfl rfl rfl ((wrap_id64 (by omega) (by omega)).trans hq)))|(apply u_g;(focus rfl);apply op_gyes rfl rfl rfl rfl rfl;((apply u_k 8;(focus rfl);exact op_num ⟨rfl,rfl,rfl⟩ rfl rfl rfl rfl ((wrap_id64 (by omega) (by omega)).trans hq))))|((apply u_k 5;(focus rfl);exact u_load1 ⟨rfl,rfl,rfl⟩ rfl inferInstance rfl rfl rfl HJ))|(apply u_g;(focus rfl);apply op_gyes rfl rfl rfl rfl rfl;((apply u_k 5;(focus rfl);exact u_load1 ⟨rfl,rfl,rfl⟩ rfl inferInstance rfl rfl rfl HJ)))|((apply u_k 6;(focus rfl);exact u_store_c (c:=.row _ _) ⟨rfl,rfl⟩ rfl inferInstance rfl rfl rfl HB rfl (by first|exact oneQ_per (by first|exact oneP_raw rfl rfl|exact oneP_lst|exact oneP_rp)|exact oneQ_ptr rfl|exact oneQ_row rfl rfl|exact oneQ_obj rfl rfl|exact oneQ_clo1|exact oneQ_clo2|exact oneQ_clo3)))|(apply u_g;(focus rfl);apply op_gyes rfl rfl rfl rfl rfl;((apply u_k 6;(focus rfl);exact u_store_c (c:=.row _ _) ⟨rfl,rfl⟩ rfl inferInstance rfl rfl rfl HB rfl (by first|exact oneQ_per (by first|exact oneP_raw rfl rfl|exact oneP_lst|exact oneP_rp)|exact oneQ_ptr rfl|exact oneQ_row rfl rfl|exact oneQ_obj rfl rfl|exact oneQ_clo1|exact oneQ_clo2|exact oneQ_clo3))))|exact z_auto|exact c_A (c1)|exact c_A (c2)|fail))|refine thenA_n ?_|refine thenA_r ?_|refine thenA_e ?_|refine inB_n ?_|refine inB_r ?_|refine inB_hit ?_|refine inB_miss rfl ?_|((first|refine AL_cl rfl rfl rfl ⟨fun hc=>?_,fun hc=>?_⟩|refine AD_cl rfl rfl rfl ⟨fun hc=>?_,fun hc=>?_⟩) <;> (fail_if_success (have q:(true = true):=hc)) <;> (fail_if_success (have q:(false = false):=hc)) <;> (repeat rw [List.length_map] at hc) <;> (try exact absd hc))|refine AW_cond_nil rfl rfl (fun hc=>?_) ?_))
       refine ⟨z + 1,by omega,by omega,Le_trans (Le_fz 23 _ 132 2 rfl rfl) ?_⟩
       (refine Le_mk ?_ ?_;(focus ((repeat (first|exact AllG.nil|(refine AllG.cons ?_ ?_;rotate_left)));(all_goals try (first|rfl|(refine eqI ?_;first|omega|(simp;done)|(simp;omega))|(refine eqBo ?_;first|(simp;done)|(simp [*];done))))));(focus ((repeat (first|exact AllB.nil|(refine AllB.cons ?_ ?_;rotate_left)));(all_goals try (first|rfl|(refine eqRw ?_;(rw [List.map_append] <;> rfl);done)|(refine eqMix ?_;(rw [List.map_append] <;> rfl);done))))))
       rw [hin]
       show Blk.box _ (List.map _ (List.map _ _)) = _
       rw [List.map_map]
       exact congrArg (Blk.box _) (HF _ _ (fun _=>rfl) rfl)
     · rw [decide_eq_false hr] at c1
       have hout:=tabOf_out (s.take z) s[z] hr
       rw [← hsn] at hout
       clear hs htot hsn hr
       (have kc1:=c1;refine w0 ?_;(repeat' first|refine W2.mk ?_ ?_|refine W1.mk fun hc=>?_);all_goals clear kc1)
       refine ⟨z + 1,by omega,by omega,?_⟩
       (refine Le_mk ?_ ?_;(focus ((repeat (first|exact AllG.nil|(refine AllG.cons ?_ ?_;rotate_left)));(all_goals try (first|rfl|(refine eqI ?_;first|omega|(simp;done)|(simp;omega))|(refine eqBo ?_;first|(simp;done)|(simp [*];done))))));(focus ((repeat (first|exact AllB.nil|(refine AllB.cons ?_ ?_;rotate_left)));(all_goals try (first|rfl|(refine eqRw ?_;(rw [List.map_append] <;> rfl);done)|(refine eqMix ?_;(rw [List.map_append] <;> rfl);done))))))
       rw [hout];rfl
   · have e:s.take z = s:=List.take_of_length_le (by omega)
     rw [e]
     have hT:=tabOf_len s
     generalize tabOf s = T at *
     have HP:=tabC_full hT
     have HB:=tabC_ble hT
     clear hs htot
     (repeat' (first|refine AW_seq ?_|refine AW_block ?_|refine AW_skip ?_|refine AW_exit ?_|refine AW_ret ?_|refine AW_region ?_|refine AW_draw mixed0 ?_|refine AL_nil ?_|refine AD_nil (by kernel_rfl) ?_|(refine AW_cl rfl rfl ⟨fun hc=>?_,fun hc=>?_⟩ <;> (repeat rw [List.length_map] at hc) <;> (try exact absd hc))|((first|apply AL_t rfl|apply AL_0 rfl|apply AD_t rfl|apply AD_0 rfl);focus (first|((apply u_k 5;(focus rfl);exact u_loadA ⟨rfl,rfl,rfl⟩ rfl inferInstance inferInstance rfl rfl rfl rfl HB HP))|(apply u_g;(focus rfl);apply op_gyes rfl rfl rfl rfl rfl;((apply u_k 5;(focus rfl);exact u_loadA ⟨rfl,rfl,rfl⟩ rfl inferInstance inferInstance rfl rfl rfl rfl HB HP)))|((apply u_k 6;(focus rfl);exact u_storeA ⟨rfl,rfl⟩ rfl inferInstance rfl rfl rfl rfl rfl rfl (by simp [hT])))|(apply u_g;(focus rfl);apply op_gyes rfl rfl rfl rfl rfl;((apply u_k 6;(focus rfl);exact u_storeA ⟨rfl,rfl⟩ rfl inferInstance rfl rfl rfl rfl rfl rfl (by simp [hT]))))|exact z_auto|fail))|refine thenA_n ?_|refine thenA_r ?_|refine thenA_e ?_|refine inB_n ?_|refine inB_r ?_|refine inB_hit ?_|refine inB_miss rfl ?_|((first|refine AL_cl rfl rfl rfl ⟨fun hc=>?_,fun hc=>?_⟩|refine AD_cl rfl rfl rfl ⟨fun hc=>?_,fun hc=>?_⟩) <;> (fail_if_success (have q:(true = true):=hc)) <;> (fail_if_success (have q:(false = false):=hc)) <;> (repeat rw [List.length_map] at hc) <;> (try exact absd hc))|refine AW_cond_nil rfl rfl (fun hc=>?_) ?_))
     refine rt1 ?_
     have e2:setL (List.replicate 16 (Cnt.per (rawP (.slice none 0 0)))) 0 ((T.map rnsP).map .per) = (T.map rnsP).map .per:=setL_full (by simp [hT])
     exact rv_cA inferInstance inferInstance rfl rfl rfl rfl (by rw [e2];simp [hT]) (by rw [e2,tabC_map];exact perL_tab T)
theorem vs_tset (cOf:List Rn → List Rn) (T:List (List Rn)) (hT:T.length = 16) (hOf:∀ l ∈ T,Fn Tryz.prog 200 [rnsB l] (.own 132 2 ((cOf l).map rnP))) :
   Fn Tryz.prog 191 [.per (tabP T)] (.own 130 2 ((setFrom cOf 0 T).map knP)):=by
 have HP:=tabC_full hT
 have HB:=tabC_ble hT
 have HE:=tabC_map T
 refine fi Tryz.func191 Tryz.ntmps191 ?_
 have hstep:∀ z (h:z < T.length),setFrom cOf z (T.drop z) = (if (cOf T[z]).length = 0 then [] else [⟨(z:Int) + 1,cOf T[z]⟩]) ++ setFrom cOf (z + 1) (T.drop (z + 1)):=fun z h=>by
   rw [List.drop_eq_getElem_cons h];rfl
 (repeat' (first|refine AW_seq ?_|refine AW_block ?_|refine AW_skip ?_|refine AW_exit ?_|refine AW_ret ?_|refine AW_region ?_|refine AW_draw mixed0 ?_|refine AL_nil ?_|refine AD_nil (by kernel_rfl) ?_|(refine AW_cl rfl rfl ⟨fun hc=>?_,fun hc=>?_⟩ <;> (repeat rw [List.length_map] at hc) <;> (try exact absd hc))|((first|apply AL_t rfl|apply AL_0 rfl|apply AD_t rfl|apply AD_0 rfl);focus (first|((apply u_k 5;(focus rfl);exact u_loadA ⟨rfl,rfl,rfl⟩ rfl inferInstance inferInstance rfl rfl rfl rfl (HE ▸ HB) (HE ▸ HP)))|(apply u_g;(focus rfl);apply op_gyes rfl rfl rfl rfl rfl;((apply u_k 5;(focus rfl);exact u_loadA ⟨rfl,rfl,rfl⟩ rfl inferInstance inferInstance rfl rfl rfl rfl (HE ▸ HB) (HE ▸ HP))))|exact z_auto|fail))|refine thenA_n ?_|refine thenA_r ?_|refine thenA_e ?_|refine inB_n ?_|refine inB_r ?_|refine inB_hit ?_|refine inB_miss rfl ?_|((first|refine AL_cl rfl rfl rfl ⟨fun hc=>?_,fun hc=>?_⟩|refine AD_cl rfl rfl rfl ⟨fun hc=>?_,fun hc=>?_⟩) <;> (fail_if_success (have q:(true = true):=hc)) <;> (fail_if_success (have q:(false = false):=hc)) <;> (repeat rw [List.length_map] at hc) <;> (try exact absd hc))|refine AW_cond_nil rfl rfl (fun hc=>?_) ?_))
 refine AW_le (Le_nil 3 600 130 2 rfl rfl) ?_
 generalize hQ:setFrom cOf 0 T = Q
 refine AW_loopP (X:=Nat × List Kn) (fun z=>z.1 ≤ 16 ∧ z.2.length ≤ z.1 ∧ z.2 ++ setFrom cOf z.1 (T.drop z.1) = Q)
   (fun z=>mkSt [(3,.row 600 0),(6,.per (tabP T)),(7,iC .i64 (z.1:Nat))] [(600,.row 130 2 (z.2.map knP))]) (fun z=>16 - z.1) (0,[]) ⟨Nat.zero_le _,Nat.le_refl _,by simpa using hQ⟩ ?_ ?_
 · exact le_auto
 · rintro ⟨z,acc⟩ ⟨h1,h2,h3⟩
   simp only at h1 h2 h3 ⊢
   by_cases hz:z < 16
   · have hzT:z < T.length:=by omega
     have c1:=(hOf T[z] (List.getElem_mem hzT)).frz
     rw [hstep z hzT] at h3
     have HJ:(T.map rnsP)[z]? = some (rnsP T[z]):=by rw [List.getElem?_map,List.getElem?_eq_getElem hzT];rfl
     generalize cOf T[z] = L at *
     clear hOf hstep HP HB HE
     by_cases hL:L.length = 0
     · rw [if_pos hL,List.nil_append] at h3
       (repeat' (first|refine AW_seq ?_|refine AW_block ?_|refine AW_skip ?_|refine AW_exit ?_|refine AW_ret ?_|refine AW_region ?_|refine AW_draw mixed0 ?_|refine AL_nil ?_|refine AD_nil (by kernel_rfl) ?_|(refine AW_cl rfl rfl ⟨fun hc=>?_,fun hc=>?_⟩ <;> (repeat rw [List.length_map] at hc) <;> (try exact absd hc))|((first|apply AL_t rfl|apply AL_0 rfl|apply AD_t rfl|apply AD_0 rfl);focus (first|((apply u_k 13;(focus rfl);exact u_idxAgg ⟨rfl,rfl,rfl⟩ rfl inferInstance inferInstance inferInstance rfl rfl rfl (by omega) HJ))|(apply u_g;(focus rfl);apply op_gyes rfl rfl rfl rfl rfl;((apply u_k 13;(focus rfl);exact u_idxAgg ⟨rfl,rfl,rfl⟩ rfl inferInstance inferInstance inferInstance rfl rfl rfl (by omega) HJ)))|exact z_auto|exact c_A (c1)|fail))|refine thenA_n ?_|refine thenA_r ?_|refine thenA_e ?_|refine inB_n ?_|refine inB_r ?_|refine inB_hit ?_|refine inB_miss rfl ?_|((first|refine AL_cl rfl rfl rfl ⟨fun hc=>?_,fun hc=>?_⟩|refine AD_cl rfl rfl rfl ⟨fun hc=>?_,fun hc=>?_⟩) <;> (fail_if_success (have q:(true = true):=hc)) <;> (fail_if_success (have q:(false = false):=hc)) <;> (repeat rw [List.length_map] at hc) <;> (try exact absd hc))|refine AW_cond_nil rfl rfl (fun hc=>?_) ?_))
       refine ⟨(z + 1,acc),⟨by simp only;omega,by simp only;omega,h3⟩,by simp only;omega,?_⟩
       exact le_auto
     · rw [if_neg hL] at h3
       (repeat' (first|refine AW_seq ?_|refine AW_block ?_|refine AW_skip ?_|refine AW_exit ?_|refine AW_ret ?_|refine AW_region ?_|refine AW_draw mixed0 ?_|refine AL_nil ?_|refine AD_nil (by kernel_rfl) ?_|(refine AW_cl rfl rfl ⟨fun hc=>?_,fun hc=>?_⟩ <;> (repeat rw [List.length_map] at hc) <;> (try exact absd hc))|((first|apply AL_t rfl|apply AL_0 rfl|apply AD_t rfl|apply AD_0 rfl);focus (first|((apply u_k 13;(focus rfl);exact u_idxAgg ⟨rfl,rfl,rfl⟩ rfl inferInstance inferInstance inferInstance rfl rfl rfl (by omega) HJ))|(apply u_g;(focus rfl);apply op_gyes rfl rfl rfl rfl rfl;((apply u_k 13;(focus rfl);exact u_idxAgg ⟨rfl,rfl,rfl⟩ rfl inferInstance inferInstance inferInstance rfl rfl rfl (by omega) HJ)))|exact z_auto|exact c_A (c1)|fail))|refine thenA_n ?_|refine thenA_r ?_|refine thenA_e ?_|refine inB_n ?_|refine inB_r ?_|refine inB_hit ?_|refine inB_miss rfl ?_|((first|refine AL_cl rfl rfl rfl ⟨fun hc=>?_,fun hc=>?_⟩|refine AD_cl rfl rfl rfl ⟨fun hc=>?_,fun hc=>?_⟩) <;> (fail_if_success (have q:(true = true):=hc)) <;> (fail_if_success (have q:(false = false):=hc)) <;> (repeat rw [List.length_map] at hc) <;> (try exact absd hc))|refine AW_cond_nil rfl rfl (fun hc=>?_) ?_))
       refine ⟨(z + 1,acc ++ [⟨(z:Int) + 1,L⟩]),⟨by simp only;omega,by simp;omega,by simp only;rw [List.append_assoc];exact h3⟩,by simp only;omega,?_⟩
       exact le_auto
   · have h3':acc = Q:=by rw [← h3,List.drop_of_length_le (by omega)];simp [setFrom]
     clear hOf hstep HP HB HE h3
     (refine w0 ?_;(repeat' first|refine W2.mk ?_ ?_|refine W1.mk fun hc=>?_))
     refine rt1 ?_
     exact rv_ownM rfl rfl rfl h3'
theorem vs_Of (cOf:List Rn → List Rn) (s:List Kn) (hs:knsTot s) (hOf:∀ l ∈ tabOf s,Fn Tryz.prog 200 [rnsB l] (.own 132 2 ((cOf l).map rnP))) :
   Fn Tryz.prog 148 [knsB s] (.own 130 2 ((vsOf cOf s).map knP)):=by
 have h1:=vs_fill s hs
 have h2:=vs_tset cOf (tabOf s) (tabOf_len s) hOf
 refine fi Tryz.func148 Tryz.ntmps148 ?_
 (have kc1:=h1;have kc2:=h2;refine w0 ?_;(repeat' first|refine W2.mk ?_ ?_|refine W1.mk fun hc=>?_);all_goals clear kc2 kc1)
 refine rt1 ?_
 exact rv_own rfl rfl rfl
theorem vs_Same1 (x y:Kn) (hx:x.runs.length ≤ 1000000000):FnM Tryz.prog 169 [knC x,knC y] [] (bC (decide (x = y))) []:=by
 have h1:=sl_EqualRn x.runs y.runs hx
 have hE:x = y ↔ x.rep = y.rep ∧ x.runs = y.runs:=by cases x;cases y;simp
 obtain ⟨r,l⟩:=x
 obtain ⟨r',l'⟩:=y
 simp only at h1 hE hx
 show FnM Tryz.prog _ [.per (aggP [rawP (.int .i64 r),rnsP l]),.per (aggP [rawP (.int .i64 r'),rnsP l'])] [] _ []
 by_cases e1:r = r'
 · by_cases e2:l = l'
   · rw [decide_eq_true (hE.2 ⟨e1,e2⟩)]
     rw [decide_eq_true e2] at h1
     clear hE e2
     refine fmi Tryz.func169 Tryz.ntmps169 ?_
     (have kc1:=h1;refine w0 ?_;(repeat' first|refine W2.mk ?_ ?_|refine W1.mk fun hc=>?_);all_goals clear kc1)
     (refine ⟨(by first|exact .inl rfl|exact .inr rfl),resM1 [] rfl rfl .nil ?_⟩)
     exact rvm_bool rfl (by first|rfl|(simp [e1];done))
   · rw [decide_eq_false (fun h=>e2 (hE.1 h).2)]
     rw [decide_eq_false e2] at h1
     clear hE e2
     refine fmi Tryz.func169 Tryz.ntmps169 ?_
     (have kc1:=h1;refine w0 ?_;(repeat' first|refine W2.mk ?_ ?_|refine W1.mk fun hc=>?_);all_goals clear kc1)
     (refine ⟨(by first|exact .inl rfl|exact .inr rfl),resM1 [] rfl rfl .nil ?_⟩)
     exact rvm_bool rfl (by first|rfl|(simp [e1];done))
 · rw [decide_eq_false (fun h=>e1 (hE.1 h).1)]
   clear hE
   refine fmi Tryz.func169 Tryz.ntmps169 ?_
   (have kc1:=h1;refine w0 ?_;(repeat' first|refine W2.mk ?_ ?_|refine W1.mk fun hc=>?_);all_goals clear kc1)
   (refine ⟨(by first|exact .inl rfl|exact .inr rfl),resM1 [] rfl rfl .nil ?_⟩)
   exact rvm_bool rfl (by first|rfl|(simp [e1];done))
abbrev sm1C:Cnt:=.per (rawP (.func (.func 169) #[] #[]))
theorem sl_EqualFuncKn (l m:List Kn) (hl:knsSz l):Fn Tryz.prog 168 [knsB l,knsB m,sm1C] (boR (decide (l = m))):=by
 have hl0:=hl.1
 refine fi Tryz.func168 Tryz.ntmps168 ?_
 (refine w0 ?_;(repeat' first|refine W2.mk ?_ ?_|refine W1.mk fun hc=>?_))
 · refine rt1 ?_
   exact rv_bool rfl (by symm;rw [decide_eq_false_iff_not];intro h;subst h;omega)
 have hlm:l.length = m.length:=by omega
 refine AW_loopP (fun k=>k ≤ l.length ∧ l.take k = m.take k) (fun k=>mkSt [(1,knsB m),(2,sm1C),(15,knsB l),(16,iC .i64 (l.length:Nat)),(17,iC .i64 (k:Nat))] []) (fun k=>l.length - k) 0 ⟨Nat.zero_le _,rfl⟩ ?_ ?_
 · exact le_auto
 · rintro k ⟨hk,hpre⟩
   by_cases hlt:k < l.length
   · have hltm:k < m.length:=by omega
     have c1:=vs_Same1 l[k] m[k] (hl.at hlt)
     by_cases he:l[k] = m[k]
     · rw [decide_eq_true he] at c1
       (refine w0 ?_;(repeat' (first|refine W2.mk ?_ ?_|refine W1.mk fun hc=>?_|((first|apply AL_t rfl|apply AL_0 rfl|apply AD_t rfl|apply AD_0 rfl);(focus (first|(exact c_Vx [] c1)|(apply u_g;(focus rfl);apply op_gyes rfl rfl rfl rfl rfl;first|(exact c_Vx [] c1))));refine w0 ?_))))
       refine ⟨k + 1,⟨by omega,?_⟩,by omega,?_⟩
       · rw [take_snoc' l k hlt,take_snoc' m k hltm,hpre,he]
       · exact le_auto
     · rw [decide_eq_false he] at c1
       have hd:¬ l = m:=fun h=>he (by subst h;rfl)
       rw [decide_eq_false hd]
       clear hd he
       (refine w0 ?_;(repeat' (first|refine W2.mk ?_ ?_|refine W1.mk fun hc=>?_|((first|apply AL_t rfl|apply AL_0 rfl|apply AD_t rfl|apply AD_0 rfl);(focus (first|(exact c_Vx [] c1)|(apply u_g;(focus rfl);apply op_gyes rfl rfl rfl rfl rfl;first|(exact c_Vx [] c1))));refine w0 ?_))))
       refine rt1 ?_
       exact rv_bool rfl rfl
   · rw [List.take_of_length_le (by omega),List.take_of_length_le (by omega)] at hpre
     rw [decide_eq_true hpre]
     clear hpre
     (refine w0 ?_;(repeat' first|refine W2.mk ?_ ?_|refine W1.mk fun hc=>?_))
     refine rt1 ?_
     exact rv_bool rfl rfl
theorem vs_Same (a b A B:List Kn) (hA:Fn Tryz.prog 148 [knsB a] (.own 130 2 (A.map knP))) (hB:Fn Tryz.prog 148 [knsB b] (.own 130 2 (B.map knP))) (hsz:knsSz A) :
   Fn Tryz.prog 124 [knsB a,knsB b] (boR (decide (A = B))):=by
 have h1:=sl_EqualFuncKn A B hsz
 refine fi Tryz.func124 Tryz.ntmps124 ?_
 (have ko1:=hA;have ko2:=hB;have kc1:=h1;refine w0 ?_;(repeat' first|refine W2.mk ?_ ?_|refine W1.mk fun hc=>?_);all_goals clear kc1 ko2 ko1)
 refine rt1 ?_
 exact rv_bool rfl rfl
end
theorem set_at2 {α:Type} (A:List α) (x y:α) (T:List α) (j:Nat) (hj:j = A.length):(A ++ x :: T).set j y = A ++ y :: T:=by
 subst hj;simp
theorem snoc_c2 {α:Type} (l:List α):l = [] ∨ ∃ (l':List α) (y:α),l = l' ++ [y]:=by
 rcases List.eq_nil_or_concat l with h|⟨a,y,h⟩
 · exact .inl h
 · exact .inr ⟨a,y,by rw [h];simp⟩
theorem map_set2 {α β:Type} (f:α → β) (l:List α) (j:Nat) (y:α):(l.map f).set j (f y) = (l.set j y).map f:=by rw [List.map_set]
section
variable {P:Program} {n t:Nat} {ops:Array Oper} {o:Oper} {S:St}
theorem op_maxZ {ty ty':TypeId} {x y:Operand} {k:IntKind} {u v z:Int} (hp:Pl n o t) (ho:o.op = .call { callee:=.builtin .max,args:=#[x,y],argTypes:=#[ty,ty'] }) (hx:S.opd x = iC k u) (hy:S.opd y = iC k v) (hz:(if v > u then v else u) = z):OpOk n P ops o (opdN x ++ opdN y) (iC k z) [] S:=
 hz ▸ op_max hp ho hx hy
end
abbrev ownRn (l:List Rn):Ret:=.own 132 2 (l.map rnP)
abbrev rnsW (l:List Rn):Blk:=.row 132 2 (l.map rnP)
section
theorem cnt_Of (l:List Rn) (hl:l.length ≤ 1000000000):Fn Tryz.prog 200 [rnsB l] (ownRn (ofR l)):=by
 by_cases hok:rnsOk l
 · rw [ofR_id hok]
   exact cnt_Of_ok l hl hok
 have h0:=cnt_Right l hl false (by simp [hok])
 generalize hT:l.filter rnR = T at *
 have hTr:∀ x ∈ T,rnR x = true:=fun x hx=>by rw [← hT] at hx;exact (List.mem_filter.1 hx).2
 have hTl:T.length ≤ 1000000000:=by rw [← hT];exact Nat.le_trans (List.length_filter_le _ _) hl
 have hs:=sort_run T hTr hTl
 obtain ⟨hp,hsr⟩:=sortRn_spec hTr
 have hR:=ofR_sorted (l:=l) hsr (fun r=>by rw [hp.mem_iff,hT])
 have hQr:∀ x ∈ sortRn T,rnR x = true:=fun x hx=>hTr x (hp.mem_iff.1 hx)
 have hQl:(sortRn T).length = T.length:=hp.length_eq
 rw [← hR]
 generalize sortRn T = Q at *
 generalize hRR:mergeR Q = R
 clear hR hp hsr hok
 refine fi Tryz.func200 Tryz.ntmps200 ?_
 (have kc1:=h0;refine w0 ?_;(repeat' first|refine W2.mk ?_ ?_|refine W1.mk fun hc=>?_);all_goals clear kc1)
 refine AW_le (Le_nil 3 600 132 2 rfl rfl) ?_
 refine AW_loopP (X:=Nat × List Rn) (fun x=>x.1 ≤ l.length ∧ x.2 ++ (l.drop x.1).filter rnR = T)
   (fun x=>mkSt [(3,.row 600 0),(14,rnsB l),(15,iC .i64 (l.length:Nat)),(16,iC .i64 (x.1:Nat))] [(600,rnsW x.2)]) (fun x=>l.length - x.1) (0,[]) ⟨Nat.zero_le _,by simp [hT]⟩ ?_ ?_
 · exact le_auto
 · rintro ⟨k,ac⟩ ⟨g1,g2⟩
   simp only at g1 g2 ⊢
   by_cases hk:k < l.length
   · have hir:=cnt_one l[k]
     have hlen:ac.length ≤ 1000000000:=by
       have:=congrArg List.length g2
       simp only [List.length_append] at this;omega
     rw [List.drop_eq_getElem_cons hk,List.filter_cons] at g2
     cases hr:rnR l[k] with
     | false=>
       rw [hr] at hir g2
       clear hTr hQr hs
       (have kc1:=hir;refine w0 ?_;(repeat' first|refine W2.mk ?_ ?_|refine W1.mk fun hc=>?_);all_goals clear kc1)
       refine ⟨(k + 1,ac),⟨by simp only;omega,by simpa using g2⟩,by simp only;omega,?_⟩
       exact le_auto
     | true=>
       rw [hr] at hir g2
       clear hTr hQr hs
       (have kc1:=hir;refine w0 ?_;(repeat' first|refine W2.mk ?_ ?_|refine W1.mk fun hc=>?_);all_goals clear kc1)
       refine ⟨(k + 1,ac ++ [l[k]]),⟨by simp only;omega,by simpa using g2⟩,by simp only;omega,Le_trans (Le_mv 600 601) (Le_trans (Le_mv 601 600) ?_)⟩
       exact le_auto
   · have hkl:k = l.length:=by omega
     subst hkl
     rw [List.drop_length] at g2
     simp at g2
     subst g2
     (have km1:=(show FnMs [(1000,600)] _ _ _ _ _ _ from hs);refine w0 ?_;(repeat' first|refine W2.mk ?_ ?_|refine W1.mk fun hc=>?_);all_goals clear km1)
     clear hs hTr hT
     refine AW_le (Le_nil 6 700 132 2 rfl rfl) ?_
     refine AW_loopP (X:=Nat × List Rn) (fun x=>x.1 ≤ Q.length ∧ x.2.length ≤ x.1 ∧ ((x.2 = [] ∧ x.1 = 0) ∨ ∃ o y,x.2 = o ++ [y] ∧ rnR y = true ∧ o ++ mgC y (Q.drop x.1) = R))
       (fun x=>mkSt [(6,.row 700 0),(29,.row 600 0),(30,iC .i64 (Q.length:Nat)),(31,iC .i64 (x.1:Nat))] [(600,rnsW Q),(700,rnsW x.2)]) (fun x=>Q.length - x.1) (0,[]) ⟨Nat.zero_le _,Nat.le_refl _,.inl ⟨rfl,rfl⟩⟩ ?_ ?_
     · exact le_auto
     · rintro ⟨k,out⟩ ⟨g1,g0,g2⟩
       simp only at g1 g0 g2 ⊢
       by_cases hk:k < Q.length
       · have hxr:=hQr _ (List.getElem_mem hk)
         have hdr:=List.drop_eq_getElem_cons hk
         generalize hx:Q[k] = x at *
         have HQ:(Q.map rnP)[k]? = some (rnP x):=by rw [List.getElem?_map,List.getElem?_eq_getElem hk,hx];rfl
         have hxi:=(rnR_iff x).1 hxr
         clear hQr
         rcases g2 with ⟨rfl,rfl⟩|⟨o,y,rfl,hyr,g2⟩
         · have g4:[] ++ mgC x (Q.drop 1) = R:=by
             rw [List.drop_zero] at hdr
             rw [← hRR,hdr];rfl
           (refine w0 ?_;(repeat' (first|refine W2.mk ?_ ?_|refine W1.mk fun hc=>?_|((first|apply AL_t rfl|apply AL_0 rfl|apply AD_t rfl|apply AD_0 rfl);(focus (first|((apply u_k 5;(focus rfl);exact u_load_rA ⟨rfl,rfl,rfl⟩ rfl inferInstance inferInstance rfl rfl rfl HQ rfl rfl rfl))|(apply u_g;(focus rfl);apply op_gyes rfl rfl rfl rfl rfl;first|((apply u_k 5;(focus rfl);exact u_load_rA ⟨rfl,rfl,rfl⟩ rfl inferInstance inferInstance rfl rfl rfl HQ rfl rfl rfl)))));refine w0 ?_))))
           refine ⟨(1,[x]),⟨by simp only;omega,Nat.le_refl _,.inr ⟨[],x,rfl,hxr,g4⟩⟩,by simp only;omega,Le_trans (Le_mv 700 701) (Le_trans (Le_mv 701 700) ?_)⟩
           exact le_auto
         · have hyi:=(rnR_iff y).1 hyr
           rw [hdr,mgC] at g2
           have hL1:(o ++ [y]).length = o.length + 1:=by simp
           have hM:(if x.to > y.to then x.to else y.to) = max y.to x.to:=by omega
           have hmr:rnR ⟨y.fr,max y.to x.to⟩ = true:=(rnR_iff _).2 (by simp only;omega)
           generalize max y.to x.to = M at *
           generalize hL:o ++ [y] = L at *
           have hLi:((L.length:Int) - 1).toNat = o.length:=by omega
           have HY:(L.map rnP)[((L.length:Int) - 1).toNat]? = some (rnP y):=by
             rw [List.getElem?_map,hLi,← hL]
             simp
           have HS1:(L.map rnP).set ((L.length:Int) - 1).toNat (setP (rnP y) 1 [rawP (.int .i64 M)]) = (o ++ [(⟨y.fr,M⟩:Rn)]).map rnP:=by
             rw [show (L.map rnP).set ((L.length:Int) - 1).toNat (setP (rnP y) 1 [rawP (.int .i64 M)]) = (L.set ((L.length:Int) - 1).toNat ⟨y.fr,M⟩).map rnP from map_set2 rnP L _ (⟨y.fr,M⟩:Rn),← hL,set_at2 o y _ [] _ (by rw [hL];omega)]
           have hML:(o ++ [(⟨y.fr,M⟩:Rn)]).length = L.length:=by rw [← hL];simp
           by_cases c:x.fr - y.to < 2
           · rw [if_pos c] at g2
             (repeat' (first|refine AW_seq ?_|refine AW_block ?_|refine AW_skip ?_|refine AW_exit ?_|refine AW_ret ?_|refine AW_region ?_|refine AW_draw mixed0 ?_|refine AL_nil ?_|refine AD_nil (by kernel_rfl) ?_|(refine AW_cl rfl rfl ⟨fun hc=>?_,fun hc=>?_⟩ <;> (repeat rw [List.length_map] at hc) <;> (try exact absd hc))|((first|apply AL_t rfl|apply AL_0 rfl|apply AD_t rfl|apply AD_0 rfl);focus (first|((apply u_k 19;(focus rfl);exact op_maxZ ⟨rfl,rfl,rfl⟩ rfl rfl rfl hM))|(apply u_g;(focus rfl);apply op_gyes rfl rfl rfl rfl rfl;((apply u_k 19;(focus rfl);exact op_maxZ ⟨rfl,rfl,rfl⟩ rfl rfl rfl hM)))|exact z_auto|((apply u_k 5;(focus rfl);first|exact u_load_r1 ⟨rfl,rfl,rfl⟩ rfl inferInstance rfl rfl rfl HY rfl|exact u_load_rA ⟨rfl,rfl,rfl⟩ rfl inferInstance inferInstance rfl rfl rfl HQ rfl rfl rfl))|(apply u_g;(focus rfl);apply op_gyes rfl rfl rfl rfl rfl;((apply u_k 5;(focus rfl);first|exact u_load_r1 ⟨rfl,rfl,rfl⟩ rfl inferInstance rfl rfl rfl HY rfl|exact u_load_rA ⟨rfl,rfl,rfl⟩ rfl inferInstance inferInstance rfl rfl rfl HQ rfl rfl rfl)))|((apply u_k 6;(focus rfl);exact u_store_r ⟨rfl,rfl⟩ rfl inferInstance rfl rfl rfl rfl HY rfl (part_raw rfl rfl rfl) rfl HS1))|(apply u_g;(focus rfl);apply op_gyes rfl rfl rfl rfl rfl;((apply u_k 6;(focus rfl);exact u_store_r ⟨rfl,rfl⟩ rfl inferInstance rfl rfl rfl rfl HY rfl (part_raw rfl rfl rfl) rfl HS1)))|fail))|refine thenA_n ?_|refine thenA_r ?_|refine thenA_e ?_|refine inB_n ?_|refine inB_r ?_|refine inB_hit ?_|refine inB_miss rfl ?_|((first|refine AL_cl rfl rfl rfl ⟨fun hc=>?_,fun hc=>?_⟩|refine AD_cl rfl rfl rfl ⟨fun hc=>?_,fun hc=>?_⟩) <;> (fail_if_success (have q:(true = true):=hc)) <;> (fail_if_success (have q:(false = false):=hc)) <;> (repeat rw [List.length_map] at hc) <;> (try exact absd hc))|refine AW_cond_nil rfl rfl (fun hc=>?_) ?_))
             refine ⟨(k + 1,_),⟨by simp only;omega,by simp only;omega,.inr ⟨o,_,rfl,hmr,g2⟩⟩,by simp only;omega,?_⟩
             exact le_auto
           · rw [if_neg c] at g2
             (refine w0 ?_;(repeat' (first|refine W2.mk ?_ ?_|refine W1.mk fun hc=>?_|((first|apply AL_t rfl|apply AL_0 rfl|apply AD_t rfl|apply AD_0 rfl);(focus (first|((apply u_k 5;(focus rfl);first|exact u_load_r1 ⟨rfl,rfl,rfl⟩ rfl inferInstance rfl rfl rfl HY rfl|exact u_load_rA ⟨rfl,rfl,rfl⟩ rfl inferInstance inferInstance rfl rfl rfl HQ rfl rfl rfl))|(apply u_g;(focus rfl);apply op_gyes rfl rfl rfl rfl rfl;first|((apply u_k 5;(focus rfl);first|exact u_load_r1 ⟨rfl,rfl,rfl⟩ rfl inferInstance rfl rfl rfl HY rfl|exact u_load_rA ⟨rfl,rfl,rfl⟩ rfl inferInstance inferInstance rfl rfl rfl HQ rfl rfl rfl)))));refine w0 ?_))))
             refine ⟨(k + 1,L ++ [x]),⟨by simp only;omega,by simp;omega,.inr ⟨L,x,rfl,hxr,by simp only;rw [← hL,List.append_assoc];exact g2⟩⟩,by simp only;omega,Le_trans (Le_mv 700 701) (Le_trans (Le_mv 701 700) ?_)⟩
             exact le_auto
       · have hkl:k = Q.length:=by omega
         subst hkl
         have g3:out = R:=by
           rcases g2 with ⟨a,b⟩|⟨o,y,a,_,b⟩
           · rw [a,← hRR,List.eq_nil_of_length_eq_zero b];rfl
           · rw [List.drop_length] at b
             rw [a,← b];rfl
         clear g2 hRR hQr
         (refine w0 ?_;(repeat' first|refine W2.mk ?_ ?_|refine W1.mk fun hc=>?_))
         refine rt1 ?_
         exact rv_ownM rfl rfl rfl g3
end
end Go.Proofs.YtembiemaiacdfaaGreat
