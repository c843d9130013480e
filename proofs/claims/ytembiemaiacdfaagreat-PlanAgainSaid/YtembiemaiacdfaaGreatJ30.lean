/- Texts joined: PlA SwT SwV SwK SwY. -/
import Derived.Test.YtembiemaiacdfaaGreatJ24
import Derived.Test.YtembiemaiacdfaaGreatJ29
import Derived.Test.YtembiemaiacdfaaGreatJ05
import Derived.Test.YtembiemaiacdfaaGreatJ28
set_option maxRecDepth 10000
set_option maxHeartbeats 8000000
namespace Go.Proofs.YtembiemaiacdfaaGreat
open Go.RowKit
theorem one_rns {c:Int} (h:1 ≤ c ∧ c ≤ 1099511627776):rnsOk [⟨c,c⟩]:=fun i hi=>by
 intro hi'
 have:i = 0:=by simp at hi;omega
 subst this
 exact ⟨(rnR_iff _).2 ⟨by simp;omega,by simp,by simp;omega⟩,fun q=>by omega⟩
theorem verR_b {r c:Int} (h:verR r c = true):1 ≤ r ∧ r ≤ 16 ∧ 1 ≤ c ∧ c ≤ 1099511627776:=by
 unfold verR at h
 simp at h
 omega
theorem set_one {r c:Int} (h:verR r c = true) {q:Nat} (hq:r - 1 = (q:Int)):setFrom ofR 0 ((tabOf []).set q [⟨c,c⟩]) = [⟨r,[⟨c,c⟩]⟩]:=by
 have hv:=verR_b h
 have h1:=tabOf_in [] ⟨r,[⟨c,c⟩]⟩ (r:=q) (by omega) (by simp only;omega)
 rw [show tabAt [] q ++ [(⟨c,c⟩:Rn)] = [⟨c,c⟩] from rfl,List.nil_append] at h1
 rw [← h1]
 exact vsOf_id ((knsOk_cons _ _).2 ⟨⟨hv.1,hv.2.1,by simp,one_rns hv.2.2⟩,fun q hq=>by simp at hq,knsOk_nil⟩)
section
theorem cnt_Add0 (c:Int) (h:1 ≤ c ∧ c ≤ 1099511627776):Fn Tryz.prog 206 [.per (rnsP []),intsB [c]] (ownRn [⟨c,c⟩]):=by
 have h1:=(sl_CloneRn [] (by simp))
 have h2:=cnt_Of [⟨c,c⟩] (by simp)
 rw [ofR_id (one_rns h)] at h2
 refine fi Tryz.func206 Tryz.ntmps206 ?_
 (have kc1:=h1;refine w0 ?_;(repeat' first|refine W2.mk ?_ ?_|refine W1.mk fun hc=>?_);all_goals clear kc1)
 refine AW_le (Le_mv 9 700) ?_
 refine AW_loopP (X:=Nat) (fun i=>i ≤ 1) (fun i=>mkSt [(5,.row 700 0),(10,intsB [c]),(11,iC .i64 1),(12,iC .i64 (i:Nat))] [(700,.row 132 2 (([⟨c,c⟩]:List Rn).take i |>.map rnP))]) (fun i=>1 - i) 0 (Nat.zero_le _) ?_ ?_
 · exact le_auto
 · rintro i hi
   by_cases h0:i = 0
   · subst h0
     clear h1 h2
     (refine w0 ?_;(repeat' first|refine W2.mk ?_ ?_|refine W1.mk fun hc=>?_))
     refine ⟨1,by omega,by omega,Le_trans (Le_mv 700 701) (Le_trans (Le_mv 701 700) ?_)⟩
     exact le_auto
   · obtain rfl:i = 1:=by omega
     clear h1
     (have kc1:=h2;refine w0 ?_;(repeat' first|refine W2.mk ?_ ?_|refine W1.mk fun hc=>?_);all_goals clear kc1)
     refine rt1 ?_
     exact rv_own rfl rfl rfl
/-- a set with nothing, and one version more -/
theorem vs_AddL (l:List Vn) (hl:l.length = 1) (r c:Int) (hr:l[0].1 = r) (hc0:l[0].2 = c) (h:verR r c = true):Fn Tryz.prog 181 [.per (rawP (.slice none 0 0)),vnsB l] (ownKn [⟨r,[⟨c,c⟩]⟩]):=by
 have hv:=verR_b h
 have h1:=vs_fill [] ⟨by simp,by simp⟩
 have h2:=ver_Right l[0].1 l[0].2
 rw [hr,hc0,h] at h2
 obtain ⟨q,hq⟩:∃ q:Nat,l[0].1 - 1 = (q:Nat):=⟨(r - 1).toNat,by omega⟩
 have h3:=cnt_Add0 c hv.2.2
 have hT:=tabOf_len []
 have hset:=set_one h (hr ▸ hq)
 have hT2:((tabOf []).set q [⟨c,c⟩]).length = 16:=by rw [List.length_set];exact hT
 have h4:=vs_tset ofR ((tabOf []).set q [⟨c,c⟩]) hT2 (fun l hl=>cnt_Of l (by
   rcases List.mem_or_eq_of_mem_set hl with q|q
   · unfold tabOf at q
     obtain ⟨j,_,rfl⟩:=List.mem_map.1 q
     simp [tabAt]
   · rw [q];simp))
 rw [hset] at h4
 have hg:(tabOf [])[q]? = some []:=by rw [tabOf_get [] (by omega)];rfl
 generalize tabOf [] = T at *
 have HJ:(tabC T)[0 + q * 1]? = some (.per (rnsP [])):=by
   rw [Nat.zero_add,Nat.mul_one,List.getElem?_map,hg];rfl
 have HB:Nat.ble (0 + q * 1 + 1) (tabC T).length = true:=Nat.ble_eq_true_of_le (by simp;omega)
 have HF:∀ (F:Cnt → Cnt) (d:Cnt),(∀ A,F (.per A) = .per A) → F d = .per (lstP 2 ([⟨c,c⟩].map rnP)) → (setL (tabC T) (0 + q * 1) [d]).map F = tabC (T.set q [⟨c,c⟩]):=fun F d e1 e2=>by
   rw [Nat.zero_add,Nat.mul_one,setL_set _ _ _ (by simp;omega),List.map_set,e2,tabC_per e1]
   unfold tabC
   rw [List.map_set]
 refine fi Tryz.func181 Tryz.ntmps181 ?_
 (have kc1:=h1;refine w0 ?_;(repeat' (first|refine W2.mk ?_ ?_|refine W1.mk fun hc=>?_|((first|apply AL_t rfl|apply AL_0 rfl|apply AD_t rfl|apply AD_0 rfl);(focus (first|((apply u_k 6;(focus rfl);exact u_storeA ⟨rfl,rfl⟩ rfl inferInstance rfl rfl rfl rfl rfl rfl (by simp [hT])))|(apply u_g;(focus rfl);apply op_gyes rfl rfl rfl rfl rfl;first|((apply u_k 6;(focus rfl);exact u_storeA ⟨rfl,rfl⟩ rfl inferInstance rfl rfl rfl rfl rfl rfl (by simp [hT]))))));refine w0 ?_)));all_goals clear kc1)
 clear h1
 refine AW_loopP (X:=Nat) (fun i=>i ≤ 1) (fun i=>mkSt [(5,.ptr 5 0 0),(10,vnsB l),(11,iC .i64 1),(12,iC .i64 (i:Nat))] [(5,.box 214 (tabC (if i = 0 then T else T.set q [⟨c,c⟩])))]) (fun i=>1 - i) 0 (Nat.zero_le _) ?_ ?_
 · (refine Le_mk ?_ ?_;(focus ((repeat (first|exact AllG.nil|(refine AllG.cons ?_ ?_;rotate_left)));(all_goals try (first|rfl|(refine eqI ?_;first|omega|(simp;done)|(simp;omega))|(refine eqBo ?_;first|(simp;done)|(simp [*];done))))));(focus ((repeat (first|exact AllB.nil|(refine AllB.cons ?_ ?_;rotate_left)));(all_goals try (first|rfl|(refine eqRw ?_;(rw [List.map_append] <;> rfl);done)|(refine eqMix ?_;(rw [List.map_append] <;> rfl);done))))))
   rw [if_pos rfl]
   show Blk.box _ (List.map _ (setL _ 0 ((T.map rnsP).map .per))) = _
   rw [setL_full (by rw [List.length_map,List.length_map,hT];rfl),tabC_map]
   exact congrArg _ (tabC_per (fun _=>rfl))
 · rintro i hi
   by_cases h0:i = 0
   · subst h0
     rw [if_pos rfl]
     clear h4 hset
     subst hr;subst hc0
     (repeat' (first|refine AW_seq ?_|refine AW_block ?_|refine AW_skip ?_|refine AW_exit ?_|refine AW_ret ?_|refine AW_region ?_|refine AW_draw mixed0 ?_|refine AL_nil ?_|refine AD_nil (by kernel_rfl) ?_|(refine AW_cl rfl rfl ⟨fun hc=>?_,fun hc=>?_⟩ <;> (repeat rw [List.length_map] at hc) <;> (try exact absd hc))|((first|apply AL_t rfl|apply AL_0 rfl|apply AD_t rfl|apply AD_0 rfl);focus (first|((apply u_k 8;(focus rfl);exact op_num ⟨rfl,rfl,rfl⟩ rfl rfl rfl rfl ((wrap_id64 (by omega) (by omega)).trans hq)))|(apply u_g;(focus rfl);apply op_gyes rfl rfl rfl rfl rfl;((apply u_k 8;(focus rfl);exact op_num ⟨rfl,rfl,rfl⟩ rfl rfl rfl rfl ((wrap_id64 (by omega) (by omega)).trans hq))))|((apply u_k 5;(focus rfl);exact u_load1 ⟨rfl,rfl,rfl⟩ rfl inferInstance rfl rfl rfl HJ))|(apply u_g;(focus rfl);apply op_gyes rfl rfl rfl rfl rfl;((apply u_k 5;(focus rfl);exact u_load1 ⟨rfl,rfl,rfl⟩ rfl inferInstance rfl rfl rfl HJ)))|((apply u_k 6;(focus rfl);exact u_store_c (c:=.row _ _) ⟨rfl,rfl⟩ rfl inferInstance rfl rfl rfl HB rfl (by first|exact oneQ_per (by first|exact oneP_raw rfl rfl|exact oneP_lst|exact oneP_rp)|exact oneQ_ptr rfl|exact oneQ_row rfl rfl|exact oneQ_obj rfl rfl|exact oneQ_clo1|exact oneQ_clo2|exact oneQ_clo3)))|(apply u_g;(focus rfl);apply op_gyes rfl rfl rfl rfl rfl;((apply u_k 6;(focus rfl);exact u_store_c (c:=.row _ _) ⟨rfl,rfl⟩ rfl inferInstance rfl rfl rfl HB rfl (by first|exact oneQ_per (by first|exact oneP_raw rfl rfl|exact oneP_lst|exact oneP_rp)|exact oneQ_ptr rfl|exact oneQ_row rfl rfl|exact oneQ_obj rfl rfl|exact oneQ_clo1|exact oneQ_clo2|exact oneQ_clo3))))|exact z_auto|exact c_A (h2)|((refine c_O (h3) (hg:=?_);((repeat (first|exact GL.nil|(refine GL.cons ?_ ?_;focus (first|exact gl_per rfl|exact gl_lst rfl|exact gl_row rfl rfl rfl|exact gl_bor rfl|exact gl_nil rfl|exact gl_nil' rfl))));done)))|(apply u_g;(focus rfl);apply op_gyes rfl rfl rfl rfl rfl;((refine c_O (h3) (hg:=?_);((repeat (first|exact GL.nil|(refine GL.cons ?_ ?_;focus (first|exact gl_per rfl|exact gl_lst rfl|exact gl_row rfl rfl rfl|exact gl_bor rfl|exact gl_nil rfl|exact gl_nil' rfl))));done))))|fail))|refine thenA_n ?_|refine thenA_r ?_|refine thenA_e ?_|refine inB_n ?_|refine inB_r ?_|refine inB_hit ?_|refine inB_miss rfl ?_|((first|refine AL_cl rfl rfl rfl ⟨fun hc=>?_,fun hc=>?_⟩|refine AD_cl rfl rfl rfl ⟨fun hc=>?_,fun hc=>?_⟩) <;> (fail_if_success (have q:(true = true):=hc)) <;> (fail_if_success (have q:(false = false):=hc)) <;> (repeat rw [List.length_map] at hc) <;> (try exact absd hc))|refine AW_cond_nil rfl rfl (fun hc=>?_) ?_))
     refine ⟨1,by omega,by omega,Le_trans (Le_fz 29 _ 132 2 rfl rfl) ?_⟩
     (refine Le_mk ?_ ?_;(focus ((repeat (first|exact AllG.nil|(refine AllG.cons ?_ ?_;rotate_left)));(all_goals try (first|rfl|(refine eqI ?_;first|omega|(simp;done)|(simp;omega))|(refine eqBo ?_;first|(simp;done)|(simp [*];done))))));(focus ((repeat (first|exact AllB.nil|(refine AllB.cons ?_ ?_;rotate_left)));(all_goals try (first|rfl|(refine eqRw ?_;(rw [List.map_append] <;> rfl);done)|(refine eqMix ?_;(rw [List.map_append] <;> rfl);done))))))
     rw [if_neg (by omega)]
     show Blk.box _ (List.map _ (List.map _ _)) = _
     rw [List.map_map]
     exact congrArg (Blk.box _) (HF _ _ (fun _=>rfl) rfl)
   · obtain rfl:i = 1:=by omega
     rw [if_neg (by omega)]
     clear h2 h3
     have HP:=tabC_full hT2
     have HB':=tabC_ble hT2
     generalize T.set q [⟨c,c⟩] = T2 at *
     (have kc1:=h4;refine w0 ?_;(repeat' (first|refine W2.mk ?_ ?_|refine W1.mk fun hc=>?_|((first|apply AL_t rfl|apply AL_0 rfl|apply AD_t rfl|apply AD_0 rfl);(focus (first|((apply u_k 5;(focus rfl);exact u_loadA ⟨rfl,rfl,rfl⟩ rfl inferInstance inferInstance rfl rfl rfl rfl HB' HP))|(apply u_g;(focus rfl);apply op_gyes rfl rfl rfl rfl rfl;first|((apply u_k 5;(focus rfl);exact u_loadA ⟨rfl,rfl,rfl⟩ rfl inferInstance inferInstance rfl rfl rfl rfl HB' HP)))));refine w0 ?_)));all_goals clear kc1)
     refine rt1 ?_
     exact rv_own rfl rfl rfl
theorem key_Next (s:ByteArray) (hs:s.size ≤ 1000):Fn Tryz.prog 207 [sC s] (.per (rawP (.string (s ++ ⟨#[0]⟩)))):=by
 have hz:(⟨#[0]⟩:ByteArray).size = 1:=rfl
 refine fi Tryz.func207 Tryz.ntmps207 ?_
 (refine w0 ?_;(repeat' first|refine W2.mk ?_ ?_|refine W1.mk fun hc=>?_))
 refine rt1 ?_
 exact rv_per rfl
theorem span_Of (s:ByteArray) (hs:s.size ≤ 16):Fn Tryz.prog 182 [sC s] (.per (aggP (rgP ⟨s,s ++ ⟨#[0]⟩,false⟩))):=by
 have h1:=key_Next s (by omega)
 refine fi Tryz.func182 Tryz.ntmps182 ?_
 (have kc1:=h1;refine w0 ?_;(repeat' first|refine W2.mk ?_ ?_|refine W1.mk fun hc=>?_);all_goals clear kc1)
 refine rt1 ?_
 exact rv_cA inferInstance inferInstance rfl rfl rfl rfl rfl rfl
theorem kn_Add (k:List Pc) (s:ByteArray) (r c:Int) (hs:keyR s = true) (h:verR r c = true) (hk:pcsMid (k ++ oneK s r c)):Fn Tryz.prog 134 [pcsC k,sC s,vnsB [(r,c)]] (.per (pcsP (ofK (k ++ oneK s r c)))):=by
 have h1:=ver_Sorted [(r,c)] (by simp)
 have e1:compV (sortV ([(r,c)].filter vnR)) = [(r,c)]:=by
   have:vnR (r,c) = true:=h
   simp only [List.filter_cons,this,List.filter_nil,if_true]
   rw [List.perm_singleton.1 (sortV_perm [(r,c)])];rfl
 rw [e1] at h1
 have h2:=(vs_AddL [(r,c)] rfl r c rfl rfl h).frz
 have h3:=key_Right s
 rw [hs] at h3
 have hz:s.size ≤ 16:=by unfold keyR at hs;simp at hs;omega
 have h4:=span_Of s hz
 have h5:=(kn_Join [k,oneK s r c] (by simp) (by simpa using hk)).frz
 rw [show ([k,oneK s r c]:List (List Pc)).flatten = k ++ oneK s r c by simp] at h5
 generalize ofK (k ++ oneK s r c) = R at *
 unfold oneK at h5
 rw [hs,h,if_pos (by rfl)] at h5
 clear hk e1
 refine fi Tryz.func134 Tryz.ntmps134 ?_
 (have kc1:=h1;have kc2:=h2;have kc3:=h3;have kc4:=h4;refine w0 ?_;(repeat' first|refine W2.mk ?_ ?_|refine W1.mk fun hc=>?_);all_goals clear kc4 kc3 kc2 kc1)
 refine AL_le (Le_nil 19 700 110 4 rfl rfl) ?_
 (refine w0 ?_;(repeat' first|refine W2.mk ?_ ?_|refine W1.mk fun hc=>?_))
 refine AL_le (Le_fz 700 _ 110 4 rfl rfl) ?_
 (have kc1:=h5;refine w0 ?_;(repeat' first|refine W2.mk ?_ ?_|refine W1.mk fun hc=>?_);all_goals clear kc1)
 refine rt1 ?_
 exact rv_per rfl
end
theorem rns_last {l:List Rn} (h:rnsOk l):∀ r ∈ l,r.to ≤ lastTo l:=by
 have mono:∀ (d i:Nat) (hi:i + d < l.length),(l[i]'(by omega)).to ≤ (l[i + d]'hi).to:=by
   intro d
   induction d with
   | zero=>intro i hi;exact Int.le_refl _
   | succ d ih=>
     intro i hi
     have h1:=ih i (by omega)
     have h2:=h (i + d + 1) (by omega) (by omega)
     have h3:=(rnR_iff _).1 h2.1
     have h4:=h2.2 (by omega)
     have e:i + d + 1 - 1 = i + d:=by omega
     simp only [e] at h4
     have e2:i + (d + 1) = i + d + 1:=by omega
     simp only [e2]
     omega
 intro r hr
 obtain ⟨i,hi,rfl⟩:=List.getElem_of_mem hr
 have hl:lastTo l = (l[l.length - 1]'(by omega)).to:=by
   unfold lastTo
   rw [List.getLast?_eq_getElem?,List.getElem?_eq_getElem (by omega)]
 have:=mono (l.length - 1 - i) i (by omega)
 have e:i + (l.length - 1 - i) = l.length - 1:=by omega
 simp only [e] at this
 rw [hl];exact this
theorem mostR_le {l:List Rn} {c:Int} (hc:0 ≤ c):mostR l ≤ c ↔ ∀ n,hasR l n → n ≤ c:=by
 unfold mostR
 have hk:=ofR_ok l
 constructor
 · intro h n hn
   obtain ⟨r,h1,h2,h3,h4⟩:=(ofR_has l n).2 hn
   have:=rns_last hk r h1
   omega
 · intro h
   by_cases e:ofR l = []
   · rw [e];exact hc
   · have hp:0 < (ofR l).length:=List.length_pos_iff.2 e
     have hl:lastTo (ofR l) = ((ofR l)[(ofR l).length - 1]'(by omega)).to:=by
       unfold lastTo
       rw [List.getLast?_eq_getElem?,List.getElem?_eq_getElem (by omega)]
     have h1:=(hk ((ofR l).length - 1) (by omega) (by omega)).1
     have h2:=(rnR_iff _).1 h1
     rw [hl]
     refine h _ ((ofR_has l _).1 ⟨_,List.getElem_mem (by omega),h1,by omega,Int.le_refl _⟩)
theorem mostS_le {s:List Kn} {id c:Int} (hc:0 ≤ c):mostS s id ≤ c ↔ (1 ≤ id ∧ id ≤ 16 → ∀ n,hasR (tabAt s (id - 1).toNat) n → n ≤ c):=by
 unfold mostS
 by_cases h:1 ≤ id ∧ id ≤ 16
 · rw [if_pos h,mostR_le hc];exact ⟨fun q _=>q,fun q=>q h⟩
 · rw [if_neg h];exact ⟨fun _ q=>absurd q h,fun _=>hc⟩
theorem mostK_from (id c:Int):∀ (k:List Pc) (n:Int),k.foldl (fun n p=>max n (mostS p.set id)) n ≤ c ↔ n ≤ c ∧ ∀ p ∈ k,mostS p.set id ≤ c:=by
 intro k
 induction k with
 | nil=>intro n;simp
 | cons p k ih=>
   intro n
   rw [List.foldl_cons,ih]
   constructor
   · rintro ⟨h1,h2⟩
     refine ⟨by omega,fun q hq=>?_⟩
     rcases List.mem_cons.1 hq with rfl|hq
     · omega
     · exact h2 q hq
   · rintro ⟨h1,h2⟩
     have:=h2 p List.mem_cons_self
     exact ⟨by omega,fun q hq=>h2 q (List.mem_cons_of_mem _ hq)⟩
theorem getK_set {k:List Pc} {s:ByteArray} (h:getK k s ≠ []):∃ p ∈ k,p.set = getK k s:=by
 induction k with
 | nil=>exact absurd (getK_nil s) h
 | cons p k ih=>
   by_cases q:rgHas p.rg s = true
   · exact ⟨p,List.mem_cons_self,(getK_in q).symm⟩
   · rw [getK_out q] at h ⊢
     obtain ⟨r,h1,h2⟩:=ih h
     exact ⟨r,List.mem_cons_of_mem _ h1,h2⟩
theorem mostS_nil (id:Int):mostS [] id = 0:=by
 unfold mostS
 split
 · have:mostR (tabAt [] (id - 1).toNat) ≤ 0:=(mostR_le (Int.le_refl 0)).2 fun n h=>by
     unfold tabAt at h;exact absurd h (hasR_nil n)
   have:=mostR_nn (tabAt [] (id - 1).toNat)
   omega
 · rfl
theorem mostK_le {k:List Pc} (hk:pcsOk k) {id c:Int} (hc:0 ≤ c):mostK k id ≤ c ↔ ∀ s,mostS (getK k s) id ≤ c:=by
 unfold mostK
 rw [mostK_from]
 constructor
 · rintro ⟨_,h⟩ s
   by_cases e:getK k s = []
   · rw [e,mostS_nil];exact hc
   · obtain ⟨p,h1,h2⟩:=getK_set e
     rw [← h2];exact h p h1
 · intro h
   refine ⟨hc,fun p hp=>?_⟩
   obtain ⟨_,s,h2⟩:=pcsOk_at hk p hp
   rw [← h2];exact h s
theorem mostK_join {a b:List Pc} (ha:pcsOk a) (hb:pcsOk b) {id c:Int} (hc:0 ≤ c) (h1:mostK a id ≤ c) (h2:mostK b id ≤ c):mostK (ofK (a ++ b)) id ≤ c:=by
 obtain ⟨h3,h4⟩:=ofK_ok (a ++ b)
 rw [mostK_le h3 hc]
 intro s
 rw [h4,atK_or,mostS_le hc]
 intro hid n hn
 rw [tabAt_vsOf _ (by omega),ofR_has,tabAt_app,hasR_app,atK_get ha,atK_get hb] at hn
 rcases hn with hn|hn
 · exact (mostS_le hc).1 ((mostK_le ha hc).1 h1 s) hid n hn
 · exact (mostS_le hc).1 ((mostK_le hb hc).1 h2 s) hid n hn
/-- knowledge on a list's texts alone -/
theorem rest_iff {k:List Pc} (hk:pcsOk k) {f:List Rg}:restK k f = k ↔ ∀ s,anyR f s = false → getK k s = []:=by
 obtain ⟨h1,h2⟩:=restK_ok k f
 constructor
 · intro h s hs
   rw [← h,h2]
   unfold resF
   rw [hs];rfl
 · intro h
   refine pcsOk_uniq h1 hk fun s=>?_
   rw [h2]
   unfold resF
   by_cases q:anyR f s = true
   · rw [if_pos q,atK_get hk]
   · rw [if_neg q];exact (h s (by simpa using q)).symm
theorem rest_join {a b:List Pc} (ha:pcsOk a) (hb:pcsOk b) {f:List Rg} (h1:restK a f = a) (h2:restK b f = b):restK (ofK (a ++ b)) f = ofK (a ++ b):=by
 obtain ⟨h3,h4⟩:=ofK_ok (a ++ b)
 rw [rest_iff h3]
 intro s hs
 rw [h4,atK_or,atK_get ha,atK_get hb,(rest_iff ha).1 h1 s hs,(rest_iff hb).1 h2 s hs]
 exact vsOf_nil
theorem up_keys {l:List It} (h:Up l):(l.map It.key).Pairwise (· < ·):=by
 rw [List.pairwise_map]
 refine h.imp fun {x y} q=>?_
 rw [ltK_t] at q
 exact (o_lt _ _).1 q
theorem takeS_all {s:Sta} {l:List It} {k:List Pc} (h:(takeS s l k).2 = 0) :
   ((inL s.flt l).all fun x=>hasPb s.know x.key x.rep x.cnt || hasPb (restK k s.flt) x.key x.rep x.cnt) = true ∧ mostK (restK k s.flt) s.id ≤ s.cnt ∧ apartB (mergeK [s.its ++ inL s.flt l]) = true ∧ (mergeK [s.its ++ inL s.flt l]).length ≤ 4096:=by
 unfold takeS at h
 by_cases c1:stR s = false
 · rw [if_pos c1] at h;simp at h
 rw [if_neg c1] at h
 by_cases c2:listB l = false ∨ ¬ pcsOk k
 · rw [if_pos c2] at h;simp at h
 rw [if_neg c2] at h
 by_cases c3:(inL s.flt l).any (fun x=>!hasPb s.know x.key x.rep x.cnt && !hasPb (restK k s.flt) x.key x.rep x.cnt) = true
 · rw [if_pos c3] at h;simp at h
 rw [if_neg c3] at h
 by_cases c4:mostK (restK k s.flt) s.id > s.cnt
 · rw [if_pos c4] at h;simp at h
 rw [if_neg c4] at h
 by_cases c5:apartB (mergeK [s.its ++ inL s.flt l]) = false
 · rw [if_pos c5] at h;simp at h
 rw [if_neg c5] at h
 by_cases c6:(mergeK [s.its ++ inL s.flt l]).length > 4096
 · rw [if_pos c6] at h;simp at h
 refine ⟨?_,by omega,by simpa using c5,by omega⟩
 rw [List.all_eq_true]
 intro x hx
 cases hq:(hasPb s.know x.key x.rep x.cnt || hasPb (restK k s.flt) x.key x.rep x.cnt) with
 | true=>rfl
 | false=>
   exfalso
   apply c3
   rw [List.any_eq_true]
   rw [Bool.or_eq_false_iff] at hq
   exact ⟨x,hx,by rw [hq.1,hq.2];rfl⟩
theorem stR_mk {s:Sta} (h1:1 ≤ s.id ∧ s.id ≤ 16) (h2:0 ≤ s.cnt ∧ s.cnt ≤ 1099511627776) (h3:s.its.length ≤ 4096) (h4:rgsOk s.flt) (h5:listB s.its = true) (h6:pcsOk s.know) (h7:restK s.know s.flt = s.know) (h8:mostK s.know s.id ≤ s.cnt) (h9:apartB s.its = true) (h10:∀ x ∈ s.its,anyR s.flt x.key = true ∧ hasPb s.know x.key x.rep x.cnt = true):stR s = true:=by
 unfold stR
 rw [decide_eq_true h1,decide_eq_true h2,decide_eq_true h3,decide_eq_true h4,h5,decide_eq_true h6,decide_eq_true h7,decide_eq_true h8,h9]
 simp only [Bool.true_and,List.all_eq_true,Bool.and_eq_true]
 exact h10
theorem stR_un {s:Sta} (h:stR s = true):(1 ≤ s.id ∧ s.id ≤ 16) ∧ (0 ≤ s.cnt ∧ s.cnt ≤ 1099511627776) ∧ s.its.length ≤ 4096 ∧ rgsOk s.flt ∧ listB s.its = true ∧ pcsOk s.know ∧ restK s.know s.flt = s.know ∧ mostK s.know s.id ≤ s.cnt ∧ apartB s.its = true ∧ ∀ x ∈ s.its,anyR s.flt x.key = true ∧ hasPb s.know x.key x.rep x.cnt = true:=by
 unfold stR at h
 simp only [Bool.and_eq_true,decide_eq_true_eq,List.all_eq_true] at h
 obtain ⟨⟨⟨⟨⟨⟨⟨⟨⟨h1,h2⟩,h3⟩,h4⟩,h5⟩,h6⟩,h7⟩,h8⟩,h9⟩,h10⟩:=h
 exact ⟨h1,h2,h3,h4,h5,h6,h7,h8,h9,h10⟩
/-- what has taken is right -/
theorem takeS_right {s:Sta} {l:List It} {k:List Pc} (h:(takeS s l k).2 = 0):stR (takeS s l k).1 = true:=by
 obtain ⟨a1,a2,a3,a4⟩:=takeS_ok h
 obtain ⟨b1,b2,b3,b4⟩:=takeS_all h
 obtain ⟨c1,c2,c3,c4,c5,c6,c7,c8,c9,c10⟩:=stR_un a1
 obtain ⟨r1,_⟩:=restK_ok k s.flt
 obtain ⟨m1,m2,_⟩:=mergeK_spec [s.its ++ inL s.flt l]
 rw [a4]
 refine stR_mk c1 c2 b4 c4 ?_ (ofK_ok _).1 (rest_join c6 r1 c7 (restK_twice k s.flt)) (mostK_join c6 r1 c2.1 c8 b2) b3 fun x hx=>?_
 · unfold listB
   rw [Bool.and_eq_true]
   refine ⟨?_,decide_eq_true (up_keys m1)⟩
   rw [List.all_eq_true]
   exact fun x hx=>(List.mem_filter.1 (m2 x hx)).2
 · have hm:=(List.mem_filter.1 (m2 x hx)).1
   have hm:x ∈ s.its ++ inL s.flt l:=by simpa using hm
   simp only
   rw [hasPb_join c6 r1]
   rcases List.mem_append.1 hm with q|q
   · obtain ⟨q1,q2⟩:=c10 x q
     exact ⟨q1,by rw [q2];rfl⟩
   · have q1:=(List.mem_filter.1 q).2
     have q2:=List.all_eq_true.1 b1 x q
     exact ⟨q1,q2⟩
theorem listB_al {l:List It} (h:listB l = true):l.all itR = true:=by
 unfold listB at h
 rw [Bool.and_eq_true] at h
 exact h.1
theorem cmpL_next:∀ (a s:List UInt8),cmpL a s ≤ 0 → cmpL s (a ++ [0]) < 0 → s = a:=by
 intro a
 induction a with
 | nil=>
   intro s _ h
   cases s with
   | nil=>rfl
   | cons c t=>
     exfalso
     have hc:¬ c.toNat < (0:UInt8).toNat:=by simp
     simp only [List.nil_append,cmpL] at h
     rw [if_neg hc] at h
     split at h
     · omega
     · cases t <;> simp [cmpL] at h
 | cons x a ih=>
   intro s h1 h2
   cases s with
   | nil=>simp [cmpL] at h1
   | cons c t=>
     simp only [List.cons_append,cmpL] at h1 h2
     by_cases q1:x.toNat < c.toNat
     · rw [if_neg (by omega),if_pos q1] at h2;omega
     · rw [if_neg q1] at h1
       by_cases q2:c.toNat < x.toNat
       · rw [if_pos q2] at h1;omega
       · rw [if_neg q2] at h1
         rw [if_neg q2,if_neg q1] at h2
         have e:c = x:=UInt8.toNat_inj.1 (by omega)
         rw [e,ih t h1 h2]
theorem cmpL_snoc:∀ (a:List UInt8),cmpL a (a ++ [0]) < 0:=by
 intro a
 induction a with
 | nil=>simp [cmpL]
 | cons x a ih=>
   simp only [List.cons_append,cmpL]
   rw [if_neg (by omega),if_neg (by omega)];exact ih
theorem app0 (k:ByteArray):(k ++ ⟨#[0]⟩:ByteArray).data.toList = k.data.toList ++ [0]:=by simp
theorem spanR {k:ByteArray} (h:keyR k = true):rgR ⟨k,k ++ ⟨#[0]⟩,false⟩ = true:=by
 rw [rgR_iff]
 unfold keyR at h
 simp at h
 have hs:(k ++ ⟨#[0]⟩:ByteArray).size = k.size + 1:=by rw [ByteArray.size_append];rfl
 refine ⟨by simp only;omega,by simp only;omega,?_⟩
 simp only [Bool.false_eq_true,if_false]
 unfold cmpB
 rw [app0]
 exact cmpL_snoc _
theorem span_has {k:ByteArray} (h:keyR k = true) (s:ByteArray):rgHas ⟨k,k ++ ⟨#[0]⟩,false⟩ s = true ↔ s = k:=by
 rw [rgHas_iff (spanR h)]
 simp only [Bool.false_eq_true,false_or]
 constructor
 · rintro ⟨h1,h2⟩
   rw [← o_le] at h1
   rw [← o_lt] at h2
   unfold cmpB at h1 h2
   rw [app0] at h2
   exact ByteArray.ext (Array.ext' (cmpL_next _ _ h1 h2))
 · rintro rfl
   refine ⟨(o_le _ _).1 (by rw [o_self];decide),?_⟩
   rw [← o_lt]
   unfold cmpB
   rw [app0]
   exact cmpL_snoc _
theorem one_ok {k:ByteArray} {r c:Int} (h1:keyR k = true) (h2:verR r c = true):pcsOk (oneK k r c) ∧ ∀ s,getK (oneK k r c) s = if s = k then [⟨r,[⟨c,c⟩]⟩] else []:=by
 unfold oneK
 rw [h1,h2,if_pos (by rfl)]
 have hv:1 ≤ r ∧ r ≤ 16 ∧ 1 ≤ c ∧ c ≤ 1099511627776:=by
   unfold verR at h2
   simp at h2
   omega
 have hkn:knsOk [⟨r,[⟨c,c⟩]⟩]:=by
   rw [knsOk_cons]
   refine ⟨⟨hv.1,hv.2.1,by simp,fun i hi=>?_⟩,fun q hq=>(by simp at hq),knsOk_nil⟩
   intro hi'
   have:i = 0:=by simp at hi;omega
   subst this
   exact ⟨(rnR_iff _).2 ⟨by simp;omega,by simp,by simp;omega⟩,fun q=>by omega⟩
 refine ⟨(pcsOk_cons _ _).2 ⟨⟨spanR h1,by simp,hkn⟩,fun q hq=>(by simp at hq),pcsOk_nil⟩,fun s=>?_⟩
 by_cases e:s = k
 · rw [if_pos e,getK_in ((span_has h1 s).2 e)]
 · rw [if_neg e,getK_out (fun w=>e ((span_has h1 s).1 w)),getK_nil]
theorem tab_one {r c:Int} (hr:1 ≤ r ∧ r ≤ 16) {j:Int} (hj:1 ≤ j):tabAt [⟨r,[⟨c,c⟩]⟩] (j - 1).toNat = if r = j then [⟨c,c⟩] else []:=by
 unfold tabAt
 simp only [List.flatMap_cons,List.flatMap_nil,List.append_nil]
 by_cases e:r = j
 · rw [if_pos e,if_pos (by omega)]
 · rw [if_neg e,if_neg (by omega)]
theorem most_one {k:ByteArray} {r c:Int} (h1:keyR k = true) (h2:verR r c = true):mostK (oneK k r c) r ≤ c:=by
 obtain ⟨a1,a2⟩:=one_ok h1 h2
 have hv:1 ≤ r ∧ r ≤ 16 ∧ 1 ≤ c ∧ c ≤ 1099511627776:=by
   unfold verR at h2
   simp at h2
   omega
 rw [mostK_le a1 (by omega)]
 intro s
 rw [a2,mostS_le (by omega)]
 intro _ n hn
 split at hn
 · rw [tab_one ⟨hv.1,hv.2.1⟩ hv.1,if_pos rfl,hasR_cons] at hn
   rcases hn with hn|hn
   · exact hn.2.2
   · exact absurd hn (hasR_nil n)
 · unfold tabAt at hn;exact absurd hn (hasR_nil n)
theorem has_one {k:ByteArray} {r c:Int} (h1:keyR k = true) (h2:verR r c = true):hasPb (oneK k r c) k r c = true:=by
 obtain ⟨a1,a2⟩:=one_ok h1 h2
 have hv:1 ≤ r ∧ r ≤ 16 ∧ 1 ≤ c ∧ c ≤ 1099511627776:=by
   unfold verR at h2
   simp at h2
   omega
 rw [hasPb_get a1,a2,if_pos rfl,hasKb_iff]
 refine ⟨h2,?_⟩
 rw [tab_one ⟨hv.1,hv.2.1⟩ hv.1,if_pos rfl,hasR_cons]
 exact .inl ⟨(rnR_iff _).2 ⟨by simp;omega,by simp,by simp;omega⟩,by simp,by simp⟩
theorem rest_one {k:ByteArray} {r c:Int} {f:List Rg} (h1:keyR k = true) (h2:verR r c = true) (hf:anyR f k = true):restK (oneK k r c) f = oneK k r c:=by
 obtain ⟨a1,a2⟩:=one_ok h1 h2
 rw [rest_iff a1]
 intro s hs
 rw [a2,if_neg (fun e=>by rw [e,hf] at hs;cases hs)]
/-- what is known of one's own is not newer than its count -/
theorem own_le {k:List Pc} (hk:pcsOk k) {id cnt:Int} (hc:0 ≤ cnt) (h:mostK k id ≤ cnt) {s:ByteArray} {c:Int} (hp:hasPb k s id c = true):c ≤ cnt:=by
 rw [hasPb_get hk,hasKb_iff] at hp
 exact (mostS_le hc).1 ((mostK_le hk hc).1 h s) (verR_rep hp.1) c hp.2
theorem getS_some {l:List It} {k:ByteArray} {y:It} (h:getS l k = some y):y ∈ l ∧ y.key = k:=by
 unfold getS at h
 exact ⟨List.mem_of_find?_eq_some h,by simpa using List.find?_some h⟩
theorem getS_none {l:List It} {k:ByteArray} (h:getS l k = none):∀ y ∈ l,y.key ≠ k:=by
 unfold getS at h
 rw [List.find?_eq_none] at h
 intro y hy
 simpa using h y hy
theorem insP_len:∀ (l:List It) (x:It),(insP x l).length ≤ l.length + 1:=by
 intro l
 induction l with
 | nil=>intro x;rw [insP];simp
 | cons y l ih=>
   intro x
   rw [insP]
   split
   · have:=ih x;simp only [List.length_cons];omega
   · have:=List.length_filter_le (fun z:It=>decide (z.key ≠ x.key)) (y :: l)
     simp only [List.length_cons] at this ⊢;omega
theorem insP_len2:∀ (l:List It) (x:It),(∃ y ∈ l,y.key = x.key) → (insP x l).length ≤ l.length:=by
 intro l
 induction l with
 | nil=>rintro x ⟨y,hy,_⟩;cases hy
 | cons y l ih=>
   rintro x ⟨z,hz,hk⟩
   rw [insP]
   split
   · rename_i hc
     rcases List.mem_cons.1 hz with rfl|hz
     · rw [hk,(cmpB_eq _ _).2 rfl] at hc;omega
     · have:=ih x ⟨z,hz,hk⟩;simp only [List.length_cons];omega
   · have:((y :: l).filter fun z=>decide (z.key ≠ x.key)).length < (y :: l).length:=
       List.length_filter_lt_length_iff_exists.2 ⟨z,hz,by simp [hk]⟩
     simp only [List.length_cons] at this ⊢;omega
theorem insP_in (l:List It) (x:It):∀ z ∈ insP x l,z = x ∨ z ∈ l:=fun z hz=>(insP_mem l x z hz).imp id And.left
theorem insP_apart:∀ (l:List It) (x:It),apartB l = true → (∀ y ∈ l,verOf y ≠ verOf x) → apartB (insP x l) = true:=by
 intro l
 induction l with
 | nil=>intro x _ _;rw [insP];unfold apartB;simp
 | cons y l ih=>
   intro x h hn
   have h':=of_decide_eq_true h
   rw [List.map_cons,List.nodup_cons] at h'
   rw [insP]
   split
   · have i1:=of_decide_eq_true (ih x (decide_eq_true h'.2) (fun z hz=>hn z (List.mem_cons_of_mem _ hz)))
     refine decide_eq_true ?_
     rw [List.map_cons,List.nodup_cons]
     refine ⟨fun w=>?_,i1⟩
     obtain ⟨z,hz,e⟩:=List.mem_map.1 w
     rcases insP_in l x z hz with rfl|q
     · exact hn y List.mem_cons_self e.symm
     · exact h'.1 (by rw [← e];exact List.mem_map_of_mem q)
   · refine decide_eq_true ?_
     rw [List.map_cons,List.nodup_cons]
     refine ⟨fun w=>?_,?_⟩
     · obtain ⟨z,hz,e⟩:=List.mem_map.1 w
       exact hn z (List.mem_filter.1 hz).1 e
     · have hs:((y :: l).filter fun z=>decide (z.key ≠ x.key)).Sublist (y :: l):=List.filter_sublist
       exact (of_decide_eq_true h).sublist (hs.map verOf)
/-- what was put is right -/
theorem putS_right {s:Sta} {x:It} (h:stR s = true) (hc:s.cnt ≠ 1099511627776) (hx:itR x = true) (hid:x.rep = s.id) (hcn:x.cnt = s.cnt + 1) (hf:anyR s.flt x.key = true) (hl:(insP x s.its).length ≤ 4096):stR (putS s x) = true:=by
 obtain ⟨c1,c2,c3,c4,c5,c6,c7,c8,c9,c10⟩:=stR_un h
 have hk:keyR x.key = true:=by unfold itR at hx;simp only [Bool.and_eq_true] at hx;exact hx.1.1
 have hv:verR x.rep x.cnt = true:=by unfold itR at hx;simp only [Bool.and_eq_true] at hx;exact hx.1.2
 obtain ⟨r1,_⟩:=one_ok hk hv
 have hup:Up s.its:=by
   have:=(listOk_up (listB_iff.1 c5))
   exact this
 have hall:=listB_al c5
 have hnew:∀ y ∈ s.its,verOf y ≠ verOf x:=fun y hy e=>by
   unfold verOf at e
   have e1:y.rep = s.id:=by rw [← hid];exact (Prod.mk.inj e).1
   have e2:y.cnt = s.cnt + 1:=by rw [← hcn];exact (Prod.mk.inj e).2
   have:=(c10 y hy).2
   rw [e1] at this
   have:=own_le c6 c2.1 c8 this
   omega
 unfold putS
 refine stR_mk c1 (by simp only;omega) hl c4 ?_ (ofK_ok _).1 (rest_join c6 r1 c7 (rest_one hk hv hf)) (mostK_join c6 r1 (by simp only;omega) (by simp only;omega) ?_) (insP_apart _ _ c9 hnew) fun z hz=>?_
 · unfold listB
   rw [Bool.and_eq_true]
   refine ⟨?_,decide_eq_true (up_keys (insP_up _ _ hup))⟩
   rw [List.all_eq_true]
   intro z hz
   rcases insP_in _ _ z hz with rfl|q
   · exact hx
   · exact List.all_eq_true.1 hall z q
 · have:=most_one hk hv
   rw [hid] at this ⊢
   rw [hcn] at this ⊢
   exact this
 · simp only
   rw [hasPb_join c6 r1]
   rcases insP_in _ _ z hz with rfl|q
   · exact ⟨hf,by rw [has_one hk hv,Bool.or_true]⟩
   · exact ⟨(c10 z q).1,by rw [(c10 z q).2];rfl⟩
theorem stR_up {s:Sta} (h:stR s = true):s.its.all itR = true ∧ Up s.its:=by
 obtain ⟨_,_,_,_,c5,_⟩:=stR_un h
 exact ⟨listB_al c5,listOk_up (listB_iff.1 c5)⟩
end Go.Proofs.YtembiemaiacdfaaGreat
