/- Texts joined: Rkp Rkq StM RgV AbsV. -/
import Derived.Test.YtfcpkegmdlchhaaGreatJ24
import Derived.Test.YtfcpkegmdlchhaaGreatJ25
import Derived.Test.YtfcpkegmdlchhaaGreatJ06
import Derived.Test.YtfcpkegmdlchhaaGreatJ16
import Derived.Test.YtfcpkegmdlchhaaGreatJ26
import Derived.Test.YtfcpkegmdlchhaaGreatJ20
set_option maxRecDepth 10000
set_option maxHeartbeats 8000000
namespace Go.Proofs.YtfcpkegmdlchhaaGreat
open Go.RowKit
theorem putT_at:∀ (l:List ByteArray) (n:ByteArray) (k:Nat),k ≤ l.length → (∀ j (h:j < l.length),j < k → l[j] < n) → (∀ h:k < l.length,¬ l[k] < n) →
   ((∃ h:k < l.length,l[k] = n) → putT l n = l) ∧ ((¬ ∃ h:k < l.length,l[k] = n) → putT l n = l.take k ++ n :: l.drop k):=by
 intro l
 induction l with
 | nil=>
   intro n k hk _ _
   obtain rfl:k = 0:=by simpa using hk
   exact ⟨fun ⟨h,_⟩=>by simp at h,fun _=>rfl⟩
 | cons x l ih=>
   intro n k hk h1 h2
   cases k with
   | zero=>
     have:=h2 (by simp)
     simp only [List.getElem_cons_zero] at this
     rw [putT,if_neg this]
     refine ⟨fun ⟨_,e⟩=>?_,fun e=>?_⟩
     · simp only [List.getElem_cons_zero] at e
       rw [if_pos e]
     · rw [if_neg (fun q=>e ⟨by simp,by simpa using q⟩)]
       rfl
   | succ k=>
     have h3:=h1 0 (by simp) (by omega)
     simp only [List.getElem_cons_zero] at h3
     have:=ih n k (by simpa using hk) (fun j hj hjk=>by have:=h1 (j + 1) (by simpa using hj) (by omega);simpa using this) (fun h=>by have:=h2 (by simpa using h);simpa using this)
     rw [putT,if_pos h3]
     refine ⟨fun ⟨h,e⟩=>?_,fun e=>?_⟩
     · rw [this.1 ⟨by simpa using h,by simpa using e⟩]
     · rw [this.2 (fun ⟨h,q⟩=>e ⟨by simpa using h,by simpa using q⟩)]
       rfl
abbrev txP (l:List ByteArray):PV:=lstP 1 (l.map strP)
abbrev txC (l:List ByteArray):Cnt:=.per (txP l)
theorem edgT_snoc (e:List ByteArray) (l:List Rg) (k:Nat) (h:k < l.length):edgT e (l.take (k + 1)) = edg1T (edgT e (l.take k)) l[k]:=by
 unfold edgT
 rw [List.take_succ_eq_append_getElem h,List.foldl_append]
 rfl
theorem putT_len:∀ (l:List ByteArray) (n:ByteArray),(putT l n).length ≤ l.length + 1:=by
 intro l
 induction l with
 | nil=>intro n;simp [putT]
 | cons x l ih=>
   intro n
   rw [putT]
   split
   · have:=ih n;simp;omega
   · split <;> simp
theorem mkSet_raw (X Y:List Kn):mkSet orR X Y = vsOf ofR (X ++ Y):=by
 unfold mkSet vsOf
 rw [tabOf_app,← setFrom_map,List.map_zipWith]
 congr 1
 exact zip_congr _ _ (fun t u _ _=>orR_eq t u)
section
theorem rrg_put (l:List ByteArray) (n:ByteArray) (hl:l.length ≤ 1000000000) (hs:∀ t ∈ l,t.size ≤ 1000000000):Fn Tryz.prog 178 [txC l,sC n] (.per (txP (putT l n))):=by
 generalize hR:putT l n = R
 refine fi Tryz.func178 Tryz.ntmps178 ?_
 (refine w0 ?_;(repeat' first|refine W2.mk ?_ ?_|refine W1.mk fun hc=>?_))
 refine AW_loopP (X:=Nat) (fun k=>k ≤ l.length ∧ ∀ j (h:j < l.length),j < k → l[j] < n)
   (fun k=>mkSt [(0,txC l),(1,sC n),(5,iC .i64 ((k:Nat):Int))] []) (fun k=>l.length - k) 0 ⟨Nat.zero_le _,fun j _ h=>by omega⟩ ?_ ?_
 · exact le_auto
 · rintro k ⟨h1,h2⟩
   by_cases hk:k < l.length
   · have c0:=ref_Less l[k] n (by have:=hs _ (List.getElem_mem hk);omega)
     by_cases hlt:l[k] < n
     · rw [decide_eq_true (show cmpB l[k] n < 0 from hlt)] at c0
       have h2':∀ j (h:j < l.length),j < k + 1 → l[j] < n:=fun j h hj=>by
         rcases Nat.lt_or_ge j k with q|q
         · exact h2 j h q
         · obtain rfl:j = k:=by omega
           exact hlt
       clear hR h2 hs hlt
       (have kc1:=c0;refine w0 ?_;(repeat' first|refine W2.mk ?_ ?_|refine W1.mk fun hc=>?_);all_goals clear kc1)
       refine ⟨k + 1,⟨hk,h2'⟩,by omega,?_⟩
       exact le_auto
     · rw [decide_eq_false (show ¬ cmpB l[k] n < 0 from hlt)] at c0
       have hP:=putT_at l n k h1 h2 (fun _=>hlt)
       by_cases he:l[k] = n
       · have hR':l = R:=by rw [← hR,hP.1 ⟨hk,he⟩]
         clear hR hP h2 hs hlt
         (have kc1:=c0;refine w0 ?_;(repeat' first|refine W2.mk ?_ ?_|refine W1.mk fun hc=>?_);all_goals clear kc1)
         all_goals first
           | (exfalso;simp [he] at hc;done)
           | (refine rt1 ?_
              exact rv_lstM rfl hR')
       · have hR':l.take k ++ n :: l.drop k = R:=by rw [← hR,hP.2 (fun ⟨_,q⟩=>he q)]
         clear hR hP h2 hs hlt
         (have kc1:=c0;refine w0 ?_;(repeat' first|refine W2.mk ?_ ?_|refine W1.mk fun hc=>?_);all_goals clear kc1)
         all_goals first
           | (exfalso;rw [toL_inj'] at hc;exact he hc)
           | (refine AL_le (Le_nil 34 700 9 1 rfl rfl) ?_
              (refine w0 ?_;(repeat' first|refine W2.mk ?_ ?_|refine W1.mk fun hc=>?_))
              refine ⟨.inl rfl,ResO_le (Le_fz 700 _ 9 1 rfl rfl) (res1 rfl (rv_lstE rfl (by rw [← hR'];simp [List.map_take,List.map_drop];rfl)))⟩)
   · have hP:=putT_at l n k h1 h2 (fun h=>absurd h hk)
     have hR':l.take k ++ n :: l.drop k = R:=by rw [← hR,hP.2 (fun ⟨q,_⟩=>hk q)]
     clear hR hP h2 hs
     (refine w0 ?_;(repeat' first|refine W2.mk ?_ ?_|refine W1.mk fun hc=>?_))
     refine AL_le (Le_nil 34 700 9 1 rfl rfl) ?_
     (refine w0 ?_;(repeat' first|refine W2.mk ?_ ?_|refine W1.mk fun hc=>?_))
     refine ⟨.inl rfl,ResO_le (Le_fz 700 _ 9 1 rfl rfl) (res1 rfl (rv_lstE rfl (by rw [← hR'];simp [List.map_take,List.map_drop];rfl)))⟩
theorem rrg_Edges (A B:List Rg) (hA:A.length ≤ 1000000) (hB:B.length ≤ 1000000):Fn Tryz.prog 141 [rgsB A,rgsB B] (.per (txP (edgT [emB] (A ++ B)))):=by
 have hmem:∀ k,∀ t ∈ edgT [emB] ((A ++ B).take k),t.size ≤ 1000000000:=fun k t ht=>by
   rcases (edgT_mem _ _ _).1 ht with h|⟨r,_,h1,h2⟩
   · have h:t = emB:=by simpa using h
     rw [h];decide
   · have:=(rgR_iff r).1 h1
     rcases h2 with h2|⟨_,h2⟩ <;> rw [h2] <;> omega
 have hlen:∀ k,(edgT [emB] ((A ++ B).take k)).length ≤ 10000000:=fun k=>by
   have h1:=edgT_len ((A ++ B).take k) [emB]
   have h2:((A ++ B).take k).length ≤ A.length + B.length:=by rw [List.length_take,List.length_append];omega
   simp only [List.length_cons,List.length_nil] at h1
   omega
 refine fi Tryz.func141 Tryz.ntmps141 ?_
 (repeat' (first|refine AW_seq ?_|refine AW_block ?_|refine AW_skip ?_|refine AW_exit ?_|refine AW_ret ?_|refine AW_region ?_|refine AW_draw mixed0 ?_|refine AL_nil ?_|refine AD_nil (by kernel_rfl) ?_|(refine AW_cl rfl rfl ⟨fun hc=>?_,fun hc=>?_⟩ <;> (repeat rw [List.length_map] at hc) <;> (try exact absd hc))|((first|apply AL_t rfl|apply AL_0 rfl|apply AD_t rfl|apply AD_0 rfl);focus (first|((apply u_k 15;(focus rfl);solve|(apply u_bslice_row <;> first|exact ⟨rfl,rfl,rfl⟩|rfl|infer_instance|(repeat (first|exact PartsL.nil|(apply PartsL.cons;(focus (first|exact part_raw rfl rfl rfl|exact part_agg rfl|exact part_lst rfl))))))))|(apply u_g;(focus rfl);apply op_gyes rfl rfl rfl rfl rfl;((apply u_k 15;(focus rfl);solve|(apply u_bslice_row <;> first|exact ⟨rfl,rfl,rfl⟩|rfl|infer_instance|(repeat (first|exact PartsL.nil|(apply PartsL.cons;(focus (first|exact part_raw rfl rfl rfl|exact part_agg rfl|exact part_lst rfl)))))))))|exact z_auto|fail))|refine thenA_n ?_|refine thenA_r ?_|refine thenA_e ?_|refine inB_n ?_|refine inB_r ?_|refine inB_hit ?_|refine inB_miss rfl ?_|((first|refine AL_cl rfl rfl rfl ⟨fun hc=>?_,fun hc=>?_⟩|refine AD_cl rfl rfl rfl ⟨fun hc=>?_,fun hc=>?_⟩) <;> (fail_if_success (have q:(true = true):=hc)) <;> (fail_if_success (have q:(false = false):=hc)) <;> (repeat rw [List.length_map] at hc) <;> (try exact absd hc))|refine AW_cond_nil rfl rfl (fun hc=>?_) ?_))
 refine AW_le (Le_fz 8 _ 9 1 rfl rfl) ?_
 refine AW_loopP (X:=Nat) (fun k=>k ≤ A.length + B.length)
   (fun k=>mkSt [(0,rgsB A),(1,rgsB B),(5,txC (edgT [emB] ((A ++ B).take k))),(6,iC .i64 ((k:Nat):Int))] []) (fun k=>A.length + B.length - k) 0 (Nat.zero_le _) ?_ ?_
 · exact le_auto
 · intro k hk
   by_cases hlt:k < A.length + B.length
   · have hlt':k < (A ++ B).length:=by rw [List.length_append];exact hlt
     have hs:=edgT_snoc [emB] (A ++ B) k hlt'
     have hm:=hmem k
     have hl:=hlen k
     have hm2:=hmem (k + 1)
     generalize edgT [emB] ((A ++ B).take k) = E at *
     obtain ⟨r,hr⟩:∃ r,r = (A ++ B)[k]:=⟨_,rfl⟩
     rw [← hr] at hs
     have c0:=rspan_Right r
     have c1:=rrg_put E r.lo (by omega) hm
     have hp:=putT_len E r.lo
     have hpm:rgR r = true → ∀ t ∈ putT E r.lo,t.size ≤ 1000000000:=fun h t ht=>by
       rcases (putT_mem _ _ _).1 ht with q|q
       · rw [q];have:=(rgR_iff r).1 h;omega
       · exact hm t q
     clear hmem hlen hm2 hm
     by_cases hkA:k < A.length
     · have hrA:A[k] = r:=by rw [hr,List.getElem_append_left hkA]
       rw [← hrA] at c0 c1 hs hp hpm
       clear hr hrA
       cases hR:rgR A[k] with
       | false=>
         rw [hR] at c0
         rw [edg1T,if_neg (by simp [hR])] at hs
         (have kc1:=c0;refine w0 ?_;(repeat' first|refine W2.mk ?_ ?_|refine W1.mk fun hc=>?_);all_goals clear kc1)
         refine ⟨k + 1,hlt,by omega,?_⟩
         rw [hs]
         exact le_auto
       | true=>
         rw [hR] at c0
         rw [edg1T,if_pos hR] at hs
         have hpm:=hpm hR
         cases hO:A[k].op with
         | true=>
           rw [if_pos hO] at hs
           generalize putT E A[k].lo = E1 at *
           (have kc1:=c0;have kf1:=c1;refine w0 ?_;(repeat' first|refine W2.mk ?_ ?_|refine W1.mk fun hc=>?_);all_goals clear kf1 kc1)
           all_goals first
             | (exfalso;simp [hO] at hc;done)
             | (refine ⟨k + 1,hlt,by omega,?_⟩
                rw [hs]
                exact le_auto)
         | false=>
           rw [if_neg (by simp [hO])] at hs
           have c2:=rrg_put (putT E A[k].lo) A[k].hi (by omega) hpm
           generalize putT E A[k].lo = E1 at *
           generalize putT E1 A[k].hi = E2 at *
           (have kc1:=c0;have kf1:=c1;have kf2:=c2;refine w0 ?_;(repeat' first|refine W2.mk ?_ ?_|refine W1.mk fun hc=>?_);all_goals clear kf2 kf1 kc1)
           all_goals first
             | (exfalso;simp [hO] at hc;done)
             | (refine ⟨k + 1,hlt,by omega,?_⟩
                rw [hs]
                exact le_auto)
     · have hkB:k - A.length < B.length:=by omega
       have hrB:B[k - A.length] = r:=by rw [hr,List.getElem_append_right (by omega)]
       have eK:((k:Nat):Int) - ((A.length:Nat):Int) = ((k - A.length:Nat):Int):=by omega
       rw [← hrB] at c0 c1 hs hp hpm
       clear hr hrB
       cases hR:rgR B[k - A.length] with
       | false=>
         rw [hR] at c0
         rw [edg1T,if_neg (by simp [hR])] at hs
         (have ke1:=Lib.hid (eK);have kc1:=c0;refine w0e ?_;(repeat' first|refine W2.mk ?_ ?_|refine W1.mk fun hc=>?_);all_goals clear kc1 ke1)
         refine ⟨k + 1,hlt,by omega,?_⟩
         rw [hs]
         exact le_auto
       | true=>
         rw [hR] at c0
         rw [edg1T,if_pos hR] at hs
         have hpm:=hpm hR
         cases hO:B[k - A.length].op with
         | true=>
           rw [if_pos hO] at hs
           generalize putT E B[k - A.length].lo = E1 at *
           (have ke1:=Lib.hid (eK);have kc1:=c0;have kf1:=c1;refine w0e ?_;(repeat' first|refine W2.mk ?_ ?_|refine W1.mk fun hc=>?_);all_goals clear kf1 kc1 ke1)
           all_goals first
             | (exfalso;simp [hO] at hc;done)
             | (refine ⟨k + 1,hlt,by omega,?_⟩
                rw [hs]
                exact le_auto)
         | false=>
           rw [if_neg (by simp [hO])] at hs
           have c2:=rrg_put (putT E B[k - A.length].lo) B[k - A.length].hi (by omega) hpm
           generalize putT E B[k - A.length].lo = E1 at *
           generalize putT E1 B[k - A.length].hi = E2 at *
           (have ke1:=Lib.hid (eK);have kc1:=c0;have kf1:=c1;have kf2:=c2;refine w0e ?_;(repeat' first|refine W2.mk ?_ ?_|refine W1.mk fun hc=>?_);all_goals clear kf2 kf1 kc1 ke1)
           all_goals first
             | (exfalso;simp [hO] at hc;done)
             | (refine ⟨k + 1,hlt,by omega,?_⟩
                rw [hs]
                exact le_auto)
   · rw [List.take_of_length_le (by rw [List.length_append];omega)]
     generalize edgT [emB] (A ++ B) = E at *
     (refine w0 ?_;(repeat' first|refine W2.mk ?_ ?_|refine W1.mk fun hc=>?_))
     refine rt1 ?_
     exact rv_lstM rfl rfl
end
section
theorem rkn_spans (k:List Pc) (hl:k.length ≤ 1000000000):Fn Tryz.prog 140 [pcsB k] (.own 114 3 ((rgsOf k).map rgP)):=by
 refine fi Tryz.func140 Tryz.ntmps140 ?_
 (refine w0 ?_;(repeat' first|refine W2.mk ?_ ?_|refine W1.mk fun hc=>?_))
 refine AW_le (Le_nil 3 700 114 3 rfl rfl) ?_
 refine AW_loopP (X:=Nat) (fun z=>z ≤ k.length)
   (fun z=>mkSt [(0,pcsB k),(3,.row 700 0),(4,iC .i64 ((z:Nat):Int))] [(700,.row 114 3 ((rgsOf (k.take z)).map rgP))]) (fun z=>k.length - z) 0 (Nat.zero_le _) ?_ ?_
 · exact le_auto
 · intro z hz
   by_cases hlt:z < k.length
   · have hsn:rgsOf (k.take (z + 1)) = rgsOf (k.take z) ++ [k[z].rg]:=by unfold rgsOf;rw [List.take_succ_eq_append_getElem hlt,List.map_append];rfl
     have hlk:(rgsOf (k.take z)).length ≤ z:=by unfold rgsOf;rw [List.length_map,List.length_take];omega
     generalize rgsOf (k.take z) = A at *
     (refine w0 ?_;(repeat' (first|refine W2.mk ?_ ?_|refine W1.mk fun hc=>?_|((first|apply AL_t rfl|apply AL_0 rfl|apply AD_t rfl|apply AD_0 rfl);(focus (first|((apply u_k 5;(focus rfl);first|exact u_load_bpT ⟨rfl,rfl,rfl⟩ rfl inferInstance inferInstance rfl rfl rfl rfl|exact u_load_rpT ⟨rfl,rfl,rfl⟩ rfl inferInstance inferInstance rfl rfl rfl rfl))|(apply u_g;(focus rfl);apply op_gyes rfl rfl rfl rfl rfl;first|((apply u_k 5;(focus rfl);first|exact u_load_bpT ⟨rfl,rfl,rfl⟩ rfl inferInstance inferInstance rfl rfl rfl rfl|exact u_load_rpT ⟨rfl,rfl,rfl⟩ rfl inferInstance inferInstance rfl rfl rfl rfl)))));refine w0 ?_))))
     refine ⟨z + 1,hlt,by omega,Le_trans (Le_mv 700 701) (Le_trans (Le_mv 701 700) ?_)⟩
     rw [hsn]
     exact le_auto
   · rw [List.take_of_length_le (show k.length ≤ z by omega)]
     generalize rgsOf k = A at *
     (refine w0 ?_;(repeat' first|refine W2.mk ?_ ?_|refine W1.mk fun hc=>?_))
     refine rt1 ?_
     exact rv_own rfl rfl rfl
theorem rvs_Of (s:List Kn) (hs:knsMid s):Fn Tryz.prog 90 [knsB s] (ownKn (vsOf ofR s)):=by
 have h:=rvs_Make 1 orR s [] hs.tot ⟨by simp,by simp⟩ (fun r _=>rcnt_Make1 (tabAt s r) (tabAt [] r) (by have:=tabAt_len s r;have:=hs.2;omega) (by simp [tabAt]))
 rw [mkSet_raw,List.append_nil] at h
 generalize vsOf ofR s = R at *
 refine fi Tryz.func90 Tryz.ntmps90 ?_
 (have kc1:=h;refine w0 ?_;(repeat' first|refine W2.mk ?_ ?_|refine W1.mk fun hc=>?_);all_goals clear kc1)
 refine rt1 ?_
 exact rv_own rfl rfl rfl
theorem rkn_At (k:List Pc) (s:ByteArray) (hk:pcsMid k) (hs:s.size ≤ 1000000000):Fn Tryz.prog 179 [pcsB k,sC s] (ownKn (atK k s)):=by
 have hk1:=hk.1
 have hO:=rvs_Of (k.flatMap (hasF s)) (hk.has s)
 rw [show vsOf ofR (k.flatMap (hasF s)) = atK k s from rfl] at hO
 generalize atK k s = R at *
 refine fi Tryz.func179 Tryz.ntmps179 ?_
 (refine w0 ?_;(repeat' first|refine W2.mk ?_ ?_|refine W1.mk fun hc=>?_))
 refine AW_le (Le_nil 5 700 132 2 rfl rfl) ?_
 refine AW_loopP (X:=Nat) (fun z=>z ≤ k.length)
   (fun z=>mkSt [(0,pcsB k),(1,sC s),(5,.row 700 0),(6,iC .i64 ((z:Nat):Int))] [(700,.row 132 2 (((k.take z).flatMap (hasF s)).map knP))]) (fun z=>k.length - z) 0 (Nat.zero_le _) ?_ ?_
 · exact le_auto
 · intro z hz
   by_cases hlt:z < k.length
   · have hsn:=flat_snoc (hasF s) k z hlt
     have h1:=(flat_take (hasF s) k z).2
     have h2:=(hk.has s).1
     have h3:=mem_flat_len2 Pc.set (List.getElem_mem hlt)
     have h4:=hk.2.1
     have c1:=rspan_Has k[z].rg s hs
     generalize (k.take z).flatMap (hasF s) = A at *
     unfold hasF at hsn
     clear hk
     cases c:rgHas k[z].rg s with
     | true=>
       rw [c] at c1 hsn
       rw [if_pos rfl] at hsn
       (have kc1:=c1;refine w0 ?_;(repeat' (first|refine W2.mk ?_ ?_|refine W1.mk fun hc=>?_|((first|apply AL_t rfl|apply AL_0 rfl|apply AD_t rfl|apply AD_0 rfl);(focus (first|((apply u_k 5;(focus rfl);first|exact u_load_bpT ⟨rfl,rfl,rfl⟩ rfl inferInstance inferInstance rfl rfl rfl rfl|exact u_load_rpT ⟨rfl,rfl,rfl⟩ rfl inferInstance inferInstance rfl rfl rfl rfl))|(apply u_g;(focus rfl);apply op_gyes rfl rfl rfl rfl rfl;first|((apply u_k 5;(focus rfl);first|exact u_load_bpT ⟨rfl,rfl,rfl⟩ rfl inferInstance inferInstance rfl rfl rfl rfl|exact u_load_rpT ⟨rfl,rfl,rfl⟩ rfl inferInstance inferInstance rfl rfl rfl rfl)))));refine w0 ?_)));all_goals clear kc1)
       refine ⟨z + 1,hlt,by omega,Le_trans (Le_mv 700 701) (Le_trans (Le_mv 701 700) ?_)⟩
       rw [show (k.take (z + 1)).flatMap (hasF s) = _ from hsn]
       exact le_auto
     | false=>
       rw [c] at c1 hsn
       rw [if_neg (by simp),List.append_nil] at hsn
       (have kc1:=c1;refine w0 ?_;(repeat' (first|refine W2.mk ?_ ?_|refine W1.mk fun hc=>?_|((first|apply AL_t rfl|apply AL_0 rfl|apply AD_t rfl|apply AD_0 rfl);(focus (first|((apply u_k 5;(focus rfl);first|exact u_load_bpT ⟨rfl,rfl,rfl⟩ rfl inferInstance inferInstance rfl rfl rfl rfl|exact u_load_rpT ⟨rfl,rfl,rfl⟩ rfl inferInstance inferInstance rfl rfl rfl rfl))|(apply u_g;(focus rfl);apply op_gyes rfl rfl rfl rfl rfl;first|((apply u_k 5;(focus rfl);first|exact u_load_bpT ⟨rfl,rfl,rfl⟩ rfl inferInstance inferInstance rfl rfl rfl rfl|exact u_load_rpT ⟨rfl,rfl,rfl⟩ rfl inferInstance inferInstance rfl rfl rfl rfl)))));refine w0 ?_)));all_goals clear kc1)
       refine ⟨z + 1,hlt,by omega,?_⟩
       rw [show (k.take (z + 1)).flatMap (hasF s) = _ from hsn]
       exact le_auto
   · rw [List.take_of_length_le (show k.length ≤ z by omega)]
     clear hk
     generalize k.flatMap (hasF s) = A at *
     (have kc1:=hO;refine w0 ?_;(repeat' first|refine W2.mk ?_ ?_|refine W1.mk fun hc=>?_);all_goals clear kc1)
     refine rt1 ?_
     exact rv_own rfl rfl rfl
end
section
variable {P:Program} {n t:Nat} {ops:Array Oper} {o:Oper} {S:St}
/-- an array's element, of one cell -/
theorem op_aindex {ty e len:Nat} {d:TypeDesc} {x ix:Operand} {As:List PV} {A:PV} {i:Nat} {kk:IntKind} {z:Int} (hp:Pl n o t) (ho:o.op = .index ty x ix) (hT:P.underlying ty = some (.array len e)) (he:P.underlying e = some d) (hd:isAggD d = false) (hk:P.cellsOf e = 1)
   (hx:S.opd x = .per (aggP As)) (hi:S.opd ix = iC kk z) (hz:z = (i:Int)) (hlt:i < len) (hA:As[i]? = some A):OpOk n P ops o (opdN x ++ opdN ix) (.per A) [] S:=
 op_val hp fun C T g a w hR' hR=>by
   have h1:=opd_rep (x:=x) hR' (fun k h=>by simp [h]) hR
   rw [hx] at h1
   have h2:=raw_opd (x:=ix) hR' (fun k h=>by simp [h]) hR hi
   obtain ⟨vs,e1,e2,e3⟩:=h1
   obtain ⟨y,q1,q2,q3⟩:=e3 i A hA
   subst hz
   refine ⟨y,?_,q3⟩
   have hsz:(sizeOf e).run P w = .ok 1 w:=sizeOf_run hk (by decide) w
   simp only [execOp,ho,e1,h2,Instr.index,asIntOf,Sem.run_bind,Sem.run_pure,Result.andThen_ok,run_underlying hT]
   rw [if_pos (by constructor <;> omega)]
   simp only [Sem.run_bind,hsz,Result.andThen_ok,part,isAgg_run he,hd,Bool.false_eq_true,if_false,Nat.mul_one,Int.toNat_natCast,q1,Sem.run_pure]
end
theorem max_eq (n x:Int):(if x > n then x else n) = max n x:=by
 by_cases h:x > n
 · rw [if_pos h];omega
 · rw [if_neg h];omega
section
theorem cnt_Most (l:List Rn) (hl:l.length ≤ 1000000000):Fn Tryz.prog 171 [.per (rnsP l)] (inR (mostR l)):=by
 have h1:=(cnt_Of l hl).frz
 have hb:(ofR l).length ≤ 1000000000:=by have:=ofR_len l;omega
 unfold mostR
 rcases snoc_c2 (ofR l) with e|⟨l',y,e⟩
 · rw [e] at h1 ⊢
   refine fi Tryz.func171 Tryz.ntmps171 ?_
   (have kc1:=h1;refine w0 ?_;(repeat' first|refine W2.mk ?_ ?_|refine W1.mk fun hc=>?_);all_goals clear kc1)
   refine rt1 ?_
   exact rv_int rfl rfl
 · rw [e,lastTo_snoc]
   rw [e] at h1 hb
   have hlen:(((l' ++ [y]).length:Nat):Int) - 1 = (l'.length:Nat):=by simp
   have hlt:l'.length < (l' ++ [y]).length:=by simp
   have hget:(l' ++ [y])[l'.length]'hlt = y:=by simp
   generalize l' ++ [y] = L at *
   refine fi Tryz.func171 Tryz.ntmps171 ?_
   (have kc1:=h1;have ke1:=Lib.hid (hlen);refine w0e ?_;(repeat' first|refine W2.mk ?_ ?_|refine W1.mk fun hc=>?_);all_goals clear ke1 kc1)
   refine rt1 ?_
   exact rv_int rfl (by rw [hget])
theorem vset_Most (s:List Kn) (id:Int) (hs:knsTot s):Fn Tryz.prog 125 [knsB s,iC .i64 id] (inR (mostS s id)):=by
 have a1:=vs_replica id
 unfold mostS
 by_cases c:1 ≤ id ∧ id ≤ 16
 · rw [if_pos c]
   rw [decide_eq_true c] at a1
   obtain ⟨q,rfl⟩:∃ q:Nat,id = (q:Int) + 1:=⟨(id - 1).toNat,by omega⟩
   have hq2:((q:Int) + 1 - 1).toNat = q:=by omega
   rw [hq2]
   have a2:=vs_fill s hs
   have a3:=cnt_Most (tabAt s q) (by have:=tabAt_len s q;have:=hs.2;omega)
   have hA:((tabOf s).map rnsP)[q]? = some (rnsP (tabAt s q)):=by rw [List.getElem?_map,tabOf_get _ (by omega)];rfl
   have hlt:q < 16:=by omega
   have hk1:Tryz.prog.cellsOf 130 = 1:=by kernel_rfl
   clear hs
   generalize tabOf s = T at *
   generalize tabAt s q = Z at *
   refine fi Tryz.func125 Tryz.ntmps125 ?_
   (have kc1:=a1;have kc2:=a2;have kc3:=a3;have ke1:=Lib.hid ((show (q:Int) + 1 - 1 = (q:Nat) by omega));refine w0e ?_;(repeat' (first|refine W2.mk ?_ ?_|refine W1.mk fun hc=>?_|((first|apply AL_t rfl|apply AL_0 rfl|apply AD_t rfl|apply AD_0 rfl);(focus (first|((exact op_aindex ⟨rfl,rfl,rfl⟩ rfl Tryz.underlying202 Tryz.underlying130 rfl hk1 rfl rfl rfl hlt hA))|(apply u_g;(focus rfl);apply op_gyes rfl rfl rfl rfl rfl;first|((exact op_aindex ⟨rfl,rfl,rfl⟩ rfl Tryz.underlying202 Tryz.underlying130 rfl hk1 rfl rfl rfl hlt hA)))));refine w0e ?_)));all_goals clear ke1 kc3 kc2 kc1)
   refine rt1 ?_
   exact rv_int rfl rfl
 · rw [if_neg c]
   rw [decide_eq_false c] at a1
   clear hs
   refine fi Tryz.func125 Tryz.ntmps125 ?_
   (have kc1:=a1;refine w0 ?_;(repeat' first|refine W2.mk ?_ ?_|refine W1.mk fun hc=>?_);all_goals clear kc1)
   refine rt1 ?_
   exact rv_int rfl rfl
theorem st_most (k:List Pc) (id:Int) (hk:pcsSz k):Fn Tryz.prog 77 [pcsB k,iC .i64 id] (inR (mostK k id)):=by
 have hl0:=hk.1
 generalize hR:mostK k id = R
 unfold mostK at hR
 refine fi Tryz.func77 Tryz.ntmps77 ?_
 (refine w0 ?_;(repeat' first|refine W2.mk ?_ ?_|refine W1.mk fun hc=>?_))
 refine AW_loopP (X:=Nat × Int) (fun x=>x.1 ≤ k.length ∧ (k.drop x.1).foldl (fun n p=>max n (mostS p.set id)) x.2 = R) (fun x=>mkSt [(1,iC .i64 id),(5,iC .i64 x.2),(8,pcsB k),(9,iC .i64 (k.length:Nat)),(10,iC .i64 (x.1:Nat))] []) (fun x=>k.length - x.1) (0,0) ⟨Nat.zero_le _,by simpa using hR⟩ ?_ ?_
 · exact le_auto
 · rintro ⟨i,n⟩ ⟨h1,h2⟩
   simp only at h1 h2 ⊢
   by_cases hi:i < k.length
   · rw [List.drop_eq_getElem_cons hi,List.foldl_cons] at h2
     have a1:=vset_Most k[i].set id (hk.at hi)
     have hm:=max_eq n (mostS k[i].set id)
     generalize mostS k[i].set id = x at *
     generalize max n x = n' at *
     clear hk hR
     (repeat' (first|refine AW_seq ?_|refine AW_block ?_|refine AW_skip ?_|refine AW_exit ?_|refine AW_ret ?_|refine AW_region ?_|refine AW_draw mixed0 ?_|refine AL_nil ?_|refine AD_nil (by kernel_rfl) ?_|(refine AW_cl rfl rfl ⟨fun hc=>?_,fun hc=>?_⟩ <;> (repeat rw [List.length_map] at hc) <;> (try exact absd hc))|((first|apply AL_t rfl|apply AL_0 rfl|apply AD_t rfl|apply AD_0 rfl);focus (first|((exact op_maxZ ⟨rfl,rfl,rfl⟩ rfl rfl rfl hm))|(apply u_g;(focus rfl);apply op_gyes rfl rfl rfl rfl rfl;((exact op_maxZ ⟨rfl,rfl,rfl⟩ rfl rfl rfl hm)))|exact z_auto|exact c_A (a1)|fail))|refine thenA_n ?_|refine thenA_r ?_|refine thenA_e ?_|refine inB_n ?_|refine inB_r ?_|refine inB_hit ?_|refine inB_miss rfl ?_|((first|refine AL_cl rfl rfl rfl ⟨fun hc=>?_,fun hc=>?_⟩|refine AD_cl rfl rfl rfl ⟨fun hc=>?_,fun hc=>?_⟩) <;> (fail_if_success (have q:(true = true):=hc)) <;> (fail_if_success (have q:(false = false):=hc)) <;> (repeat rw [List.length_map] at hc) <;> (try exact absd hc))|refine AW_cond_nil rfl rfl (fun hc=>?_) ?_))
     refine ⟨(i + 1,n'),⟨by simp only;omega,h2⟩,by simp only;omega,?_⟩
     exact le_auto
   · rw [List.drop_of_length_le (by omega)] at h2
     have h2:n = R:=h2
     subst h2
     clear hk hR
     (refine w0 ?_;(repeat' first|refine W2.mk ?_ ?_|refine W1.mk fun hc=>?_))
     refine rt1 ?_
     exact rv_int rfl rfl
end
end Go.Proofs.YtfcpkegmdlchhaaGreat
namespace Go.Proofs.YtfcpkegmdlchhaaGreat
open Go.RowKit Go.Shelf
abbrev BRg:={r:Rg // r.lo.size ≤ 1000000000000}
instance:Inhabited BRg:=⟨⟨⟨⟨#[]⟩,⟨#[]⟩,false⟩,by decide⟩⟩
def cmpBRg (x y:BRg):Int:=cmpB x.1.lo y.1.lo
theorem cmpBRg_swo:Sort.SWO (ltOf cmpBRg) where
 irrefl x:=by unfold ltOf cmpBRg;rw [o_self];rfl
 trans x y z h1 h2:=by
   unfold ltOf cmpBRg at *
   rw [decide_eq_true_eq,o_lt] at *
   grind
 ntrans x y z h1 h2:=by
   unfold ltOf cmpBRg at *
   rw [decide_eq_false_iff_not,o_lt] at *
   grind
def sortG (l:List Rg):List Rg:=if h:∀ r ∈ l,r.lo.size ≤ 1000000000000 then (sortL cmpBRg (l.pmap Subtype.mk h)).map Subtype.val else l
theorem sortG_spec {l:List Rg} (h:∀ r ∈ l,r.lo.size ≤ 1000000000000):(sortG l).Perm l ∧ (sortG l).Pairwise (fun x y=>x.lo ≤ y.lo):=by
 unfold sortG
 rw [dif_pos h]
 obtain ⟨h1,h2⟩:=sortL_spec cmpBRg_swo (l.pmap Subtype.mk h)
 refine ⟨?_,?_⟩
 · have:=h1.map Subtype.val
   rwa [List.map_pmap,List.pmap_eq_map,List.map_id'] at this
 · rw [List.pairwise_map]
   refine h2.imp fun {x y} q=>?_
   unfold ltOf cmpBRg at q
   rw [decide_eq_false_iff_not,o_lt] at q
   grind
/-- right lists rise -/
theorem rgsOk_up {l:List Rg} (h:rgsOk l):l.Pairwise (fun x y=>x.lo < y.lo):=by
 have key:∀ j (hj:j < l.length) i (hij:i < j),l[i].lo < l[j].lo:=by
   intro j
   induction j with
   | zero=>intro _ i hij;omega
   | succ j ih=>
     intro hj i hij
     obtain ⟨a1,a2⟩:=h (j + 1) hj
     obtain ⟨b1,_⟩:=h j (by omega)
     have c:=a2 (by omega)
     simp only [Nat.add_sub_cancel] at c
     have d:=rgR_lo b1
     rw [c.1] at d
     have d:l[j].lo < l[j].hi:=by simpa using d
     have e:=c.2
     rw [o_lt] at e
     rcases Nat.lt_or_ge i j with q|q
     · have:=ih (by omega) i q
       grind
     · obtain rfl:i = j:=by omega
       grind
 rw [List.pairwise_iff_getElem]
 exact fun i j hi hj hij=>key j hj i hij
theorem sortG_id {l:List Rg} (h:rgsOk l) (hs:∀ r ∈ l,r.lo.size ≤ 1000000000000):sortG l = l:=by
 obtain ⟨h1,h2⟩:=sortG_spec hs
 have h3:=rgsOk_up h
 have h4:l.Pairwise (fun x y=>x.lo ≤ y.lo):=h3.imp fun {x y} q=>by grind
 refine List.Perm.eq_of_pairwise ?_ h2 h4 h1
 intro a b ha hb hab hba
 have ha':=h1.mem_iff.1 ha
 have e:a.lo = b.lo:=by grind
 obtain ⟨i,hi,rfl⟩:=List.getElem_of_mem ha'
 obtain ⟨j,hj,rfl⟩:=List.getElem_of_mem hb
 rw [List.pairwise_iff_getElem] at h3
 rcases Nat.lt_trichotomy i j with q|q|q
 · have:=h3 i j hi hj q;grind
 · subst q;rfl
 · have:=h3 j i hj hi q;grind
theorem ofS_id {l:List Rg} (h:rgsOk l):rgOfS l = l:=by
 have key:∀ k,k ≤ l.length → rgOfS (l.take k) = l.take k:=by
   intro k
   induction k with
   | zero=>intro _;rfl
   | succ k ih=>
     intro hk
     have hk':k < l.length:=by omega
     rw [ofS_take hk',ih (by omega),take_snoc' l k hk']
     obtain ⟨_,a2⟩:=h k hk'
     rcases Nat.eq_zero_or_pos k with rfl|hp
     · simp [ofF]
     · obtain ⟨m,rfl⟩:∃ m,k = m + 1:=⟨k - 1,by omega⟩
       have c:=a2 (by omega)
       simp only [Nat.add_sub_cancel] at c
       rw [take_snoc' l m (by omega)]
       unfold ofF
       simp only [List.reverse_append,List.reverse_cons,List.reverse_nil,List.nil_append,List.singleton_append,List.reverse_reverse]
       rw [if_pos c]
 have:=key l.length (Nat.le_refl _)
 rwa [List.take_length] at this
section
def so_rng_ren:Go.Shelf.Ren:=⟨fun|6=>166|14=>186|15=>187|20=>193|21=>194|22=>195|23=>196|24=>197|25=>198|26=>199|27=>200|28=>201|29=>202|46=>222|47=>223|48=>224|49=>225|50=>226|57=>234|n=>n,fun|0=>0|3=>3|4=>4|5=>5|9=>9|22=>22|24=>114|25=>196|39=>215|45=>222|46=>223|50=>227|53=>230|55=>232|66=>246|70=>250|76=>257|77=>258|n=>n,fun n=>n⟩
theorem so_rng:SlLaysF0.n6 Tryz.prog so_rng_ren:={ mixed:=by kernel_rfl,f6:=⟨Tryz.f166.name,by decide,Tryz.func166.trans (congrArg some (by kernel_rfl))⟩,f14:=⟨Tryz.f186.name,by decide,Tryz.func186.trans (congrArg some (by kernel_rfl))⟩,f15:=Tryz.func187.trans (congrArg some (by kernel_rfl)),f20:=⟨Tryz.f193.name,by decide,Tryz.func193.trans (congrArg some (by kernel_rfl))⟩,f21:=⟨Tryz.f194.name,by decide,Tryz.func194.trans (congrArg some (by kernel_rfl))⟩,f22:=⟨Tryz.f195.name,by decide,Tryz.func195.trans (congrArg some (by kernel_rfl))⟩,f23:=⟨Tryz.f196.name,by decide,Tryz.func196.trans (congrArg some (by kernel_rfl))⟩,f24:=⟨Tryz.f197.name,by decide,Tryz.func197.trans (congrArg some (by kernel_rfl))⟩,f25:=⟨Tryz.f198.name,by decide,Tryz.func198.trans (congrArg some (by kernel_rfl))⟩,f26:=⟨Tryz.f199.name,by decide,Tryz.func199.trans (congrArg some (by kernel_rfl))⟩,f27:=⟨Tryz.f200.name,by decide,Tryz.func200.trans (congrArg some (by kernel_rfl))⟩,f28:=Tryz.func201.trans (congrArg some (by kernel_rfl)),f29:=Tryz.func202.trans (congrArg some (by kernel_rfl)),f46:=⟨Tryz.f222.name,by decide,Tryz.func222.trans (congrArg some (by kernel_rfl))⟩,f47:=Tryz.func223.trans (congrArg some (by kernel_rfl)),f48:=Tryz.func224.trans (congrArg some (by kernel_rfl)),f49:=⟨Tryz.f225.name,by decide,Tryz.func225.trans (congrArg some (by kernel_rfl))⟩,f50:=⟨Tryz.f226.name,by decide,Tryz.func226.trans (congrArg some (by kernel_rfl))⟩,f57:=⟨Tryz.f234.name,by decide,Tryz.func234.trans (congrArg some (by kernel_rfl))⟩,t0:=Tryz.underlying0,a0:=Tryz.isAgg0,z0:=Tryz.sizeOf0,v0:=Tryz.zeroValue0,t3:=Tryz.underlying3,a3:=Tryz.isAgg3,z3:=Tryz.sizeOf3,v3:=Tryz.zeroValue3,t4:=Tryz.underlying4,a4:=Tryz.isAgg4,z4:=Tryz.sizeOf4,v4:=Tryz.zeroValue4,t5:=Tryz.underlying5,a5:=Tryz.isAgg5,z5:=Tryz.sizeOf5,v5:=Tryz.zeroValue5,t9:=Tryz.underlying9,a9:=Tryz.isAgg9,z9:=Tryz.sizeOf9,v9:=Tryz.zeroValue9,t22:=Tryz.underlying22,a22:=Tryz.isAgg22,z22:=Tryz.sizeOf22,v22:=Tryz.zeroValue22,t25:=Tryz.underlying196,a25:=Tryz.isAgg196,z25:=Tryz.sizeOf196,v25:=Tryz.zeroValue196,t39:=Tryz.underlying215,a39:=Tryz.isAgg215,z39:=Tryz.sizeOf215,v39:=Tryz.zeroValue215,t45:=Tryz.underlying222,a45:=Tryz.isAgg222,z45:=Tryz.sizeOf222,v45:=Tryz.zeroValue222,t46:=Tryz.underlying223,a46:=Tryz.isAgg223,z46:=Tryz.sizeOf223,v46:=Tryz.zeroValue223,t50:=Tryz.underlying227,a50:=Tryz.isAgg227,z50:=Tryz.sizeOf227,v50:=Tryz.zeroValue227,t53:=Tryz.underlying230,a53:=Tryz.isAgg230,z53:=Tryz.sizeOf230,v53:=Tryz.zeroValue230,t55:=Tryz.underlying232,a55:=Tryz.isAgg232,z55:=Tryz.sizeOf232,v55:=Tryz.zeroValue232,t66:=Tryz.underlying246,a66:=Tryz.isAgg246,z66:=Tryz.sizeOf246,v66:=Tryz.zeroValue246,t70:=Tryz.underlying250,a70:=Tryz.isAgg250,z70:=Tryz.sizeOf250,v70:=Tryz.zeroValue250,t76:=Tryz.underlying257,a76:=Tryz.isAgg257,z76:=Tryz.sizeOf257,v76:=Tryz.zeroValue257,t77:=Tryz.underlying258,a77:=Tryz.isAgg258,z77:=Tryz.sizeOf258,v77:=Tryz.zeroValue258 }
theorem rng_CmpG (x y:Rg) (hx:x.lo.size ≤ 1000000000000) (w:World) :
   Calls Tryz.prog 167 #[.agg #[.string x.lo,.string x.hi,.bool x.op],.agg #[.string y.lo,.string y.hi,.bool y.op]] w fun e w'=>e = .returned (.int .i64 (cmpB x.lo y.lo)) ∧ Gw w w':=by
 go_enter Tryz.func167,Tryz.ntmps167
 go_wp2_with fail
 refine (key_CmpG x.lo y.lo hx _).mono ?_
 rintro e w' ⟨rfl,hg⟩
 go_wp2
 go_ret
 exact ⟨rfl,Gw.trans (((Gw.refl w).alloc _).alloc _) hg⟩
theorem sort_rng (l:List Rg) (h:∀ r ∈ l,r.lo.size ≤ 1000000000000) (hl:l.length ≤ 1000000000) :
   FnM Tryz.prog 166 [.row 1000 0,cmpCR] [(1000,itsWR l)] .any [(1000,itsWR (sortG l))]:=by
 have:=fnm_sortK (e:=114) (k:=3) (G:=167) so_rng Tryz.isAgg114 Tryz.sizeOf114 (enc:=fun x:BRg=>[.string x.1.lo,.string x.1.hi,.bool x.1.op]) ⟨by decide,fun _=>rfl,fun x v hv=>by simp at hv;rcases hv with rfl|rfl|rfl <;> rfl⟩ cmpBRg_swo (enters_of Tryz.func167 (by kernel_rfl) rfl)
   (fun x y w=>rng_CmpG x.1 y.1 x.2 w) (ent_of Tryz.func166 (by kernel_rfl) (by kernel_rfl)) (l.pmap Subtype.mk h) (by rw [List.length_pmap];omega)
 have e1:(l.pmap Subtype.mk h).map (rawsE fun x:BRg=>[Value.string x.1.lo,Value.string x.1.hi,Value.bool x.1.op]) = l.map rgP:=by rw [List.map_pmap];exact List.pmap_eq_map (f:=rgP) h
 have e2:(sortL cmpBRg (l.pmap Subtype.mk h)).map (rawsE fun x:BRg=>[Value.string x.1.lo,Value.string x.1.hi,Value.bool x.1.op]) = (sortG l).map rgP:=by unfold sortG;rw [dif_pos h,List.map_map];rfl
 rw [e1,e2] at this
 exact this
theorem rgs_OfR (l:List Rg) (h:rgsOk l) (hl:l.length ≤ 1000000000):Fn Tryz.prog 120 [rgsB l] (ownRg l):=by
 have hr:∀ r ∈ l,rgR r = true:=fun r hr=>by
   obtain ⟨i,hi,rfl⟩:=List.getElem_of_mem hr
   exact (h i hi).1
 have hf:l.filter rgR = l:=List.filter_eq_self.2 hr
 have hs:∀ r ∈ l,r.lo.size ≤ 1000000000000:=fun r q=>by have:=((rgR_iff r).1 (hr r q)).1;omega
 have h1:=sort_rng l hs hl
 rw [sortG_id h hs] at h1
 have:=rgs_OfG l l (by rw [hf];exact h1) (by rw [hf]) hr ((rgsOk_up h).imp fun {x y} q=>by grind) hl
 rwa [ofS_id h] at this
end
/-- whatever it is -/
def anyP:PV:=⟨fun _ _ _=>True,fun _ _ _ h=>h⟩
theorem splice_get {α:Type} (l m:List α) (a:Nat) (h:a + m.length ≤ l.length) (q:Nat):(l.take a ++ m ++ l.drop (a + m.length))[q]? = if a ≤ q ∧ q < a + m.length then m[q - a]? else l[q]?:=by
 have ht:(l.take a).length = a:=by simp;omega
 rcases Nat.lt_or_ge q a with hlt|hge
 · rw [if_neg (by omega),List.append_assoc,List.getElem?_append_left (by omega),List.getElem?_take,if_pos hlt]
 · rw [List.append_assoc,List.getElem?_append_right (by omega),ht]
   rcases Nat.lt_or_ge q (a + m.length) with hlt|hge2
   · rw [if_pos ⟨hge,hlt⟩,List.getElem?_append_left (by omega)]
   · rw [if_neg (by omega),List.getElem?_append_right (by omega),List.getElem?_drop]
     congr 1;omega
section
variable {P:Program} {n:Nat} {ops:Array Oper} {o:Oper} {F:List Nat} {S T:St} {C:Ctx} {g:Gh} {a:Act} {w w':World} {t:Nat}

theorem op_vw {ty e':TypeId} {x:Operand} {lo hi:Option Operand} {id vr e k l h:Nat} {es:List (List PV)} (hp:Pl n o t) (ho:o.op = .slice ty x lo hi none) (hT:Und P ty (.slice e')) (hk:Siz P e' k) (h0:Nat.blt 0 k = true)
   (hx:S.opd x = .row id vr) (hv:S.ver id = vr) (hb:S.blk id = .row e k es) (hbn:bnd S lo hi es.length l h) (hlt:l < es.length):OpOk n P ops o ((2 * id + 1) :: (opdN x ++ bndN lo hi)) (.vw id vr k l (h - l)) [] S:=
 op_val hp fun C T g a w hA hR=>by
   obtain ⟨h1,h2⟩:=row_at (x:=x) hA (fun k h=>by simp [h]) (by simp) hR hx hv hb
   have hvt:=(hA.2 id (by simp)).2
   rcases h2 with ⟨_,rfl⟩|⟨cap,cs,q1,q2,q3,q4,q5,q6,q7⟩
   · simp at hlt
   · have b3:=hbn.2.2.1
     have b4:=hbn.2.2.2
     refine ⟨.slice (some ⟨g.ph id,l * k,none⟩) (h - l) (cap - l),?_,⟨by omega,fun _=>⟨cap - l,rfl,by omega⟩⟩⟩
     have hr:=slice_run (P:=P) (ad:=some ⟨g.ph id,0,none⟩) (c:=cap) (w:=w) hT.h hk.h (Nat.le_of_ble_eq_true h0) hA (fun k h=>by simp [h]) hR hbn (by omega)
     rw [if_neg (by omega)] at hr
     simp only [execOp,ho,h1,q1,Sem.run_bind,Option.map_none,hr,Option.map_some,Addr.add_lit,Nat.zero_add];rfl
theorem op_vlen {ty e':TypeId} {x:Operand} {id vr k lo len:Nat} (hp:Pl n o t) (ho:isLen o ty x) (hT:Und P ty (.slice e')) (hx:S.opd x = .vw id vr k lo len) (hv:S.ver id = vr) :
   OpOk n P ops o ((2 * id + 1) :: opdN x) (iC .i64 (len:Int)) [] S:=
 op_val hp fun C T g a w hA hR=>by
   have h:=opd_rep (x:=x) hA (fun k h=>by simp [h]) hR
   rw [hx] at h
   obtain ⟨c,hc,_⟩:=h.2 (by rw [(hA.2 id (by simp)).2,hv])
   exact ⟨_,execLen ho hc (lenRun hT.h w),rfl⟩
theorem op_vidx {ty e':TypeId} {x ix:Operand} {id vr k lo len i:Nat} {kk:IntKind} {z:Int} (hp:Pl n o t) (ho:o.op = .indexAddr ty x ix) (hT:Und P ty (.slice e')) (hk:Siz P e' k) (h0:Nat.blt 0 k = true)
   (hx:S.opd x = .vw id vr k lo len) (hv:S.ver id = vr) (hi:S.opd ix = iC kk z) (hz:z = (i:Int)) (hlt:i < len):OpOk n P ops o ((2 * id + 1) :: (opdN x ++ opdN ix)) (.ept id vr k (lo + i) 0) [] S:=
 op_val hp fun C T g a w hA hR=>by
   have h:=opd_rep (x:=x) hA (fun k h=>by simp [h]) hR
   rw [hx] at h
   obtain ⟨c,hc,_⟩:=h.2 (by rw [(hA.2 id (by simp)).2,hv])
   have hvt:=(hA.2 id (by simp)).2
   have h3:=raw_opd (x:=ix) hA (fun k h=>by simp [h]) hR hi
   refine ⟨.pointer (some ⟨g.ph id,lo * k + i * k,none⟩),?_,⟨by omega,fun _=>by rw [Nat.add_mul,Nat.add_zero]⟩⟩
   subst hz
   simp only [execOp,ho,hc,h3,Sem.run_bind,indexAt_run hT.h hk.h (Nat.le_of_ble_eq_true h0) hlt];rfl
/-- clear(s), s a view -/
theorem op_clear {ty e':TypeId} {x:Operand} {id vr e k lo len:Nat} {es es':List (List PV)} {z:Value} (hp:Pl0 o) (ho:o.op = .call { callee:=.builtin .clear,args:=#[x],argTypes:=#[ty] }) (hT:Und P ty (.slice e')) (hz:Zro P e' z)
   (hzk:z.cells.size = k) (hz1:z.cells.toList.all (·.oneCell') = true)
   (hx:S.opd x = .vw id vr k lo len) (hv:S.ver id = vr) (hb:S.blk id = .row e k es) (hl:lo + len ≤ es.length) (hn:0 < len)
   (he:es.take lo ++ List.replicate len (List.replicate k anyP) ++ es.drop (lo + len) = es'):OpOk n P ops o ((2 * id + 1) :: opdN x) .any [(id,vr,.row e k es')] S:=by
 subst he
 refine ⟨?_⟩
 intro C T hA a w ⟨g,hR⟩
 have h:=opd_rep (x:=x) hA (fun k h=>by simp [h]) hR
 rw [hx] at h
 obtain ⟨c,hc,_⟩:=h.2 (by rw [(hA.2 id (by simp)).2,hv])
 have hvt:=(hA.2 id (by simp)).2
 have hB:=hR.blks id
 rw [(hA.2 id (by simp)).1,hb] at hB
 rcases hB with ⟨_,rfl⟩|⟨cap,cs,q1,q2,q3,q4,q5,q6,q7⟩
 · simp at hl;omega
 obtain ⟨vs,hvs⟩:∃ vs,vs = (Builtin.zeroCells z.cells len).toList:=⟨_,rfl⟩
 have hvl:vs.length = len * k:=by rw [hvs];simp [Builtin.zeroCells,hzk]
 have hv1:∀ v ∈ vs,v.oneCell' = true:=by
   intro v hm
   rw [hvs] at hm
   simp only [Builtin.zeroCells,Array.toList_map,List.mem_map] at hm
   obtain ⟨i,hi,rfl⟩:=hm
   rw [List.all_eq_true] at hz1
   have hi':i < len * z.cells.size:=by simpa using hi
   have hpos:0 < z.cells.size:=by
     rcases Nat.eq_zero_or_pos z.cells.size with q|q
     · rw [q] at hi';omega
     · exact q
   have hmod:=Nat.mod_lt i hpos
   rw [getElem!_pos z.cells _ hmod]
   exact hz1 _ (by simp)
 have hlk:lo * k + len * k ≤ cs.size:=by
   have:=Nat.mul_le_mul_right k (show lo + len ≤ cap by omega)
   rw [Nat.add_mul] at this;omega
 have hrun:=run_storeCells_at (P:=P) (g.ph id) (lo * k) e vs 0 cs w q2 (by omega) hv1
 simp only [Nat.add_zero] at hrun
 have hexec:(execOp a.eval o).run P w = .ok (.value (.tuple #[])) (w.setRow (g.ph id) (cs.toList.take (lo * k) ++ vs ++ cs.toList.drop (lo * k + vs.length)).toArray):=by
   obtain ⟨m,rfl⟩:∃ m,len = m + 1:=⟨len - 1,by omega⟩
   rw [hvs] at hrun
   have hcl:(Builtin.clear_ #[ty] o.type #[.slice (some ⟨g.ph id,lo * k,none⟩) (m + 1) c]).run P w = .ok (.tuple #[]) (w.setRow (g.ph id) (cs.toList.take (lo * k) ++ vs ++ cs.toList.drop (lo * k + vs.length)).toArray):=by
     rw [hvs]
     simp [Builtin.clear_,run_underlying hT.h,zero_run hz.h,hrun]
   simp only [execOp,ho,resolve,invoke,builtin,Sem.run_bind,Sem.run_pure,Result.andThen_ok,List.map_toArray,List.map_cons,List.map_nil,hc,hcl]
 unfold Exec
 rw [if_pos (by simp [Region.wanted,hp.1])]
 unfold Oper.wp
 rw [hexec,Oper.upon_value]
 have hst:=stp_set (cs':=(cs.toList.take (lo * k) ++ vs ++ cs.toList.drop (lo * k + vs.length)).toArray) hR rfl q2 q3
 have hver:(T.app o.dst .any [(id,vr,.row e k (es.take lo ++ List.replicate len (List.replicate k anyP) ++ es.drop (lo + len)))]).ver = T.ver:=by
   funext i'
   rw [St.app_some_ver]
   split
   · rename_i h;subst h;rw [hvt,hv]
   · rfl
 refine ⟨g,hR.app1 (c:=.any) (fun t h=>by rw [hp.2] at h;cases h) (by rw [hver];exact hst) trivial ?_⟩
 rw [hver]
 have hlen2:(es.take lo ++ List.replicate len (List.replicate k anyP) ++ es.drop (lo + len)).length = es.length:=by simp;omega
 have hel:∀ q,(es.take lo ++ List.replicate len (List.replicate k anyP) ++ es.drop (lo + len))[q]? = if lo ≤ q ∧ q < lo + len then (List.replicate len (List.replicate k anyP))[q - lo]? else es[q]?:=by
   intro q
   have:=splice_get es (List.replicate len (List.replicate k anyP)) lo (by simpa using hl) q
   simpa using this
 have hcell:∀ q,((cs.toList.take (lo * k) ++ vs ++ cs.toList.drop (lo * k + vs.length)).toArray)[q]? = if lo * k ≤ q ∧ q < lo * k + vs.length then vs[q - lo * k]? else cs[q]?:=by
   intro q
   rw [List.getElem?_toArray,splice_get cs.toList vs (lo * k) (by simp;omega) q]
   split
   · rfl
   · simp
 refine .inr ⟨cap,_,by rw [hlen2];exact q1,setRow_heap _ _ _ _ _ _ q2,q3,by rw [hlen2];exact q4,q5,by rw [List.size_toArray,List.length_append,List.length_append,List.length_take,List.length_drop,Array.length_toList,hvl];omega,fun i' ps' hi'=>?_⟩
 rw [hel] at hi'
 split at hi'
 · rename_i hin
   rw [List.getElem?_replicate,if_pos (by omega)] at hi'
   cases hi'
   refine ⟨by simp,fun j A hj=>?_⟩
   rw [List.getElem?_replicate] at hj
   split at hj
   · rename_i hjk
     cases hj
     have e1:lo * k ≤ i' * k:=Nat.mul_le_mul_right k hin.1
     have e2:(i' + 1) * k ≤ (lo + len) * k:=Nat.mul_le_mul_right k hin.2
     rw [Nat.succ_mul,Nat.add_mul] at e2
     rw [hcell,if_pos (by omega)]
     exact ⟨vs[i' * k + j - lo * k]'(by omega),List.getElem?_eq_getElem _,hv1 _ (List.getElem_mem _),trivial⟩
   · cases hj
 · rename_i hout
   obtain ⟨r1,r2⟩:=q7 i' ps' hi'
   refine ⟨r1,fun j A hj=>?_⟩
   obtain ⟨u,s1,s2,s3⟩:=r2 j A hj
   have hjk:j < k:=by have:=(List.getElem?_eq_some_iff.1 hj).1;omega
   rw [hcell,if_neg ?_]
   · exact ⟨u,s1,s2,A.mono hst.sz hst.keepN hst.n s3⟩
   · rintro ⟨h1,h2⟩
     rcases Nat.lt_or_ge i' lo with q|q
     · have e1:=Nat.mul_le_mul_right k (show i' + 1 ≤ lo from q)
       rw [Nat.succ_mul] at e1;omega
     · have e1:=Nat.mul_le_mul_right k (show lo + len ≤ i' by omega)
       rw [Nat.add_mul] at e1;omega
/-- s[:h] of a row of one's own: the row, cut -/
theorem op_rcut {ty e':TypeId} {x:Operand} {hi:Option Operand} {id vr e k h:Nat} {es es':List (List PV)} (hp:Pl n o t) (ho:o.op = .slice ty x none hi none) (hT:Und P ty (.slice e')) (hk:Siz P e' k) (h0:Nat.blt 0 k = true)
   (hx:S.opd x = .row id vr) (hv:S.ver id = vr) (hb:S.blk id = .row e k es) (hbn:bnd S none hi es.length 0 h) (he:es.take h = es') (hfx:isFix id = false:=by rfl) :
   OpOk n P ops o ((2 * id + 1) :: (opdN x ++ bndN none hi)) (.row id (vr + 1)) [(id,vr + 1,.row e k es')] S:=by
 subst he
 refine ⟨?_⟩
 intro C T hA a w ⟨g,hR⟩
 obtain ⟨h1,h2⟩:=row_at (x:=x) hA (fun k h=>by simp [h]) (by simp) hR hx hv hb
 have hvt:=(hA.2 id (by simp)).2
 have hbn4:h ≤ es.length:=hbn.2.2.2
 have hvr:∀ i,(T.app o.dst (.row id (vr + 1)) [(id,vr + 1,.row e k (es.take h))]).ver i = if i = id then T.ver id + 1 else T.ver i:=fun i=>by rw [St.app_some_ver,hvt,hv]
 have hmul:(es.take h).length = h:=by simp;omega
 unfold Exec
 rw [if_pos (hp.wanted a)]
 unfold Oper.wp
 rcases h2 with ⟨q1,rfl⟩|⟨cap,cs,q1,q2,q3,q4,q5,q6,q7⟩
 · have hh0:h = 0:=by simpa using hbn4
   subst hh0
   have hr:=slice_run (P:=P) (ad:=none) (c:=0) (w:=w) hT.h hk.h (Nat.le_of_ble_eq_true h0) hA (fun k h=>by simp [h]) hR hbn (by omega)
   have hexec:(execOp a.eval o).run P w = .ok (.value (.slice none 0 0)) w:=by
     simp only [execOp,ho,h1,q1,Sem.run_bind,Option.map_none]
     simp only [List.length_nil,Option.map_none] at hr
     rw [hr];rfl
   rw [hexec,Oper.upon_value]
   have hst:=stp_mkN (v:=.slice none 0 0) (t:=id) hR (Ext.refl w) hvr hfx
   refine ⟨g.mkN id (.slice none 0 0),hR.app1 hp.dOk hst ⟨by rw [hvr,if_pos rfl,hvt,hv];exact Nat.le_refl _,fun _=>?_⟩ (.inl ⟨?_,by simp⟩)⟩
   · show _ = (if id = id then _ else _);rw [if_pos rfl]
   · show (if id = id then _ else _) = _;rw [if_pos rfl]
 · have hr:=slice_run (P:=P) (ad:=some ⟨g.ph id,0,none⟩) (c:=cap) (w:=w) hT.h hk.h (Nat.le_of_ble_eq_true h0) hA (fun k h=>by simp [h]) hR hbn (by omega)
   have hexec:(execOp a.eval o).run P w = .ok (.value (.slice (some ⟨g.ph id,0,none⟩) h cap)) w:=by
     simp only [execOp,ho,h1,q1,Sem.run_bind,Option.map_none]
     simp only [Option.map_none,Option.map_some,Addr.add_lit,Nat.zero_mul,Nat.add_zero,Nat.sub_zero,ite_self] at hr
     rw [hr];rfl
   rw [hexec,Oper.upon_value]
   have hst:=stp_mkN (v:=.slice (some ⟨g.ph id,0,none⟩) h cap) (t:=id) hR (Ext.refl w) hvr hfx
   refine ⟨g.mkN id (.slice (some ⟨g.ph id,0,none⟩) h cap),hR.app1 hp.dOk hst ⟨by rw [hvr,if_pos rfl,hvt,hv];exact Nat.le_refl _,fun _=>?_⟩ (.inr ⟨cap,cs,?_,q2,q3,by rw [hmul];omega,q5,q6,fun i ps hi=>?_⟩)⟩
   · show _ = (if id = id then _ else _);rw [if_pos rfl]
   · show (if id = id then _ else _) = _;rw [if_pos rfl,hmul];rfl
   · rw [List.getElem?_take] at hi
     split at hi
     · obtain ⟨r1,r2⟩:=q7 i ps hi
       refine ⟨r1,fun j A hj=>?_⟩
       obtain ⟨u,s1,s2,s3⟩:=r2 j A hj
       exact ⟨u,s1,s2,A.mono hst.sz hst.keepN hst.n s3⟩
     · cases hi
end
end Go.Proofs.YtfcpkegmdlchhaaGreat
