/- Texts joined: ImY StN. -/
import Derived.Test.YtfcpkegmdlchhaaGreatJ32
import Derived.Test.YtfcpkegmdlchhaaGreatJ06
import Derived.Test.YtfcpkegmdlchhaaGreatJ29
import Derived.Test.YtfcpkegmdlchhaaGreatJ27
set_option maxRecDepth 10000
set_option maxHeartbeats 8000000
namespace Go.Proofs.YtfcpkegmdlchhaaGreat
open Go.RowKit
theorem pcsMid_nil:pcsMid []:=⟨by simp,by simp,by simp⟩
theorem kOk_nil:kOk []:=fun x hx=>by cases hx
theorem stB_z:StB {}:=⟨by simp,pcsMid_nil,by simp,by simp,kOk_nil⟩
theorem rdSh_len (l:List UInt8):(rdSh l).2.2.2.2.1.length ≤ l.length ∧ (rdSh l).2.2.1.length ≤ l.length ∧ (rdSh l).2.2.2.1.length ≤ l.length:=by
 unfold rdSh
 dsimp only
 have s1:=(withinSt_suf 1 16 l 0).length_le
 generalize withinSt 1 16 l 0 = q1 at *
 have s2:=(withinSt_suf 0 1099511627776 q1.2.1 q1.2.2).length_le
 generalize withinSt 0 1099511627776 q1.2.1 q1.2.2 = q2 at *
 have s3:=(textSt_suf maxN q2.2.1 q2.2.2).length_le
 have t3:=textSt_ln maxN q2.2.1 q2.2.2
 generalize textSt maxN q2.2.1 q2.2.2 = q3 at *
 have s4:=(textSt_suf maxN q3.2.1 q3.2.2).length_le
 have t4:=textSt_ln maxN q3.2.1 q3.2.2
 generalize textSt maxN q3.2.1 q3.2.2 = q4 at *
 have t5:=textSt_ln maxN q4.2.1 q4.2.2
 refine ⟨?_,?_,?_⟩ <;> omega
theorem rdSt_B {l:List UInt8} (hl:l.length ≤ 1000000):StB (rdSt l).1:=by
 have hlen:=(rdSh_len l).1
 unfold rdSt
 dsimp only
 split
 · exact stB_z
 · unfold rdSp
   split
   · exact stB_z
   split
   · exact stB_z
   split
   · exact stB_z
   split
   · rename_i a b c _
     exact sta_B _ _ (Decidable.not_not.1 a) (Decidable.not_not.1 b) (Decidable.not_not.1 c) (by omega)
   · exact stB_z
theorem rdNh_len (l:List UInt8):(rdNh l).2.1.length ≤ l.length ∧ (rdNh l).2.2.1.length ≤ l.length:=by
 unfold rdNh
 dsimp only
 have s1:=(withinSt_suf 1 5 l 0).length_le
 generalize withinSt 1 5 l 0 = q1 at *
 split
 · have t2:=textSt_ln maxN q1.2.1 q1.2.2
   exact ⟨by simp only;omega,by simp⟩
 split
 · exact ⟨by simp,by simp⟩
 split
 · exact ⟨by simp,by simp⟩
 split
 · exact ⟨by simp,by simp⟩
 split
 · have s2:=(numSt_suf q1.2.1 q1.2.2).length_le
   generalize numSt q1.2.1 q1.2.2 = q2 at *
   have s3:=(numSt_suf q2.2.1 q2.2.2).length_le
   generalize numSt q2.2.1 q2.2.2 = q3 at *
   have s4:=(numSt_suf q3.2.1 q3.2.2).length_le
   generalize numSt q3.2.1 q3.2.2 = q4 at *
   have s5:=(textSt_suf maxN q4.2.1 q4.2.2).length_le
   have t5:=textSt_ln maxN q4.2.1 q4.2.2
   generalize textSt maxN q4.2.1 q4.2.2 = q5 at *
   have t6:=textSt_ln maxN q5.2.1 q5.2.2
   exact ⟨by simp only;omega,by simp only;omega⟩
 · exact ⟨by simp,by simp⟩
theorem rdNh_z (l:List UInt8):(rdNh l).1.st = {} ∧ (rdNh l).1.its = [] ∧ (rdNh l).1.know = []:=by
 unfold rdNh
 dsimp only
 split
 · exact ⟨rfl,rfl,rfl⟩
 split
 · exact ⟨rfl,rfl,rfl⟩
 split
 · exact ⟨rfl,rfl,rfl⟩
 split
 · exact ⟨rfl,rfl,rfl⟩
 split
 · exact ⟨rfl,rfl,rfl⟩
 · exact ⟨rfl,rfl,rfl⟩
/-- what was read is right as soon as the program says so -/
theorem nt_right {l:List UInt8} (h0:endSt (rdNh l).2.2.2.1 (rdNh l).2.2.2.2 = 0) (h1:(rdNp (rdNh l).1 (rdNh l).2.1 (rdNh l).2.2.1).2 = 0) :
   ntR (rdNp (rdNh l).1 (rdNh l).2.1 (rdNh l).2.2.1).1 = rgtN (rdNp (rdNh l).1 (rdNh l).2.1 (rdNh l).2.2.1).1:=by
 by_cases c5:(rdNp (rdNh l).1 (rdNh l).2.1 (rdNh l).2.2.1).1.kind = 5
 · obtain ⟨_,e2⟩:=end_back h0
   unfold rdNh at *
   dsimp only at *
   generalize withinSt 1 5 l 0 = a at *
   by_cases k1:a.1 = 1
   · exfalso
     simp only [if_pos k1] at *
     unfold rdNp at h1 c5
     simp only [if_true] at h1 c5
     by_cases d:(rdSt (textSt maxN a.2.1 a.2.2).1).2 ≠ 0
     · rw [if_pos d] at h1;exact absurd h1 d
     · rw [if_neg d] at c5;simp at c5
   simp only [if_neg k1] at *
   by_cases k2:a.1 = 2
   · exfalso
     simp only [if_pos k2] at *
     unfold rdNp at c5
     simp at c5
   simp only [if_neg k2] at *
   by_cases k3:a.1 = 3
   · exfalso
     simp only [if_pos k3] at *
     unfold rdNp at c5
     simp at c5
   simp only [if_neg k3] at *
   by_cases k4:a.1 = 4
   · exfalso
     simp only [if_pos k4] at *
     unfold rdNp at c5
     simp at c5
   simp only [if_neg k4] at *
   by_cases k5:a.1 = 5
   · simp only [if_pos k5] at *
     obtain ⟨y1,_,_⟩:=text_back e2
     obtain ⟨x1,_,_⟩:=text_back y1
     obtain ⟨t1,t2,_⟩:=num_back x1
     obtain ⟨n1,n2,_⟩:=num_back t1
     obtain ⟨_,m2,_⟩:=num_back n1
     generalize hq:textSt maxN (numSt (numSt (numSt a.2.1 a.2.2).2.1 (numSt a.2.1 a.2.2).2.2).2.1 (numSt (numSt a.2.1 a.2.2).2.1 (numSt a.2.1 a.2.2).2.2).2.2).2.1 (numSt (numSt (numSt a.2.1 a.2.2).2.1 (numSt a.2.1 a.2.2).2.2).2.1 (numSt (numSt a.2.1 a.2.2).2.1 (numSt a.2.1 a.2.2).2.2).2.2).2.2 = x at *
     generalize textSt maxN x.2.1 x.2.2 = y at *
     unfold rdNp at *
     simp only [show ((5:Int) = 1) = False by simp,if_false,if_true] at *
     by_cases d:(rdItems x.1).2 ≠ 0
     · rw [if_pos d] at h1;exact absurd h1 d
     rw [if_neg d] at h1 c5 ⊢
     by_cases d2:(rdKnow y.1).2 ≠ 0
     · rw [if_pos d2] at h1;exact absurd h1 d2
     rw [if_neg d2] at h1 c5 ⊢
     have g1:=(rdItems_back (Decidable.not_not.1 d)).2.1
     have g2:=(rdKnow_back (Decidable.not_not.1 d2)).1
     rw [ntR_rgt5 rfl g1]
     simp only
     rw [isNum_of m2,isNum_of n2,isNum_of t2,decide_eq_true g2]
     simp
   · exfalso
     simp only [if_neg k5] at *
     unfold rdNp at c5
     simp only [if_neg k1,if_neg k5] at c5
     exact k5 c5
 · exact ntR_rgt c5
theorem pcsMid_set {k:List Pc} (h:pcsMid k):∀ p ∈ k,knsMid p.set:=fun p hp=>by
 have h1:=mem_flat_len2 Pc.set hp
 have h2:=flat_sub_len Kn.runs (a:=p.set) (b:=k.flatMap Pc.set) (by
   clear h1 h
   induction k with
   | nil=>cases hp
   | cons q k ih=>
     rw [List.flatMap_cons]
     rcases List.mem_cons.1 hp with rfl|h
     · exact List.sublist_append_left _ _
     · exact (ih h).trans (List.sublist_append_right _ _))
 have h3:=h.2
 exact ⟨by omega,by omega⟩
section
theorem rst_Most (k:List Pc) (id:Int) (hk:pcsMid k):Fn Tryz.prog 37 [pcsB k,iC .i64 id] (inR (mostK k id)):=by
 have hl0:=hk.1
 generalize hR:mostK k id = R
 unfold mostK at hR
 refine fi Tryz.func37 Tryz.ntmps37 ?_
 (refine w0 ?_;(repeat' first|refine W2.mk ?_ ?_|refine W1.mk fun hc=>?_))
 refine AW_loopP (X:=Nat × Int) (fun x=>x.1 ≤ k.length ∧ 0 ≤ x.2 ∧ (k.drop x.1).foldl (fun n p=>max n (mostS p.set id)) x.2 = R) (fun x=>mkSt [(0,pcsB k),(1,iC .i64 id),(5,iC .i64 x.2),(6,iC .i64 (x.1:Nat))] []) (fun x=>k.length - x.1) (0,0) ⟨Nat.zero_le _,Int.le_refl _,by simpa using hR⟩ ?_ ?_
 · exact le_auto
 · rintro ⟨i,n⟩ ⟨h1,h0,h2⟩
   simp only at h1 h0 h2 ⊢
   by_cases hi:i < k.length
   · rw [List.drop_eq_getElem_cons hi,List.foldl_cons] at h2
     have hm:=pcsMid_set hk _ (List.getElem_mem hi)
     have a1:=(rvs_Of k[i].set hm).frz
     have hv:=vsOf_ok k[i].set
     have hvl:=(vsOf_sz (X:=k[i].set) (M:=100000000) hm.2).1
     have hvs:=(vsOf_sz (X:=k[i].set) (M:=100000000) hm.2).2
     rw [← fold_vsOf k[i].set id n h0] at h2
     generalize vsOf ofR k[i].set = V at *
     clear hk hR hm
     (have kc1:=a1;refine w0 ?_;(repeat' first|refine W2.mk ?_ ?_|refine W1.mk fun hc=>?_);all_goals clear kc1)
     refine AW_loopP (X:=Nat × Int) (fun y=>y.1 ≤ V.length ∧ 0 ≤ y.2 ∧ (V.drop y.1).foldl (fold1 id) y.2 = V.foldl (fold1 id) n) (fun y=>mkSt [(0,pcsB k),(1,iC .i64 id),(5,iC .i64 y.2),(6,iC .i64 (i:Nat)),(7,.per (knsP V)),(8,iC .i64 (y.1:Nat))] []) (fun y=>V.length - y.1) (0,n) ⟨Nat.zero_le _,h0,by simp⟩ ?_ ?_
     · exact le_auto
     · rintro ⟨j,m⟩ ⟨g1,g0,g2⟩
       simp only at g1 g0 g2 ⊢
       by_cases hj:j < V.length
       · rw [List.drop_eq_getElem_cons hj,List.foldl_cons] at g2
         have hne:=(hv j hj hj).2.2.1
         unfold fold1 at g2
         by_cases hid:V[j].rep = id
         · rw [if_pos hid] at g2
           rcases snoc_c2 V[j].runs with e|⟨l',r,e⟩
           · exact absurd e hne
           · rw [e,lastTo_snoc] at g2
             have hlen:((V[j].runs.length:Nat):Int) - 1 = (l'.length:Nat):=by rw [e];simp
             have hlt:l'.length < V[j].runs.length:=by rw [e];simp
             have hget:V[j].runs[l'.length]'hlt = r:=by simp [e]
             have hto:(V[j].runs[l'.length]'hlt).to = r.to:=by rw [hget]
             rw [← hto] at g2
             have hRl:V[j].runs.length ≤ 2000000000:=by have:=mem_flat_len2 Kn.runs (List.getElem_mem hj);omega
             have hmx:=max_eq m (V[j].runs[l'.length]'hlt).to
             have g4:0 ≤ max m (V[j].runs[l'.length]'hlt).to:=by omega
             clear h2 hv hget hto e hne hvs
             generalize max m (V[j].runs[l'.length]'hlt).to = m' at *
             (repeat' (first|refine AW_seq ?_|refine AW_block ?_|refine AW_skip ?_|refine AW_exit ?_|refine AW_ret ?_|refine AW_region ?_|refine AW_draw mixed0 ?_|refine AL_nil ?_|refine AD_nil (by kernel_rfl) ?_|(refine AW_cl rfl rfl ⟨fun hc=>?_,fun hc=>?_⟩ <;> (repeat rw [List.length_map] at hc) <;> (try exact absd hc))|((first|apply AL_t rfl|apply AL_0 rfl|apply AD_t rfl|apply AD_0 rfl);focus (first|((apply u_k 8;(focus rfl);exact op_num ⟨rfl,rfl,rfl⟩ rfl rfl rfl rfl ((wrap_id64 (by omega) (by omega)).trans hlen)))|(apply u_g;(focus rfl);apply op_gyes rfl rfl rfl rfl rfl;((apply u_k 8;(focus rfl);exact op_num ⟨rfl,rfl,rfl⟩ rfl rfl rfl rfl ((wrap_id64 (by omega) (by omega)).trans hlen))))|((exact op_maxZ ⟨rfl,rfl,rfl⟩ rfl rfl rfl hmx))|(apply u_g;(focus rfl);apply op_gyes rfl rfl rfl rfl rfl;((exact op_maxZ ⟨rfl,rfl,rfl⟩ rfl rfl rfl hmx)))|exact z_auto|fail))|refine thenA_n ?_|refine thenA_r ?_|refine thenA_e ?_|refine inB_n ?_|refine inB_r ?_|refine inB_hit ?_|refine inB_miss rfl ?_|((first|refine AL_cl rfl rfl rfl ⟨fun hc=>?_,fun hc=>?_⟩|refine AD_cl rfl rfl rfl ⟨fun hc=>?_,fun hc=>?_⟩) <;> (fail_if_success (have q:(true = true):=hc)) <;> (fail_if_success (have q:(false = false):=hc)) <;> (repeat rw [List.length_map] at hc) <;> (try exact absd hc))|refine AW_cond_nil rfl rfl (fun hc=>?_) ?_))
             refine ⟨(j + 1,m'),⟨by simp only;omega,g4,g2⟩,by simp only;omega,?_⟩
             exact le_auto
         · rw [if_neg hid] at g2
           clear h2
           (refine w0 ?_;(repeat' first|refine W2.mk ?_ ?_|refine W1.mk fun hc=>?_))
           refine ⟨(j + 1,m),⟨by simp only;omega,g0,g2⟩,by simp only;omega,?_⟩
           exact le_auto
       · rw [List.drop_of_length_le (by omega)] at g2
         have g2:m = V.foldl (fold1 id) n:=g2
         rw [← g2] at h2
         clear g2
         (refine w0 ?_;(repeat' first|refine W2.mk ?_ ?_|refine W1.mk fun hc=>?_))
         refine ⟨(i + 1,m),⟨by simp only;omega,g0,h2⟩,by simp only;omega,?_⟩
         exact le_auto
   · rw [List.drop_of_length_le (by omega)] at h2
     have h2:n = R:=h2
     subst h2
     clear hk hR
     (refine w0 ?_;(repeat' first|refine W2.mk ?_ ?_|refine W1.mk fun hc=>?_))
     refine rt1 ?_
     exact rv_int rfl rfl
theorem rst_Apart (l:List It) (hl:l.length ≤ 1000000):Fn Tryz.prog 38 [itsB l] (boR (apartB l)):=by
 have hE:∀ x y:Vn,eqO Tryz.prog 10000 68 [.int .i64 x.1,.int .i64 x.2] [.int .i64 y.1,.int .i64 y.2] = some (decide (x = y)):=fun x y=>(eqO_ver x.1 x.2 y.1 y.2).trans (congrArg some (vn_eq x y))
 generalize hR:apartB l = R
 unfold apartB at hR
 refine fi Tryz.func38 Tryz.ntmps38 ?_
 (refine w0 ?_;(repeat' first|refine W2.mk ?_ ?_|refine W1.mk fun hc=>?_))
 refine AW_loopP (X:=Nat) (fun i=>i ≤ l.length ∧ ((l.take i).map verOf).Nodup) (fun i=>mkSt [(0,itsB l),(3,iC .i64 (i:Nat))] []) (fun i=>l.length - i) 0 ⟨Nat.zero_le _,by simp⟩ ?_ ?_
 · exact le_auto
 · rintro i ⟨h1,h2⟩
   by_cases hi:i < l.length
   · (refine w0 ?_;(repeat' first|refine W2.mk ?_ ?_|refine W1.mk fun hc=>?_))
     refine AW_loopP (X:=Nat) (fun j=>j ≤ i ∧ ∀ q (h:q < i),q < j → verOf l[i] ≠ verOf (l[q]'(by omega))) (fun j=>mkSt [(0,itsB l),(3,iC .i64 (i:Nat)),(4,iC .i64 (j:Nat))] []) (fun j=>i - j) 0 ⟨Nat.zero_le _,fun q _ h=>by omega⟩ ?_ ?_
     · exact le_auto
     · rintro j ⟨g1,g2⟩
       by_cases hj:j < i
       · have hjl:j < l.length:=by omega
         have hE1:=hE (verOf l[i]) (verOf l[j])
         by_cases hv:verOf l[i] = verOf l[j]
         · rw [decide_eq_true hv] at hE1
           have hf:R = false:=by
             rw [← hR]
             refine decide_eq_false fun hn=>?_
             rw [List.nodup_iff_pairwise_ne,List.pairwise_iff_getElem] at hn
             have:=hn j i (by simpa using hjl) (by simpa using hi) hj
             simp only [List.getElem_map] at this
             exact this hv.symm
           rw [hf]
           clear hE hR g2 h2
           (refine w0 ?_;(repeat' (first|refine W2.mk ?_ ?_|refine W1.mk fun hc=>?_|((first|apply AL_t rfl|apply AL_0 rfl|apply AD_t rfl|apply AD_0 rfl);(focus (first|((apply u_k 5;(focus rfl);first|exact u_load_bpT ⟨rfl,rfl,rfl⟩ rfl inferInstance inferInstance rfl rfl rfl rfl|exact u_load_rpT ⟨rfl,rfl,rfl⟩ rfl inferInstance inferInstance rfl rfl rfl rfl))|(exact op_eqA (us:=[.int .i64 l[i].rep,.int .i64 l[i].cnt]) (vs:=[.int .i64 l[j].rep,.int .i64 l[j].cnt]) ⟨rfl,rfl,rfl⟩ rfl rfl rfl (by first|exact .inl ⟨rfl,rfl⟩|exact .inr ⟨rfl,rfl⟩) verG rfl hE1)|(apply u_g;(focus rfl);apply op_gyes rfl rfl rfl rfl rfl;first|((apply u_k 5;(focus rfl);first|exact u_load_bpT ⟨rfl,rfl,rfl⟩ rfl inferInstance inferInstance rfl rfl rfl rfl|exact u_load_rpT ⟨rfl,rfl,rfl⟩ rfl inferInstance inferInstance rfl rfl rfl rfl))|(exact op_eqA (us:=[.int .i64 l[i].rep,.int .i64 l[i].cnt]) (vs:=[.int .i64 l[j].rep,.int .i64 l[j].cnt]) ⟨rfl,rfl,rfl⟩ rfl rfl rfl (by first|exact .inl ⟨rfl,rfl⟩|exact .inr ⟨rfl,rfl⟩) verG rfl hE1))));refine w0 ?_))))
           refine rt1 ?_
           exact rv_bool rfl rfl
         · rw [decide_eq_false hv] at hE1
           have g3:∀ q (h:q < i),q < j + 1 → verOf l[i] ≠ verOf (l[q]'(by omega)):=fun q h hq=>by
             rcases Nat.lt_or_ge q j with w|w
             · exact g2 q h w
             · obtain rfl:q = j:=by omega
               exact hv
           clear hE hR g2 h2
           (refine w0 ?_;(repeat' (first|refine W2.mk ?_ ?_|refine W1.mk fun hc=>?_|((first|apply AL_t rfl|apply AL_0 rfl|apply AD_t rfl|apply AD_0 rfl);(focus (first|((apply u_k 5;(focus rfl);first|exact u_load_bpT ⟨rfl,rfl,rfl⟩ rfl inferInstance inferInstance rfl rfl rfl rfl|exact u_load_rpT ⟨rfl,rfl,rfl⟩ rfl inferInstance inferInstance rfl rfl rfl rfl))|(exact op_eqA (us:=[.int .i64 l[i].rep,.int .i64 l[i].cnt]) (vs:=[.int .i64 l[j].rep,.int .i64 l[j].cnt]) ⟨rfl,rfl,rfl⟩ rfl rfl rfl (by first|exact .inl ⟨rfl,rfl⟩|exact .inr ⟨rfl,rfl⟩) verG rfl hE1)|(apply u_g;(focus rfl);apply op_gyes rfl rfl rfl rfl rfl;first|((apply u_k 5;(focus rfl);first|exact u_load_bpT ⟨rfl,rfl,rfl⟩ rfl inferInstance inferInstance rfl rfl rfl rfl|exact u_load_rpT ⟨rfl,rfl,rfl⟩ rfl inferInstance inferInstance rfl rfl rfl rfl))|(exact op_eqA (us:=[.int .i64 l[i].rep,.int .i64 l[i].cnt]) (vs:=[.int .i64 l[j].rep,.int .i64 l[j].cnt]) ⟨rfl,rfl,rfl⟩ rfl rfl rfl (by first|exact .inl ⟨rfl,rfl⟩|exact .inr ⟨rfl,rfl⟩) verG rfl hE1))));refine w0 ?_))))
           refine ⟨j + 1,⟨by omega,g3⟩,by omega,?_⟩
           exact le_auto
       · have h3:((l.take (i + 1)).map verOf).Nodup:=by
           rw [take_snoc' l i hi,List.map_append,List.nodup_append]
           refine ⟨h2,by simp,fun a ha b hb=>?_⟩
           have hb:b = verOf l[i]:=by simpa using hb
           subst hb
           obtain ⟨x,hx,rfl⟩:=List.mem_map.1 ha
           obtain ⟨q,hq,rfl⟩:=List.getElem_of_mem hx
           rw [List.getElem_take]
           have hq:q < i:=by rw [List.length_take] at hq;omega
           exact fun e=>g2 q hq (by omega) e.symm
         clear hE hR g2 h2
         (refine w0 ?_;(repeat' first|refine W2.mk ?_ ?_|refine W1.mk fun hc=>?_))
         refine ⟨i + 1,⟨by omega,h3⟩,by omega,?_⟩
         exact le_auto
   · rw [List.take_of_length_le (by omega)] at h2
     rw [decide_eq_true h2] at hR
     subst hR
     clear hE
     (refine w0 ?_;(repeat' first|refine W2.mk ?_ ?_|refine W1.mk fun hc=>?_))
     refine rt1 ?_
     exact rv_bool rfl rfl
end
end Go.Proofs.YtfcpkegmdlchhaaGreat
