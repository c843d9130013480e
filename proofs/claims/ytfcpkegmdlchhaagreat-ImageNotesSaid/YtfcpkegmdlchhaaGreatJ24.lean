/- Texts joined: KnO SrtR RgW. -/
import Derived.Test.YtfcpkegmdlchhaaGreatJ23
import Derived.Test.YtfcpkegmdlchhaaGreatJ06
import Derived.Test.YtfcpkegmdlchhaaGreatJ09
import Derived.Test.YtfcpkegmdlchhaaGreatJ15
import Derived.Test.YtfcpkegmdlchhaaGreatJ21
set_option maxRecDepth 10000
set_option maxHeartbeats 8000000
namespace Go.Proofs.YtfcpkegmdlchhaaGreat
open Go.RowKit
/-! ### sizes -/
theorem setFrom_sz {M:Nat}:∀ (T:List (List Rn)) (i:Nat),(∀ l ∈ T,l.length ≤ M) → (setFrom ofR i T).length ≤ T.length ∧ ((setFrom ofR i T).flatMap Kn.runs).length ≤ T.length * M:=by
 intro T
 induction T with
 | nil=>intro i _;simp [setFrom]
 | cons l T ih=>
   intro i h
   have h1:=ih (i + 1) (fun x hx=>h x (List.mem_cons_of_mem _ hx))
   have h2:=h l (by simp)
   have h3:=ofR_len l
   rw [setFrom,List.flatMap_append,List.length_append,List.length_append,List.length_cons,Nat.add_mul,Nat.one_mul]
   split
   · simp only [List.length_nil,List.flatMap_nil];omega
   · simp only [List.length_cons,List.length_nil,List.flatMap_cons,List.flatMap_nil,List.append_nil];omega
theorem vsOf_sz {X:List Kn} {M:Nat} (h:(X.flatMap Kn.runs).length ≤ M):(vsOf ofR X).length ≤ 16 ∧ ((vsOf ofR X).flatMap Kn.runs).length ≤ 16 * M:=by
 have:=setFrom_sz (M:=M) (tabOf X) 0 (fun l hl=>by
   obtain ⟨r,_,rfl⟩:=List.mem_map.1 hl
   have:=tabAt_len X r
   omega)
 rw [tabOf_len] at this
 exact this
theorem atK_sz {k:List Pc} (hk:pcsMid k) (s:ByteArray):(atK k s).length ≤ 16 ∧ ((atK k s).flatMap Kn.runs).length ≤ 16000000:=by
 have h1:=flat_sub_len Kn.runs (flat_sub (hasF_sub s) k)
 have:=vsOf_sz (X:=k.flatMap (hasF s)) (M:=1000000) (by have:=hk.2.2;omega)
 exact this
section
theorem kn_clone (k:List Pc) (hk:pcsOk k) (hm:pcsSz k):Fn Tryz.prog 164 [pcsB k] (ownPc k):=by
 have hl:=hm.1
 refine fi Tryz.func164 Tryz.ntmps164 ?_
 (refine w0 ?_;(repeat' first|refine W2.mk ?_ ?_|refine W1.mk fun hc=>?_))
 refine AW_le (Le_nil 3 700 117 4 rfl rfl) ?_
 refine AW_loopP (X:=Nat) (fun z=>z ≤ k.length)
   (fun z=>mkSt [(3,.row 700 0),(6,pcsB k),(7,iC .i64 (k.length:Nat)),(8,iC .i64 ((z:Nat):Int))] [(700,pcsW (k.take z))]) (fun z=>k.length - z) 0 (Nat.zero_le _) ?_ ?_
 · exact le_auto
 · intro z hz
   by_cases hlt:z < k.length
   · have hset:=(hk z hlt hlt).2.2.1
     have htot:knsTot k[z].set:=hm.2 _ (List.getElem_mem hlt)
     have c1:=(vs_Of_ok k[z].set htot hset).frz
     have hsn:k.take (z + 1) = k.take z ++ [k[z]]:=by rw [List.take_succ_eq_append_getElem hlt]
     have hlk:(k.take z).length ≤ z:=by rw [List.length_take];omega
     generalize k.take z = A at *
     clear hk hm
     (have kc1:=c1;refine w0 ?_;(repeat' first|refine W2.mk ?_ ?_|refine W1.mk fun hc=>?_);all_goals clear kc1)
     refine ⟨z + 1,hlt,by omega,Le_trans (Le_mv 700 701) (Le_trans (Le_mv 701 700) ?_)⟩
     rw [hsn]
     exact le_auto
   · rw [List.take_of_length_le (show k.length ≤ z by omega)]
     (refine w0 ?_;(repeat' first|refine W2.mk ?_ ?_|refine W1.mk fun hc=>?_))
     refine rt1 ?_
     exact rv_own rfl rfl rfl
theorem pcsMid_sz {k:List Pc} (h:pcsMid k):pcsSz k:=⟨by have:=h.1;omega,fun p hp=>by
 have h1:=mem_flat_len2 Pc.set hp
 have h2:=flat_sub_len Kn.runs (a:=p.set) (b:=k.flatMap Pc.set) (by
   clear h1 h
   induction k with
   | nil=>cases hp
   | cons q k ih=>
     rw [List.flatMap_cons]
     rcases List.mem_cons.1 hp with rfl|h
     · exact List.sublist_append_left _ _
     · exact (ih h).trans (List.sublist_append_right _ _))
 have h3:=h.2
 exact ⟨by omega,by omega⟩⟩
theorem kn_Of_ok (k:List Pc) (hok:pcsOk k) (hk:pcsSz k):Fn Tryz.prog 118 [pcsC k] (ownPc k):=by
 have h0:=know_Right k hk true (by simp [hok])
 have h1:=kn_clone k hok hk
 clear hok hk
 refine fi Tryz.func118 Tryz.ntmps118 ?_
 (have kc1:=h0;have kc2:=h1;refine w0 ?_;(repeat' first|refine W2.mk ?_ ?_|refine W1.mk fun hc=>?_);all_goals clear kc2 kc1)
 refine rt1 ?_
 exact rv_own rfl rfl rfl
end
section
end
abbrev cmpCR:Cnt:=.per (rawP (.func (.func 167) #[] #[]))
abbrev itsWR (l:List Rg):Blk:=.row 114 3 (l.map rgP)
section
end

section
variable {P:Program} {n:Nat} {ops:Array Oper} {o:Oper} {S:St} {t:Nat}
end
section
end
abbrev ownRg (l:List Rg):Ret:=.own 114 3 (l.map rgP)
theorem ofS_take {Q:List Rg} {k:Nat} (hk:k < Q.length):rgOfS (Q.take (k + 1)) = ofF (rgOfS (Q.take k)) Q[k]:=by
 unfold rgOfS;rw [List.take_succ_eq_append_getElem hk,List.foldl_append];rfl
theorem ofS_right {Q:List Rg} (hR:∀ r ∈ Q,rgR r = true) (hS:Q.Pairwise (fun x y=>x.lo ≤ y.lo)) (k:Nat):∀ r ∈ rgOfS (Q.take k),rgR r = true:=by
 intro r hr
 have h:=(rgOfS_ok (L:=Q.take k) (fun x hx=>hR x (List.mem_of_mem_take hx)) (hS.sublist (List.take_sublist _ _))).1
 obtain ⟨i,hi,rfl⟩:=List.getElem_of_mem hr
 exact (h i hi).1
theorem ofS_len (Q:List Rg) (k:Nat):(rgOfS (Q.take k)).length ≤ k:=by
 have h:=of_len (Q.take k) []
 rw [List.length_take] at h
 simp only [List.length_nil] at h
 unfold rgOfS
 omega
section
theorem rgs_OfG (l Q:List Rg) (hs:FnM Tryz.prog 166 [.row 1000 0,cmpCR] [(1000,itsWR (l.filter rgR))] .any [(1000,itsWR Q)]) (hql:Q.length = (l.filter rgR).length)
   (hQr:∀ x ∈ Q,rgR x = true) (hQs:Q.Pairwise fun x y=>x.lo ≤ y.lo) (hn:l.length ≤ 1000000000):Fn Tryz.prog 120 [rgsB l] (ownRg (rgOfS Q)):=by
 generalize hT:l.filter rgR = T at *
 have hTl:T.length ≤ 1000000000:=by rw [← hT];exact Nat.le_trans (List.length_filter_le _ _) hn
 generalize hR:rgOfS Q = R
 refine fi Tryz.func120 Tryz.ntmps120 ?_
 (refine w0 ?_;(repeat' first|refine W2.mk ?_ ?_|refine W1.mk fun hc=>?_))
 refine AW_le (Le_nil 3 600 114 3 rfl rfl) ?_
 refine AW_loopP (X:=Nat × List Rg) (fun x=>x.1 ≤ l.length ∧ x.2 ++ (l.drop x.1).filter rgR = T)
   (fun x=>mkSt [(3,.row 600 0),(10,rgsB l),(11,iC .i64 (l.length:Nat)),(12,iC .i64 (x.1:Nat))] [(600,itsWR x.2)]) (fun x=>l.length - x.1) (0,[]) ⟨Nat.zero_le _,by simp [hT]⟩ ?_ ?_
 · exact le_auto
 · rintro ⟨k,ac⟩ ⟨g1,g2⟩
   simp only at g1 g2 ⊢
   by_cases hk:k < l.length
   · have hir:=span_Right l[k]
     have hlen:ac.length ≤ 1000000000:=by
       have:=congrArg List.length g2
       simp only [List.length_append] at this;omega
     rw [List.drop_eq_getElem_cons hk,List.filter_cons] at g2
     cases hr:rgR l[k] with
     | false=>
       rw [hr] at hir g2
       (have kc1:=hir;refine w0 ?_;(repeat' first|refine W2.mk ?_ ?_|refine W1.mk fun hc=>?_);all_goals clear kc1)
       refine ⟨(k + 1,ac),⟨by simp only;omega,by simpa using g2⟩,by simp only;omega,?_⟩
       exact le_auto
     | true=>
       rw [hr] at hir g2
       (have kc1:=hir;refine w0 ?_;(repeat' first|refine W2.mk ?_ ?_|refine W1.mk fun hc=>?_);all_goals clear kc1)
       refine ⟨(k + 1,ac ++ [l[k]]),⟨by simp only;omega,by simpa using g2⟩,by simp only;omega,Le_trans (Le_mv 600 601) (Le_trans (Le_mv 601 600) ?_)⟩
       exact le_auto
   · have hkl:k = l.length:=by omega
     subst hkl
     rw [List.drop_length] at g2
     simp at g2
     subst g2
     (have km1:=(show FnMs [(1000,600)] _ _ _ _ _ _ from hs);refine w0 ?_;(repeat' first|refine W2.mk ?_ ?_|refine W1.mk fun hc=>?_);all_goals clear km1)
     clear hs hT
     refine AW_le (Le_nil 6 700 114 3 rfl rfl) ?_
     refine AW_loopP (X:=Nat × List Rg) (fun x=>x.1 ≤ Q.length ∧ x.2 = rgOfS (Q.take x.1))
       (fun x=>mkSt [(6,.row 700 0),(25,.row 600 0),(26,iC .i64 (Q.length:Nat)),(27,iC .i64 (x.1:Nat))] [(600,itsWR Q),(700,itsWR x.2)]) (fun x=>Q.length - x.1) (0,[]) ⟨Nat.zero_le _,rfl⟩ ?_ ?_
     · exact le_auto
     · rintro ⟨k,out⟩ ⟨g1,g2⟩
       simp only at g1 g2 ⊢
       by_cases hk:k < Q.length
       · have hol:out.length ≤ 1000000000:=by have:=ofS_len Q k;rw [← g2] at this;omega
         have hor:=ofS_right hQr hQs k
         rw [← g2] at hor
         have g3:=ofS_take hk
         rw [← g2] at g3
         have hxr:=hQr _ (List.getElem_mem hk)
         generalize hx:Q[k] = x at *
         have HQ:(Q.map rgP)[k]? = some (rgP x):=by rw [List.getElem?_map,List.getElem?_eq_getElem hk,hx];rfl
         clear hQr hQs hx g2
         rcases snoc_cases out with rfl|⟨o,y,rfl⟩
         · have g4:[x] = rgOfS (Q.take (k + 1)):=by rw [g3];rfl
           (refine w0 ?_;(repeat' (first|refine W2.mk ?_ ?_|refine W1.mk fun hc=>?_|((first|apply AL_t rfl|apply AL_0 rfl|apply AD_t rfl|apply AD_0 rfl);(focus (first|((apply u_k 5;(focus rfl);exact u_load_rA ⟨rfl,rfl,rfl⟩ rfl inferInstance inferInstance rfl rfl rfl HQ rfl rfl rfl))|(apply u_g;(focus rfl);apply op_gyes rfl rfl rfl rfl rfl;first|((apply u_k 5;(focus rfl);exact u_load_rA ⟨rfl,rfl,rfl⟩ rfl inferInstance inferInstance rfl rfl rfl HQ rfl rfl rfl)))));refine w0 ?_))))
           refine ⟨(k + 1,[x]),⟨by simp only;omega,g4⟩,by simp only;omega,Le_trans (Le_mv 700 701) (Le_trans (Le_mv 701 700) ?_)⟩
           exact le_auto
         · have hyr:=hor y (by simp)
           clear hor
           have hG:rgOfS (Q.take (k + 1)) = (if y.op = false ∧ cmpB y.hi x.lo < 0 then (o ++ [y]) ++ [x] else if endR y x < 0 then o ++ [⟨y.lo,x.hi,x.op⟩] else o ++ [y]):=by
             rw [g3,ofF]
             simp only [List.reverse_append,List.reverse_cons,List.reverse_nil,List.nil_append,List.singleton_append,List.reverse_reverse]
           clear g3
           have hcm:=key_Cmp y.hi x.lo (by have:=((rgR_iff y).1 hyr).2.1;omega)
           have hen:=span_Ends y x hyr hxr
           clear hyr hxr
           have hL1:(o ++ [y]).length = o.length + 1:=by simp
           generalize hL:o ++ [y] = L at *
           have hLi:((L.length:Int) - 1).toNat = o.length:=by omega
           have HY:(L.map rgP)[((L.length:Int) - 1).toNat]? = some (rgP y):=by
             rw [List.getElem?_map,hLi,← hL]
             simp
           have HS1:(L.map rgP).set ((L.length:Int) - 1).toNat (setP (rgP y) 1 [rawP (.string x.hi)]) = (o ++ [(⟨y.lo,x.hi,y.op⟩:Rg)]).map rgP:=by
             rw [show (L.map rgP).set ((L.length:Int) - 1).toNat (setP (rgP y) 1 [rawP (.string x.hi)]) = (L.set ((L.length:Int) - 1).toNat ⟨y.lo,x.hi,y.op⟩).map rgP from map_set' rgP L _ (⟨y.lo,x.hi,y.op⟩:Rg),← hL,set_at o y _ [] _ (by rw [hL];omega)]
           have HY2:((o ++ [(⟨y.lo,x.hi,y.op⟩:Rg)]).map rgP)[((L.length:Int) - 1).toNat]? = some (rgP ⟨y.lo,x.hi,y.op⟩):=by
             rw [List.getElem?_map,hLi]
             simp
           have HS2:((o ++ [(⟨y.lo,x.hi,y.op⟩:Rg)]).map rgP).set ((L.length:Int) - 1).toNat (setP (rgP ⟨y.lo,x.hi,y.op⟩) 2 [rawP (.bool x.op)]) = (o ++ [(⟨y.lo,x.hi,x.op⟩:Rg)]).map rgP:=by
             rw [show ((o ++ [(⟨y.lo,x.hi,y.op⟩:Rg)]).map rgP).set ((L.length:Int) - 1).toNat (setP (rgP ⟨y.lo,x.hi,y.op⟩) 2 [rawP (.bool x.op)]) = ((o ++ [(⟨y.lo,x.hi,y.op⟩:Rg)]).set ((L.length:Int) - 1).toNat ⟨y.lo,x.hi,x.op⟩).map rgP from map_set' rgP (o ++ [(⟨y.lo,x.hi,y.op⟩:Rg)]) _ (⟨y.lo,x.hi,x.op⟩:Rg),set_at o _ _ [] _ (by omega)]
           generalize hE:endR y x = E at *
           generalize hC:cmpB y.hi x.lo = C at *
           cases hyo:y.op with
           | true=>
             rw [hyo,if_neg (by simp)] at hG
             have HYt:(L.map rgP)[((L.length:Int) - 1).toNat]? = some [rawP (.string y.lo),rawP (.string y.hi),rawP (.bool true)]:=by rw [HY];simp only [rgP,hyo]
             (have kc1:=hcm;have kc2:=hen;refine w0 ?_;(repeat' (first|refine W2.mk ?_ ?_|refine W1.mk fun hc=>?_|((first|apply AL_t rfl|apply AL_0 rfl|apply AD_t rfl|apply AD_0 rfl);(focus (first|((apply u_k 5;(focus rfl);first|exact u_load_r1 ⟨rfl,rfl,rfl⟩ rfl inferInstance rfl rfl rfl HYt rfl|exact u_load_rA ⟨rfl,rfl,rfl⟩ rfl inferInstance inferInstance rfl rfl rfl HY rfl rfl rfl|exact u_load_rA ⟨rfl,rfl,rfl⟩ rfl inferInstance inferInstance rfl rfl rfl HQ rfl rfl rfl))|((apply u_k 6;(focus rfl);first|exact u_store_r ⟨rfl,rfl⟩ rfl inferInstance rfl rfl rfl rfl HY rfl (part_raw rfl rfl rfl) rfl HS1|exact u_store_r ⟨rfl,rfl⟩ rfl inferInstance rfl rfl rfl rfl HY2 rfl (part_raw rfl rfl rfl) rfl HS2))|(apply u_g;(focus rfl);apply op_gyes rfl rfl rfl rfl rfl;first|((apply u_k 5;(focus rfl);first|exact u_load_r1 ⟨rfl,rfl,rfl⟩ rfl inferInstance rfl rfl rfl HYt rfl|exact u_load_rA ⟨rfl,rfl,rfl⟩ rfl inferInstance inferInstance rfl rfl rfl HY rfl rfl rfl|exact u_load_rA ⟨rfl,rfl,rfl⟩ rfl inferInstance inferInstance rfl rfl rfl HQ rfl rfl rfl))|((apply u_k 6;(focus rfl);first|exact u_store_r ⟨rfl,rfl⟩ rfl inferInstance rfl rfl rfl rfl HY rfl (part_raw rfl rfl rfl) rfl HS1|exact u_store_r ⟨rfl,rfl⟩ rfl inferInstance rfl rfl rfl rfl HY2 rfl (part_raw rfl rfl rfl) rfl HS2)))));refine w0 ?_)));all_goals clear kc2 kc1)
             · rw [if_pos (by omega)] at hG
               refine ⟨(k + 1,_),⟨by simp only;omega,hG.symm⟩,by simp only;omega,?_⟩
               exact le_auto
             · rw [if_neg (by omega)] at hG
               refine ⟨(k + 1,L),⟨by simp only;omega,hG.symm⟩,by simp only;omega,?_⟩
               exact le_auto
           | false=>
             rw [hyo] at hG
             have HYt:(L.map rgP)[((L.length:Int) - 1).toNat]? = some [rawP (.string y.lo),rawP (.string y.hi),rawP (.bool false)]:=by rw [HY];simp only [rgP,hyo]
             by_cases hC0:C < 0
             · rw [if_pos ⟨rfl,hC0⟩] at hG
               (have kc1:=hcm;have kc2:=hen;refine w0 ?_;(repeat' (first|refine W2.mk ?_ ?_|refine W1.mk fun hc=>?_|((first|apply AL_t rfl|apply AL_0 rfl|apply AD_t rfl|apply AD_0 rfl);(focus (first|((apply u_k 5;(focus rfl);first|exact u_load_r1 ⟨rfl,rfl,rfl⟩ rfl inferInstance rfl rfl rfl HYt rfl|exact u_load_rA ⟨rfl,rfl,rfl⟩ rfl inferInstance inferInstance rfl rfl rfl HY rfl rfl rfl|exact u_load_rA ⟨rfl,rfl,rfl⟩ rfl inferInstance inferInstance rfl rfl rfl HQ rfl rfl rfl))|((apply u_k 6;(focus rfl);first|exact u_store_r ⟨rfl,rfl⟩ rfl inferInstance rfl rfl rfl rfl HY rfl (part_raw rfl rfl rfl) rfl HS1|exact u_store_r ⟨rfl,rfl⟩ rfl inferInstance rfl rfl rfl rfl HY2 rfl (part_raw rfl rfl rfl) rfl HS2))|(apply u_g;(focus rfl);apply op_gyes rfl rfl rfl rfl rfl;first|((apply u_k 5;(focus rfl);first|exact u_load_r1 ⟨rfl,rfl,rfl⟩ rfl inferInstance rfl rfl rfl HYt rfl|exact u_load_rA ⟨rfl,rfl,rfl⟩ rfl inferInstance inferInstance rfl rfl rfl HY rfl rfl rfl|exact u_load_rA ⟨rfl,rfl,rfl⟩ rfl inferInstance inferInstance rfl rfl rfl HQ rfl rfl rfl))|((apply u_k 6;(focus rfl);first|exact u_store_r ⟨rfl,rfl⟩ rfl inferInstance rfl rfl rfl rfl HY rfl (part_raw rfl rfl rfl) rfl HS1|exact u_store_r ⟨rfl,rfl⟩ rfl inferInstance rfl rfl rfl rfl HY2 rfl (part_raw rfl rfl rfl) rfl HS2)))));refine w0 ?_)));all_goals clear kc2 kc1)
               refine ⟨(k + 1,L ++ [x]),⟨by simp only;omega,hG.symm⟩,by simp only;omega,Le_trans (Le_mv 700 701) (Le_trans (Le_mv 701 700) ?_)⟩
               exact le_auto
             · rw [if_neg (fun h=>hC0 h.2)] at hG
               (have kc1:=hcm;have kc2:=hen;refine w0 ?_;(repeat' (first|refine W2.mk ?_ ?_|refine W1.mk fun hc=>?_|((first|apply AL_t rfl|apply AL_0 rfl|apply AD_t rfl|apply AD_0 rfl);(focus (first|((apply u_k 5;(focus rfl);first|exact u_load_r1 ⟨rfl,rfl,rfl⟩ rfl inferInstance rfl rfl rfl HYt rfl|exact u_load_rA ⟨rfl,rfl,rfl⟩ rfl inferInstance inferInstance rfl rfl rfl HY rfl rfl rfl|exact u_load_rA ⟨rfl,rfl,rfl⟩ rfl inferInstance inferInstance rfl rfl rfl HQ rfl rfl rfl))|((apply u_k 6;(focus rfl);first|exact u_store_r ⟨rfl,rfl⟩ rfl inferInstance rfl rfl rfl rfl HY rfl (part_raw rfl rfl rfl) rfl HS1|exact u_store_r ⟨rfl,rfl⟩ rfl inferInstance rfl rfl rfl rfl HY2 rfl (part_raw rfl rfl rfl) rfl HS2))|(apply u_g;(focus rfl);apply op_gyes rfl rfl rfl rfl rfl;first|((apply u_k 5;(focus rfl);first|exact u_load_r1 ⟨rfl,rfl,rfl⟩ rfl inferInstance rfl rfl rfl HYt rfl|exact u_load_rA ⟨rfl,rfl,rfl⟩ rfl inferInstance inferInstance rfl rfl rfl HY rfl rfl rfl|exact u_load_rA ⟨rfl,rfl,rfl⟩ rfl inferInstance inferInstance rfl rfl rfl HQ rfl rfl rfl))|((apply u_k 6;(focus rfl);first|exact u_store_r ⟨rfl,rfl⟩ rfl inferInstance rfl rfl rfl rfl HY rfl (part_raw rfl rfl rfl) rfl HS1|exact u_store_r ⟨rfl,rfl⟩ rfl inferInstance rfl rfl rfl rfl HY2 rfl (part_raw rfl rfl rfl) rfl HS2)))));refine w0 ?_)));all_goals clear kc2 kc1)
               · rw [if_pos (by omega)] at hG
                 refine ⟨(k + 1,_),⟨by simp only;omega,hG.symm⟩,by simp only;omega,?_⟩
                 exact le_auto
               · rw [if_neg (by omega)] at hG
                 refine ⟨(k + 1,L),⟨by simp only;omega,hG.symm⟩,by simp only;omega,?_⟩
                 exact le_auto
       · have hkl:k = Q.length:=by omega
         subst hkl
         have g3:out = R:=by rw [g2,List.take_length];exact hR
         (refine w0 ?_;(repeat' first|refine W2.mk ?_ ?_|refine W1.mk fun hc=>?_))
         refine rt1 ?_
         exact rv_ownM rfl rfl rfl (by rw [g3])
theorem rgs_find (l:List Rg) (s:ByteArray) (hs:s.size ≤ 1000000000) (hl:l.length ≤ 1000000000) (p:Nat) (hp:p ≤ l.length) (hlt:∀ j (hj:j < l.length),((l[j].op = true ∨ s < l[j].hi) ↔ p ≤ j)) :
   Fn Tryz.prog 128 [.per (rgsP l),sC s] (inR (p:Nat)):=by
 refine fi Tryz.func128 Tryz.ntmps128 ?_
 (refine w0 ?_;(repeat' first|refine W2.mk ?_ ?_|refine W1.mk fun hc=>?_))
 refine AW_loopP (X:=Nat × Nat) (fun z=>z.1 ≤ p ∧ p ≤ z.2 ∧ z.2 ≤ l.length)
   (fun z=>mkSt [(0,.per (rgsP l)),(1,sC s),(5,iC .i64 (z.1:Nat)),(6,iC .i64 (z.2:Nat))] []) (fun z=>z.2 - z.1) (0,l.length) ⟨Nat.zero_le _,hp,Nat.le_refl _⟩ ?_ ?_
 · exact le_auto
 · rintro ⟨i,j⟩ ⟨h1,h2,h3⟩
   simp only at h1 h2 h3 ⊢
   by_cases hij:i < j
   · obtain ⟨h,hh'⟩:∃ h:Nat,(i:Int) + ((j:Int) - (i:Int)) / 2 = (h:Nat):=⟨i + (j - i) / 2,by omega⟩
     have hih:i ≤ h:=by omega
     have hhj:h < j:=by omega
     have hlt':=hlt h (by omega)
     have hmm:=key_Cmp s l[h].hi (by omega)
     clear hlt
     cases ho:l[h].op with
     | true=>
       rw [ho] at hlt'
       have:=hlt'.1 (.inl rfl)
       clear hlt'
       (have ke1:=Lib.hid (hh');have kc1:=hmm;refine w0e ?_;(repeat' first|refine W2.mk ?_ ?_|refine W1.mk fun hc=>?_);all_goals clear kc1 ke1)
       all_goals first|(exfalso;simp_all;done)|skip
       refine ⟨(i,h),⟨h1,by simp only;omega,by simp only;omega⟩,by simp only;omega,?_⟩
       exact le_auto
     | false=>
       rw [ho] at hlt'
       have hq:cmpB s l[h].hi < 0 ↔ p ≤ h:=by rw [← hlt',o_lt];simp
       clear hlt'
       (have ke1:=Lib.hid (hh');have kc1:=hmm;refine w0e ?_;(repeat' first|refine W2.mk ?_ ?_|refine W1.mk fun hc=>?_);all_goals clear kc1 ke1)
       all_goals first|(exfalso;simp_all;done)|skip
       · refine ⟨(i,h),⟨h1,by simp only;omega,by simp only;omega⟩,by simp only;omega,?_⟩
         exact le_auto
       · refine ⟨(h + 1,j),⟨by simp only;omega,h2,h3⟩,by simp only;omega,?_⟩
         exact le_auto
   · obtain rfl:i = p:=by omega
     (refine w0 ?_;(repeat' first|refine W2.mk ?_ ?_|refine W1.mk fun hc=>?_))
     refine rt1 ?_
     exact rv_int rfl rfl
end
end Go.Proofs.YtfcpkegmdlchhaaGreat
