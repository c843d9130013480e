/- Texts joined: Rcn Rcm Rset StH. -/
import Derived.Test.YtembiemaiacdfaaGreatJ15
import Derived.Test.YtembiemaiacdfaaGreatJ05
import Derived.Test.YtembiemaiacdfaaGreatJ17
import Derived.Test.YtembiemaiacdfaaGreatJ24
import Derived.Test.YtembiemaiacdfaaGreatJ20
import Derived.Test.YtembiemaiacdfaaGreatJ23
import Derived.Test.YtembiemaiacdfaaGreatJ18
set_option maxRecDepth 10000
set_option maxHeartbeats 8000000
namespace Go.Proofs.YtembiemaiacdfaaGreat
open Go.RowKit
theorem putN_at:∀ (l:List Int) (n:Int) (k:Nat),k ≤ l.length → (∀ j (h:j < l.length),j < k → l[j] < n) → (∀ h:k < l.length,¬ l[k] < n) →
   ((∃ h:k < l.length,l[k] = n) → putN l n = l) ∧ ((¬ ∃ h:k < l.length,l[k] = n) → putN l n = l.take k ++ n :: l.drop k):=by
 intro l
 induction l with
 | nil=>
   intro n k hk _ _
   obtain rfl:k = 0:=by simpa using hk
   exact ⟨fun ⟨h,_⟩=>by simp at h,fun _=>rfl⟩
 | cons x l ih=>
   intro n k hk h1 h2
   cases k with
   | zero=>
     have:=h2 (by simp)
     simp only [List.getElem_cons_zero] at this
     rw [putN,if_neg this]
     refine ⟨fun ⟨_,e⟩=>?_,fun e=>?_⟩
     · simp only [List.getElem_cons_zero] at e
       rw [if_pos e]
     · rw [if_neg (fun q=>e ⟨by simp,by simpa using q⟩)]
       rfl
   | succ k=>
     have h3:=h1 0 (by simp) (by omega)
     simp only [List.getElem_cons_zero] at h3
     have:=ih n k (by simpa using hk) (fun j hj hjk=>by have:=h1 (j + 1) (by simpa using hj) (by omega);simpa using this) (fun h=>by have:=h2 (by simpa using h);simpa using this)
     rw [putN,if_pos h3]
     refine ⟨fun ⟨h,e⟩=>?_,fun e=>?_⟩
     · rw [this.1 ⟨by simpa using h,by simpa using e⟩]
     · rw [this.2 (fun ⟨h,q⟩=>e ⟨by simpa using h,by simpa using q⟩)]
       rfl
section
variable {P:Program} {n:Nat} {S:St}
theorem rv_lstE {t k:Nat} {es es':List (List PV)} (h:S.get t = .per (lstP k es)) (e:es = es'):ResVarOk P n S (.tmp t) (.per (lstP k es')):=rv_per (e ▸ h)
end
abbrev inP (n:Int):List PV:=[rawP (.int .i64 n)]
abbrev intsP (l:List Int):PV:=lstP 1 (l.map inP)
abbrev intsC (l:List Int):Cnt:=.per (intsP l)
section
theorem rcnt_put (l:List Int) (n:Int) (hl:l.length ≤ 1000000000):Fn Tryz.prog 246 [intsC l,iC .i64 n] (.per (intsP (putN l n))):=by
 generalize hR:putN l n = R
 refine fi Tryz.func246 Tryz.ntmps246 ?_
 (refine w0 ?_;(repeat' first|refine W2.mk ?_ ?_|refine W1.mk fun hc=>?_))
 refine AW_loopP (X:=Nat) (fun k=>k ≤ l.length ∧ ∀ j (h:j < l.length),j < k → l[j] < n)
   (fun k=>mkSt [(0,intsC l),(1,iC .i64 n),(5,iC .i64 ((k:Nat):Int))] []) (fun k=>l.length - k) 0 ⟨Nat.zero_le _,fun j _ h=>by omega⟩ ?_ ?_
 · exact le_auto
 · rintro k ⟨h1,h2⟩
   by_cases hgo:∃ h:k < l.length,l[k] < n
   · obtain ⟨hk,hlt⟩:=hgo
     have h2':∀ j (h:j < l.length),j < k + 1 → l[j] < n:=fun j h hj=>by
       rcases Nat.lt_or_ge j k with q|q
       · exact h2 j h q
       · obtain rfl:j = k:=by omega
         exact hlt
     clear hR h2
     (refine w0 ?_;(repeat' first|refine W2.mk ?_ ?_|refine W1.mk fun hc=>?_))
     refine ⟨k + 1,⟨hk,h2'⟩,by omega,?_⟩
     exact le_auto
   · have hP:=putN_at l n k h1 h2 (fun h q=>hgo ⟨h,q⟩)
     clear h2
     by_cases hk:k < l.length
     · have hge:¬ l[k] < n:=fun q=>hgo ⟨hk,q⟩
       by_cases he:l[k] = n
       · have hR':l = R:=by rw [← hR,hP.1 ⟨hk,he⟩]
         clear hR hP hgo
         (refine w0 ?_;(repeat' first|refine W2.mk ?_ ?_|refine W1.mk fun hc=>?_))
         refine rt1 ?_
         exact rv_lstM rfl hR'
       · have hR':l.take k ++ n :: l.drop k = R:=by rw [← hR,hP.2 (fun ⟨_,q⟩=>he q)]
         clear hR hP hgo
         (refine w0 ?_;(repeat' first|refine W2.mk ?_ ?_|refine W1.mk fun hc=>?_))
         refine AL_le (Le_nil 34 700 3 1 rfl rfl) ?_
         (refine w0 ?_;(repeat' first|refine W2.mk ?_ ?_|refine W1.mk fun hc=>?_))
         refine ⟨.inl rfl,ResO_le (Le_fz 700 _ 3 1 rfl rfl) (res1 rfl (rv_lstE rfl (by rw [← hR'];simp [List.map_take,List.map_drop];rfl)))⟩
     · have hR':l.take k ++ n :: l.drop k = R:=by rw [← hR,hP.2 (fun ⟨q,_⟩=>hk q)]
       clear hR hP hgo
       (refine w0 ?_;(repeat' first|refine W2.mk ?_ ?_|refine W1.mk fun hc=>?_))
       refine AL_le (Le_nil 34 700 3 1 rfl rfl) ?_
       (refine w0 ?_;(repeat' first|refine W2.mk ?_ ?_|refine W1.mk fun hc=>?_))
       refine ⟨.inl rfl,ResO_le (Le_fz 700 _ 3 1 rfl rfl) (res1 rfl (rv_lstE rfl (by rw [← hR'];simp [List.map_take,List.map_drop];rfl)))⟩
theorem putN_len:∀ (l:List Int) (n:Int),(putN l n).length ≤ l.length + 1:=by
 intro l
 induction l with
 | nil=>intro n;simp [putN]
 | cons x l ih=>
   intro n
   rw [putN]
   split
   · have:=ih n;simp;omega
   · split <;> simp
theorem edgR_snoc (e:List Int) (l:List Rn) (k:Nat) (h:k < l.length):edgR e (l.take (k + 1)) = edg1 (edgR e (l.take k)) l[k]:=by
 unfold edgR
 rw [List.take_succ_eq_append_getElem h,List.foldl_append]
 rfl
theorem edgR_take_len (e:List Int) (l:List Rn) (k:Nat):(edgR e (l.take k)).length ≤ e.length + 2 * l.length:=by
 have h:=edgR_len (l.take k) e
 rw [List.length_take] at h
 omega
theorem rcnt_Edges (a b:List Rn) (ha:a.length ≤ 100000000) (hb:b.length ≤ 100000000):Fn Tryz.prog 208 [rnsB a,rnsB b] (.per (intsP (edgR (edgR [] a) b))):=by
 have lA:=edgR_len a []
 simp only [List.length_nil,Nat.zero_add] at lA
 generalize hR:edgR (edgR [] a) b = R
 refine fi Tryz.func208 Tryz.ntmps208 ?_
 (refine w0 ?_;(repeat' first|refine W2.mk ?_ ?_|refine W1.mk fun hc=>?_))
 refine AW_le (Le_nil 5 700 3 1 rfl rfl) (AW_le (Le_fz 700 _ 3 1 rfl rfl) ?_)
 refine AW_loopP (X:=Nat) (fun k=>k ≤ a.length)
   (fun k=>mkSt [(0,rnsB a),(1,rnsB b),(5,intsC (edgR [] (a.take k))),(6,iC .i64 ((k:Nat):Int))] []) (fun k=>a.length - k) 0 (Nat.zero_le _) ?_ ?_
 · exact le_auto
 · intro k hk
   by_cases hlt:k < a.length
   · have hs:=edgR_snoc [] a k hlt
     have hlen:=edgR_take_len [] a k
     simp only [List.length_nil,Nat.zero_add] at hlen
     have c0:=rcnt_One a[k]
     generalize edgR [] (a.take k) = E at *
     clear hR
     cases hr:rnR a[k] with
     | true=>
       have hi:=(rnR_iff _).1 hr
       rw [hr] at c0
       have c1:=rcnt_put E a[k].fr (by omega)
       have hp:=putN_len E a[k].fr
       have c2:=rcnt_put (putN E a[k].fr) (a[k].to + 1) (by omega)
       rw [edg1,if_pos hr] at hs
       generalize putN E a[k].fr = E1 at *
       generalize putN E1 (a[k].to + 1) = E2 at *
       (have kc1:=c0;have kf1:=c1;have kf2:=c2;refine w0 ?_;(repeat' first|refine W2.mk ?_ ?_|refine W1.mk fun hc=>?_);all_goals clear kf2 kf1 kc1)
       refine ⟨k + 1,hlt,by omega,?_⟩
       rw [hs]
       exact le_auto
     | false=>
       rw [hr] at c0
       rw [edg1,if_neg (by simp [hr])] at hs
       (have kc1:=c0;refine w0 ?_;(repeat' first|refine W2.mk ?_ ?_|refine W1.mk fun hc=>?_);all_goals clear kc1)
       refine ⟨k + 1,hlt,by omega,?_⟩
       rw [hs]
       exact le_auto
   · rw [List.take_of_length_le (show a.length ≤ k by omega)]
     generalize edgR [] a = E0 at *
     (refine w0 ?_;(repeat' first|refine W2.mk ?_ ?_|refine W1.mk fun hc=>?_))
     refine AW_loopP (X:=Nat) (fun k=>k ≤ b.length)
       (fun k=>mkSt [(1,rnsB b),(5,intsC (edgR E0 (b.take k))),(7,iC .i64 ((k:Nat):Int))] []) (fun k=>b.length - k) 0 (Nat.zero_le _) ?_ ?_
     · exact le_auto
     · clear hlt hk
       intro k hk
       by_cases hlt:k < b.length
       · have hs:=edgR_snoc E0 b k hlt
         have hlen:=edgR_take_len E0 b k
         have c0:=rcnt_One b[k]
         generalize edgR E0 (b.take k) = E at *
         clear hR
         cases hr:rnR b[k] with
         | true=>
           have hi:=(rnR_iff _).1 hr
           rw [hr] at c0
           have c1:=rcnt_put E b[k].fr (by omega)
           have hp:=putN_len E b[k].fr
           have c2:=rcnt_put (putN E b[k].fr) (b[k].to + 1) (by omega)
           rw [edg1,if_pos hr] at hs
           generalize putN E b[k].fr = E1 at *
           generalize putN E1 (b[k].to + 1) = E2 at *
           (have kc1:=c0;have kf1:=c1;have kf2:=c2;refine w0 ?_;(repeat' first|refine W2.mk ?_ ?_|refine W1.mk fun hc=>?_);all_goals clear kf2 kf1 kc1)
           refine ⟨k + 1,hlt,by omega,?_⟩
           rw [hs]
           exact le_auto
         | false=>
           rw [hr] at c0
           rw [edg1,if_neg (by simp [hr])] at hs
           (have kc1:=c0;refine w0 ?_;(repeat' first|refine W2.mk ?_ ?_|refine W1.mk fun hc=>?_);all_goals clear kc1)
           refine ⟨k + 1,hlt,by omega,?_⟩
           rw [hs]
           exact le_auto
       · rw [List.take_of_length_le (show b.length ≤ k by omega),hR]
         (refine w0 ?_;(repeat' first|refine W2.mk ?_ ?_|refine W1.mk fun hc=>?_))
         refine rt1 ?_
         exact rv_lstM rfl rfl
theorem rcnt_Has (l:List Rn) (n:Int) (hl:l.length ≤ 1000000000):Fn Tryz.prog 137 [rnsB l,iC .i64 n] (boR (hasRb l n)):=by
 generalize hT:hasRb l n = T
 refine fi Tryz.func137 Tryz.ntmps137 ?_
 (refine w0 ?_;(repeat' first|refine W2.mk ?_ ?_|refine W1.mk fun hc=>?_))
 refine AW_loopP (X:=Nat) (fun i=>i ≤ l.length ∧ hasRb (l.drop i) n = T)
   (fun i=>mkSt [(0,rnsB l),(1,iC .i64 n),(5,iC .i64 ((i:Nat):Int))] []) (fun i=>l.length - i) 0 ⟨Nat.zero_le _,by simpa using hT⟩ ?_ ?_
 · exact le_auto
 · rintro i ⟨h1,h2⟩
   clear hT
   by_cases hlt:i < l.length
   · rw [List.drop_eq_getElem_cons hlt,hasRb,List.any_cons,← hasRb] at h2
     have c0:=rcnt_One l[i]
     cases hr:rnR l[i] with
     | true=>
       rw [hr] at c0
       rw [hr,Bool.true_and] at h2
       by_cases c1:l[i].fr ≤ n
       · by_cases c2:n ≤ l[i].to
         · rw [decide_eq_true c1,decide_eq_true c2,Bool.true_and,Bool.true_or] at h2
           subst h2
           (have kc1:=c0;refine w0 ?_;(repeat' first|refine W2.mk ?_ ?_|refine W1.mk fun hc=>?_);all_goals clear kc1)
           refine rt1 ?_
           exact rv_bool rfl rfl
         · rw [decide_eq_true c1,decide_eq_false c2,Bool.true_and,Bool.false_or] at h2
           (have kc1:=c0;refine w0 ?_;(repeat' first|refine W2.mk ?_ ?_|refine W1.mk fun hc=>?_);all_goals clear kc1)
           refine ⟨i + 1,⟨hlt,h2⟩,by omega,?_⟩
           exact le_auto
       · rw [decide_eq_false c1,Bool.false_and,Bool.false_or] at h2
         (have kc1:=c0;refine w0 ?_;(repeat' first|refine W2.mk ?_ ?_|refine W1.mk fun hc=>?_);all_goals clear kc1)
         refine ⟨i + 1,⟨hlt,h2⟩,by omega,?_⟩
         exact le_auto
     | false=>
       rw [hr] at c0
       rw [hr,Bool.false_and,Bool.false_or] at h2
       (have kc1:=c0;refine w0 ?_;(repeat' first|refine W2.mk ?_ ?_|refine W1.mk fun hc=>?_);all_goals clear kc1)
       refine ⟨i + 1,⟨hlt,h2⟩,by omega,?_⟩
       exact le_auto
   · have h2':false = T:=by
       rw [List.drop_of_length_le (by omega)] at h2
       exact h2
     subst h2'
     clear h2
     (refine w0 ?_;(repeat' first|refine W2.mk ?_ ?_|refine W1.mk fun hc=>?_))
     refine rt1 ?_
     exact rv_bool rfl rfl
end
theorem segF_step (f:Int → Bool) {E:List Int} {i:Nat} (h:i + 1 < E.length):segF f (E.drop i) = (if f E[i] then [⟨E[i],E[i + 1] - 1⟩] else []) ++ segF f (E.drop (i + 1)):=by
 rw [List.drop_eq_getElem_cons (show i < E.length by omega),List.drop_eq_getElem_cons h,segF]
theorem segF_end (f:Int → Bool) {E:List Int} {i:Nat} (h:¬ i + 1 < E.length):segF f (E.drop i) = []:=by
 by_cases c:i < E.length
 · rw [List.drop_eq_getElem_cons c,List.drop_of_length_le (by omega)];rfl
 · rw [List.drop_of_length_le (by omega)];rfl
def orK (x y:Bool):Bool:=x || y
section
theorem rcnt_Make1 (a b:List Rn) (ha:a.length ≤ 100000000) (hb:b.length ≤ 100000000) :
   Fn Tryz.prog 184 [iC .i64 1,rnsB a,rnsB b] (ownRn (opR (byR orK a b) a b)):=by
 have hE:=rcnt_Edges a b ha hb
 have hup:upN (edgR (edgR [] a) b):=edgR_up _ _ (edgR_up _ _ List.Pairwise.nil)
 have hrg:∀ m ∈ edgR (edgR [] a) b,1 ≤ m ∧ m ≤ 1099511627777:=fun m hm=>edM_rng hm
 have hln:=edgR_len b (edgR [] a)
 have hln2:=edgR_len a []
 simp only [List.length_nil,Nat.zero_add] at hln2
 have hbE:(edgR (edgR [] a) b).length ≤ 400000000:=by omega
 clear hln hln2
 unfold opR
 have hf:∀ n,byR orK a b n = orK (hasRb a n) (hasRb b n):=fun _=>rfl
 generalize byR orK a b = f at *
 generalize edgR (edgR [] a) b = E at *
 generalize hR:mergeR (segF f E) = R
 refine fi Tryz.func184 Tryz.ntmps184 ?_
 (have kc1:=hE;refine w0 ?_;(repeat' first|refine W2.mk ?_ ?_|refine W1.mk fun hc=>?_);all_goals clear kc1)
 clear hE
 refine AW_le (Le_nil 8 700 132 2 rfl rfl) ?_
 refine AW_loopP (X:=Nat × List Rn) (fun x=>x.1 ≤ E.length ∧ x.2.length ≤ x.1 ∧ ((x.2 = [] ∧ mergeR (segF f (E.drop x.1)) = R) ∨ ∃ o y,x.2 = o ++ [y] ∧ rnR y = true ∧ (∀ h:x.1 < E.length,y.to + 1 ≤ E[x.1]) ∧ o ++ mgC y (segF f (E.drop x.1)) = R))
   (fun x=>mkSt [(0,iC .i64 1),(1,rnsB a),(2,rnsB b),(7,intsC E),(8,.row 700 0),(9,iC .i64 ((x.1:Nat):Int))] [(700,rnsW x.2)]) (fun x=>E.length - x.1) (0,[]) ⟨Nat.zero_le _,Nat.le_refl _,.inl ⟨rfl,by simpa using hR⟩⟩ ?_ ?_
 · exact le_auto
 · rintro ⟨i,out⟩ ⟨g1,g0,g2⟩
   simp only at g1 g0 g2 ⊢
   clear hR
   by_cases hk:i + 1 < E.length
   · have hi:i < E.length:=by omega
     have b1:=hrg _ (List.getElem_mem hi)
     have b2:=hrg _ (List.getElem_mem hk)
     have b3:=List.pairwise_iff_getElem.1 hup i (i + 1) hi hk (by omega)
     have hst:=segF_step f hk
     rw [hf] at hst
     have c1:=rcnt_Has a E[i] (by omega)
     have c2:=rcnt_Has b E[i] (by omega)
     clear hrg hup hf
     have hnr:rnR ⟨E[i],E[i + 1] - 1⟩ = true:=(rnR_iff _).2 (by simp only;omega)
     have hnt:∀ h:i + 1 < E.length,(⟨E[i],E[i + 1] - 1⟩:Rn).to + 1 ≤ E[i + 1]:=fun _=>by simp only;omega
     generalize segF f (E.drop i) = T0 at *
     generalize hasRb a E[i] = x at *
     generalize hasRb b E[i] = y at *
     obtain ⟨K,hK⟩:∃ K,K = orK x y:=⟨_,rfl⟩
     rw [← hK] at hst
     cases x <;> cases y <;> first
       | (have hK2:K = false:=hK
          subst hK2
          rw [if_neg Bool.false_ne_true,List.nil_append] at hst
          subst hst
          have g2':(out = [] ∧ mergeR (segF f (E.drop (i + 1))) = R) ∨ ∃ o y,out = o ++ [y] ∧ rnR y = true ∧ (∀ h:i + 1 < E.length,y.to + 1 ≤ E[i + 1]) ∧ o ++ mgC y (segF f (E.drop (i + 1))) = R:=by
            rcases g2 with g2|⟨o,y,h1,h2,h3,h4⟩
            · exact .inl g2
            · exact .inr ⟨o,y,h1,h2,fun h=>by have:=h3 hi;omega,h4⟩
          clear g2 hK
          (have ke1:=Lib.hid ((show ((i:Nat):Int) + 1 = ((i + 1:Nat):Int) by omega));have kf1:=c1;have kf2:=c2;refine w0e ?_;(repeat' first|refine W2.mk ?_ ?_|refine W1.mk fun hc=>?_);all_goals clear kf2 kf1 ke1)
          refine ⟨(i + 1,out),⟨by simp only;omega,by simp only;omega,g2'⟩,by simp only;omega,?_⟩
          exact le_auto)
       | (have hK2:K = true:=hK
          subst hK2
          rw [if_pos rfl] at hst
          subst hst
          clear hK
          rcases g2 with ⟨ho,hm⟩|⟨o,z,ho,hz,hb,hm⟩
          · subst ho
            (have ke1:=Lib.hid ((show ((i:Nat):Int) + 1 = ((i + 1:Nat):Int) by omega));have kf1:=c1;have kf2:=c2;refine w0e ?_;(repeat' first|refine W2.mk ?_ ?_|refine W1.mk fun hc=>?_);all_goals clear kf2 kf1 ke1)
            refine ⟨(i + 1,[⟨E[i],E[i + 1] - 1⟩]),⟨by simp only;omega,by simp,.inr ⟨[],_,rfl,hnr,hnt,hm⟩⟩,by simp only;omega,Le_trans (Le_mv 700 701) (Le_trans (Le_mv 701 700) ?_)⟩
            exact le_auto
          · subst ho
            have hzi:=(rnR_iff z).1 hz
            have hbz:=hb hi
            rw [show ([(⟨E[i],E[i + 1] - 1⟩:Rn)] ++ segF f (E.drop (i + 1))) = (⟨E[i],E[i + 1] - 1⟩:Rn) :: segF f (E.drop (i + 1)) from rfl,mgC] at hm
            simp only at hm
            have hL1:(o ++ [z]).length = o.length + 1:=by simp
            have hM:max z.to (E[i + 1] - 1) = E[i + 1] - 1:=by omega
            have hmr:rnR ⟨z.fr,E[i + 1] - 1⟩ = true:=(rnR_iff _).2 (by simp only;omega)
            rw [hM] at hm
            generalize hL:o ++ [z] = L at *
            have hLi:((L.length:Int) - 1).toNat = o.length:=by omega
            have HY:(L.map rnP)[((L.length:Int) - 1).toNat]? = some (rnP z):=by
              rw [List.getElem?_map,hLi,← hL]
              simp
            have HS1:(L.map rnP).set ((L.length:Int) - 1).toNat (setP (rnP z) 1 [rawP (.int .i64 (E[i + 1] - 1))]) = (o ++ [(⟨z.fr,E[i + 1] - 1⟩:Rn)]).map rnP:=by
              rw [show (L.map rnP).set ((L.length:Int) - 1).toNat (setP (rnP z) 1 [rawP (.int .i64 (E[i + 1] - 1))]) = (L.set ((L.length:Int) - 1).toNat ⟨z.fr,E[i + 1] - 1⟩).map rnP from map_set2 rnP L _ (⟨z.fr,E[i + 1] - 1⟩:Rn),← hL,set_at2 o z _ [] _ (by rw [hL];omega)]
            have hML:(o ++ [(⟨z.fr,E[i + 1] - 1⟩:Rn)]).length = L.length:=by rw [← hL];simp
            by_cases c:z.to = E[i] - 1
            · rw [if_pos (by omega)] at hm
              (have ke1:=Lib.hid ((show ((i:Nat):Int) + 1 = ((i + 1:Nat):Int) by omega));have kf1:=c1;have kf2:=c2;refine w0e ?_;(repeat' (first|refine W2.mk ?_ ?_|refine W1.mk fun hc=>?_|((first|apply AL_t rfl|apply AL_0 rfl|apply AD_t rfl|apply AD_0 rfl);(focus (first|((apply u_k 5;(focus rfl);exact u_load_r1 ⟨rfl,rfl,rfl⟩ rfl inferInstance rfl rfl rfl HY rfl))|((apply u_k 6;(focus rfl);exact u_store_r ⟨rfl,rfl⟩ rfl inferInstance rfl rfl rfl rfl HY rfl (part_raw rfl rfl rfl) rfl HS1))|(apply u_g;(focus rfl);apply op_gyes rfl rfl rfl rfl rfl;first|((apply u_k 5;(focus rfl);exact u_load_r1 ⟨rfl,rfl,rfl⟩ rfl inferInstance rfl rfl rfl HY rfl))|((apply u_k 6;(focus rfl);exact u_store_r ⟨rfl,rfl⟩ rfl inferInstance rfl rfl rfl rfl HY rfl (part_raw rfl rfl rfl) rfl HS1)))));refine w0e ?_)));all_goals clear kf2 kf1 ke1)
              refine ⟨(i + 1,_),⟨by simp only;omega,by simp only;omega,.inr ⟨o,_,rfl,hmr,fun _=>by simp only;omega,hm⟩⟩,by simp only;omega,?_⟩
              exact le_auto
            · rw [if_neg (by omega)] at hm
              (have ke1:=Lib.hid ((show ((i:Nat):Int) + 1 = ((i + 1:Nat):Int) by omega));have kf1:=c1;have kf2:=c2;refine w0e ?_;(repeat' (first|refine W2.mk ?_ ?_|refine W1.mk fun hc=>?_|((first|apply AL_t rfl|apply AL_0 rfl|apply AD_t rfl|apply AD_0 rfl);(focus (first|((apply u_k 5;(focus rfl);exact u_load_r1 ⟨rfl,rfl,rfl⟩ rfl inferInstance rfl rfl rfl HY rfl))|(apply u_g;(focus rfl);apply op_gyes rfl rfl rfl rfl rfl;first|((apply u_k 5;(focus rfl);exact u_load_r1 ⟨rfl,rfl,rfl⟩ rfl inferInstance rfl rfl rfl HY rfl)))));refine w0e ?_)));all_goals clear kf2 kf1 ke1)
              refine ⟨(i + 1,L ++ [⟨E[i],E[i + 1] - 1⟩]),⟨by simp only;omega,by simp;omega,.inr ⟨L,_,rfl,hnr,hnt,by simp only;rw [← hL,List.append_assoc];exact hm⟩⟩,by simp only;omega,Le_trans (Le_mv 700 701) (Le_trans (Le_mv 701 700) ?_)⟩
              exact le_auto)
   · have g3:out = R:=by
       rw [segF_end f hk] at g2
       rcases g2 with ⟨a,b⟩|⟨o,y,a,_,_,b⟩
       · rw [a,← b];rfl
       · rw [a,← b];rfl
     clear g2 hup hrg hf
     (refine w0 ?_;(repeat' first|refine W2.mk ?_ ?_|refine W1.mk fun hc=>?_))
     refine rt1 ?_
     exact rv_ownM rfl rfl rfl g3
theorem rcnt_Make3 (a b:List Rn) (ha:a.length ≤ 100000000) (hb:b.length ≤ 100000000) :
   Fn Tryz.prog 184 [iC .i64 3,rnsB a,rnsB b] (ownRn (opR (byR lessK a b) a b)):=by
 have hE:=rcnt_Edges a b ha hb
 have hup:upN (edgR (edgR [] a) b):=edgR_up _ _ (edgR_up _ _ List.Pairwise.nil)
 have hrg:∀ m ∈ edgR (edgR [] a) b,1 ≤ m ∧ m ≤ 1099511627777:=fun m hm=>edM_rng hm
 have hln:=edgR_len b (edgR [] a)
 have hln2:=edgR_len a []
 simp only [List.length_nil,Nat.zero_add] at hln2
 have hbE:(edgR (edgR [] a) b).length ≤ 400000000:=by omega
 clear hln hln2
 unfold opR
 have hf:∀ n,byR lessK a b n = lessK (hasRb a n) (hasRb b n):=fun _=>rfl
 generalize byR lessK a b = f at *
 generalize edgR (edgR [] a) b = E at *
 generalize hR:mergeR (segF f E) = R
 refine fi Tryz.func184 Tryz.ntmps184 ?_
 (have kc1:=hE;refine w0 ?_;(repeat' first|refine W2.mk ?_ ?_|refine W1.mk fun hc=>?_);all_goals clear kc1)
 clear hE
 refine AW_le (Le_nil 8 700 132 2 rfl rfl) ?_
 refine AW_loopP (X:=Nat × List Rn) (fun x=>x.1 ≤ E.length ∧ x.2.length ≤ x.1 ∧ ((x.2 = [] ∧ mergeR (segF f (E.drop x.1)) = R) ∨ ∃ o y,x.2 = o ++ [y] ∧ rnR y = true ∧ (∀ h:x.1 < E.length,y.to + 1 ≤ E[x.1]) ∧ o ++ mgC y (segF f (E.drop x.1)) = R))
   (fun x=>mkSt [(0,iC .i64 3),(1,rnsB a),(2,rnsB b),(7,intsC E),(8,.row 700 0),(9,iC .i64 ((x.1:Nat):Int))] [(700,rnsW x.2)]) (fun x=>E.length - x.1) (0,[]) ⟨Nat.zero_le _,Nat.le_refl _,.inl ⟨rfl,by simpa using hR⟩⟩ ?_ ?_
 · exact le_auto
 · rintro ⟨i,out⟩ ⟨g1,g0,g2⟩
   simp only at g1 g0 g2 ⊢
   clear hR
   by_cases hk:i + 1 < E.length
   · have hi:i < E.length:=by omega
     have b1:=hrg _ (List.getElem_mem hi)
     have b2:=hrg _ (List.getElem_mem hk)
     have b3:=List.pairwise_iff_getElem.1 hup i (i + 1) hi hk (by omega)
     have hst:=segF_step f hk
     rw [hf] at hst
     have c1:=rcnt_Has a E[i] (by omega)
     have c2:=rcnt_Has b E[i] (by omega)
     clear hrg hup hf
     have hnr:rnR ⟨E[i],E[i + 1] - 1⟩ = true:=(rnR_iff _).2 (by simp only;omega)
     have hnt:∀ h:i + 1 < E.length,(⟨E[i],E[i + 1] - 1⟩:Rn).to + 1 ≤ E[i + 1]:=fun _=>by simp only;omega
     generalize segF f (E.drop i) = T0 at *
     generalize hasRb a E[i] = x at *
     generalize hasRb b E[i] = y at *
     obtain ⟨K,hK⟩:∃ K,K = lessK x y:=⟨_,rfl⟩
     rw [← hK] at hst
     cases x <;> cases y <;> first
       | (have hK2:K = false:=hK
          subst hK2
          rw [if_neg Bool.false_ne_true,List.nil_append] at hst
          subst hst
          have g2':(out = [] ∧ mergeR (segF f (E.drop (i + 1))) = R) ∨ ∃ o y,out = o ++ [y] ∧ rnR y = true ∧ (∀ h:i + 1 < E.length,y.to + 1 ≤ E[i + 1]) ∧ o ++ mgC y (segF f (E.drop (i + 1))) = R:=by
            rcases g2 with g2|⟨o,y,h1,h2,h3,h4⟩
            · exact .inl g2
            · exact .inr ⟨o,y,h1,h2,fun h=>by have:=h3 hi;omega,h4⟩
          clear g2 hK
          (have ke1:=Lib.hid ((show ((i:Nat):Int) + 1 = ((i + 1:Nat):Int) by omega));have kf1:=c1;have kf2:=c2;refine w0e ?_;(repeat' first|refine W2.mk ?_ ?_|refine W1.mk fun hc=>?_);all_goals clear kf2 kf1 ke1)
          refine ⟨(i + 1,out),⟨by simp only;omega,by simp only;omega,g2'⟩,by simp only;omega,?_⟩
          exact le_auto)
       | (have hK2:K = true:=hK
          subst hK2
          rw [if_pos rfl] at hst
          subst hst
          clear hK
          rcases g2 with ⟨ho,hm⟩|⟨o,z,ho,hz,hb,hm⟩
          · subst ho
            (have ke1:=Lib.hid ((show ((i:Nat):Int) + 1 = ((i + 1:Nat):Int) by omega));have kf1:=c1;have kf2:=c2;refine w0e ?_;(repeat' first|refine W2.mk ?_ ?_|refine W1.mk fun hc=>?_);all_goals clear kf2 kf1 ke1)
            refine ⟨(i + 1,[⟨E[i],E[i + 1] - 1⟩]),⟨by simp only;omega,by simp,.inr ⟨[],_,rfl,hnr,hnt,hm⟩⟩,by simp only;omega,Le_trans (Le_mv 700 701) (Le_trans (Le_mv 701 700) ?_)⟩
            exact le_auto
          · subst ho
            have hzi:=(rnR_iff z).1 hz
            have hbz:=hb hi
            rw [show ([(⟨E[i],E[i + 1] - 1⟩:Rn)] ++ segF f (E.drop (i + 1))) = (⟨E[i],E[i + 1] - 1⟩:Rn) :: segF f (E.drop (i + 1)) from rfl,mgC] at hm
            simp only at hm
            have hL1:(o ++ [z]).length = o.length + 1:=by simp
            have hM:max z.to (E[i + 1] - 1) = E[i + 1] - 1:=by omega
            have hmr:rnR ⟨z.fr,E[i + 1] - 1⟩ = true:=(rnR_iff _).2 (by simp only;omega)
            rw [hM] at hm
            generalize hL:o ++ [z] = L at *
            have hLi:((L.length:Int) - 1).toNat = o.length:=by omega
            have HY:(L.map rnP)[((L.length:Int) - 1).toNat]? = some (rnP z):=by
              rw [List.getElem?_map,hLi,← hL]
              simp
            have HS1:(L.map rnP).set ((L.length:Int) - 1).toNat (setP (rnP z) 1 [rawP (.int .i64 (E[i + 1] - 1))]) = (o ++ [(⟨z.fr,E[i + 1] - 1⟩:Rn)]).map rnP:=by
              rw [show (L.map rnP).set ((L.length:Int) - 1).toNat (setP (rnP z) 1 [rawP (.int .i64 (E[i + 1] - 1))]) = (L.set ((L.length:Int) - 1).toNat ⟨z.fr,E[i + 1] - 1⟩).map rnP from map_set2 rnP L _ (⟨z.fr,E[i + 1] - 1⟩:Rn),← hL,set_at2 o z _ [] _ (by rw [hL];omega)]
            have hML:(o ++ [(⟨z.fr,E[i + 1] - 1⟩:Rn)]).length = L.length:=by rw [← hL];simp
            by_cases c:z.to = E[i] - 1
            · rw [if_pos (by omega)] at hm
              (have ke1:=Lib.hid ((show ((i:Nat):Int) + 1 = ((i + 1:Nat):Int) by omega));have kf1:=c1;have kf2:=c2;refine w0e ?_;(repeat' (first|refine W2.mk ?_ ?_|refine W1.mk fun hc=>?_|((first|apply AL_t rfl|apply AL_0 rfl|apply AD_t rfl|apply AD_0 rfl);(focus (first|((apply u_k 5;(focus rfl);exact u_load_r1 ⟨rfl,rfl,rfl⟩ rfl inferInstance rfl rfl rfl HY rfl))|((apply u_k 6;(focus rfl);exact u_store_r ⟨rfl,rfl⟩ rfl inferInstance rfl rfl rfl rfl HY rfl (part_raw rfl rfl rfl) rfl HS1))|(apply u_g;(focus rfl);apply op_gyes rfl rfl rfl rfl rfl;first|((apply u_k 5;(focus rfl);exact u_load_r1 ⟨rfl,rfl,rfl⟩ rfl inferInstance rfl rfl rfl HY rfl))|((apply u_k 6;(focus rfl);exact u_store_r ⟨rfl,rfl⟩ rfl inferInstance rfl rfl rfl rfl HY rfl (part_raw rfl rfl rfl) rfl HS1)))));refine w0e ?_)));all_goals clear kf2 kf1 ke1)
              refine ⟨(i + 1,_),⟨by simp only;omega,by simp only;omega,.inr ⟨o,_,rfl,hmr,fun _=>by simp only;omega,hm⟩⟩,by simp only;omega,?_⟩
              exact le_auto
            · rw [if_neg (by omega)] at hm
              (have ke1:=Lib.hid ((show ((i:Nat):Int) + 1 = ((i + 1:Nat):Int) by omega));have kf1:=c1;have kf2:=c2;refine w0e ?_;(repeat' (first|refine W2.mk ?_ ?_|refine W1.mk fun hc=>?_|((first|apply AL_t rfl|apply AL_0 rfl|apply AD_t rfl|apply AD_0 rfl);(focus (first|((apply u_k 5;(focus rfl);exact u_load_r1 ⟨rfl,rfl,rfl⟩ rfl inferInstance rfl rfl rfl HY rfl))|(apply u_g;(focus rfl);apply op_gyes rfl rfl rfl rfl rfl;first|((apply u_k 5;(focus rfl);exact u_load_r1 ⟨rfl,rfl,rfl⟩ rfl inferInstance rfl rfl rfl HY rfl)))));refine w0e ?_)));all_goals clear kf2 kf1 ke1)
              refine ⟨(i + 1,L ++ [⟨E[i],E[i + 1] - 1⟩]),⟨by simp only;omega,by simp;omega,.inr ⟨L,_,rfl,hnr,hnt,by simp only;rw [← hL,List.append_assoc];exact hm⟩⟩,by simp only;omega,Le_trans (Le_mv 700 701) (Le_trans (Le_mv 701 700) ?_)⟩
              exact le_auto)
   · have g3:out = R:=by
       rw [segF_end f hk] at g2
       rcases g2 with ⟨a,b⟩|⟨o,y,a,_,_,b⟩
       · rw [a,← b];rfl
       · rw [a,← b];rfl
     clear g2 hup hrg hf
     (refine w0 ?_;(repeat' first|refine W2.mk ?_ ?_|refine W1.mk fun hc=>?_))
     refine rt1 ?_
     exact rv_ownM rfl rfl rfl g3
end
theorem tabAt_snocT (s:List Kn) (r i:Nat) (h:i < s.length):tabAt (s.take (i + 1)) r = tabAt (s.take i) r ++ (if s[i].rep = (r:Int) + 1 then s[i].runs else []):=by
 rw [List.take_succ_eq_append_getElem h,tabAt_snoc]
theorem setFrom_drop (g:List (List Rn)) (z:Nat) (h:z < g.length):setFrom id z (g.drop z) = (if g[z].length = 0 then [] else [⟨(z:Int) + 1,g[z]⟩]) ++ setFrom id (z + 1) (g.drop (z + 1)):=by
 rw [List.drop_eq_getElem_cons h];rfl
section
theorem rvs_Runs (s:List Kn) (r:Nat) (hs:knsTot s):Fn Tryz.prog 138 [knsB s,iC .i64 ((r:Int) + 1)] (ownRn (tabAt s r)):=by
 have hl0:=hs.1
 have htot:=hs.2
 refine fi Tryz.func138 Tryz.ntmps138 ?_
 (refine w0 ?_;(repeat' first|refine W2.mk ?_ ?_|refine W1.mk fun hc=>?_))
 refine AW_le (Le_nil 5 700 132 2 rfl rfl) ?_
 refine AW_loopP (X:=Nat) (fun z=>z ≤ s.length)
   (fun z=>mkSt [(0,knsB s),(1,iC .i64 ((r:Int) + 1)),(5,.row 700 0),(6,iC .i64 ((z:Nat):Int))] [(700,rnsW (tabAt (s.take z) r))]) (fun z=>s.length - z) 0 (Nat.zero_le _) ?_ ?_
 · exact le_auto
 · intro z hz
   by_cases hlt:z < s.length
   · have hsn:=tabAt_snocT s r z hlt
     have h1:=tabAt_take s z r
     have h2:=tabAt_len s r
     have h3:=hs.sz.at hlt
     by_cases c:s[z].rep = (r:Int) + 1
     · rw [if_pos c] at hsn
       generalize tabAt (s.take z) r = A at *
       clear hs
       (refine w0 ?_;(repeat' first|refine W2.mk ?_ ?_|refine W1.mk fun hc=>?_))
       refine ⟨z + 1,hlt,by omega,Le_trans (Le_mv 700 701) (Le_trans (Le_mv 701 700) ?_)⟩
       rw [hsn]
       exact le_auto
     · rw [if_neg c,List.append_nil] at hsn
       generalize tabAt (s.take z) r = A at *
       clear hs
       (refine w0 ?_;(repeat' first|refine W2.mk ?_ ?_|refine W1.mk fun hc=>?_))
       refine ⟨z + 1,hlt,by omega,?_⟩
       rw [hsn]
       exact le_auto
   · rw [List.take_of_length_le (show s.length ≤ z by omega)]
     generalize tabAt s r = A at *
     (refine w0 ?_;(repeat' first|refine W2.mk ?_ ?_|refine W1.mk fun hc=>?_))
     refine rt1 ?_
     exact rv_own rfl rfl rfl
theorem rvs_Make (op:Int) (g:List Rn → List Rn → List Rn) (a b:List Kn) (ha:knsTot a) (hb:knsTot b) (hM:∀ r,r < 16 → Fn Tryz.prog 184 [iC .i64 op,rnsB (tabAt a r),rnsB (tabAt b r)] (ownRn (g (tabAt a r) (tabAt b r)))) :
   Fn Tryz.prog 136 [iC .i64 op,knsB a,knsB b] (ownKn (mkSet g a b)):=by
 have hZ:(List.zipWith g (tabOf a) (tabOf b)).length = 16:=by rw [List.length_zipWith,tabOf_len,tabOf_len];rfl
 have hZg:∀ r (h:r < 16),(List.zipWith g (tabOf a) (tabOf b))[r]? = some (g (tabAt a r) (tabAt b r)):=fun r h=>by
   rw [List.getElem?_zipWith,tabOf_get _ h,tabOf_get _ h]
 generalize hQ:mkSet g a b = Q
 unfold mkSet at hQ
 generalize List.zipWith g (tabOf a) (tabOf b) = Z at *
 refine fi Tryz.func136 Tryz.ntmps136 ?_
 (refine w0 ?_;(repeat' first|refine W2.mk ?_ ?_|refine W1.mk fun hc=>?_))
 refine AW_le (Le_nil 7 700 130 2 rfl rfl) ?_
 refine AW_loopP (X:=Nat × List Kn) (fun z=>z.1 ≤ 16 ∧ z.2.length ≤ z.1 ∧ z.2 ++ setFrom id z.1 (Z.drop z.1) = Q)
   (fun z=>mkSt [(0,iC .i64 op),(1,knsB a),(2,knsB b),(7,.row 700 0),(8,iC .i64 (((z.1:Nat):Int) + 1))] [(700,.row 130 2 (z.2.map knP))]) (fun z=>16 - z.1) (0,[]) ⟨Nat.zero_le _,Nat.le_refl _,by simpa using hQ⟩ ?_ ?_
 · exact le_auto
 · rintro ⟨z,acc⟩ ⟨h1,h2,h3⟩
   simp only at h1 h2 h3 ⊢
   clear hQ
   by_cases hz:z < 16
   · have r1:=rvs_Runs a z ha
     have r2:=rvs_Runs b z hb
     have m:=(hM z hz).frz
     have hg:=hZg z hz
     obtain ⟨q1,q2⟩:=List.getElem?_eq_some_iff.1 hg
     rw [setFrom_drop Z z q1,q2] at h3
     generalize tabAt a z = ta at *
     generalize tabAt b z = tb at *
     generalize g ta tb = L at *
     clear hZg hM ha hb hg
     by_cases hL:L.length = 0
     · rw [if_pos hL,List.nil_append] at h3
       (have ko1:=r1;have ko2:=r2;have kc1:=m;refine w0 ?_;(repeat' first|refine W2.mk ?_ ?_|refine W1.mk fun hc=>?_);all_goals clear kc1 ko2 ko1)
       refine ⟨(z + 1,acc),⟨by simp only;omega,by simp only;omega,h3⟩,by simp only;omega,?_⟩
       exact le_auto
     · rw [if_neg hL] at h3
       (have ko1:=r1;have ko2:=r2;have kc1:=m;refine w0 ?_;(repeat' first|refine W2.mk ?_ ?_|refine W1.mk fun hc=>?_);all_goals clear kc1 ko2 ko1)
       refine ⟨(z + 1,acc ++ [⟨(z:Int) + 1,L⟩]),⟨by simp only;omega,by simp;omega,by simp only;rw [List.append_assoc];exact h3⟩,by simp only;omega,Le_trans (Le_mv 700 701) (Le_trans (Le_mv 701 700) ?_)⟩
       exact le_auto
   · have h3':acc = Q:=by rw [← h3,List.drop_of_length_le (by omega)];simp [setFrom]
     clear hZg hM h3
     (refine w0 ?_;(repeat' first|refine W2.mk ?_ ?_|refine W1.mk fun hc=>?_))
     refine rt1 ?_
     exact rv_ownM rfl rfl rfl h3'
end
theorem hasRb_app (a b:List Rn) (n:Int):hasRb (a ++ b) n = (hasRb a n || hasRb b n):=by unfold hasRb;rw [List.any_append]
theorem hasRb_snoc {l:List Rn} {k:Nat} (h:k < l.length) (n:Int):hasRb (l.take (k + 1)) n = (hasRb (l.take k) n || (rnR l[k] && (decide (l[k].fr ≤ n) && decide (n ≤ l[k].to)))):=by
 rw [take_snoc' l k h,hasRb_app];simp [hasRb]
theorem hasRb_take {l:List Rn} {k:Nat} {n:Int} (h:hasRb (l.take k) n = true):hasRb l n = true:=by
 rw [← List.take_append_drop k l,hasRb_app,h];rfl
theorem tabAt_app' (a b:List Kn) (r:Nat):tabAt (a ++ b) r = tabAt a r ++ tabAt b r:=by unfold tabAt;rw [List.flatMap_append]
section
theorem cnt_Has (l:List Rn) (n:Int) (hl:l.length ≤ 1000000000):Fn Tryz.prog 152 [rnsB l,iC .i64 n] (boR (hasRb l n)):=by
 refine fi Tryz.func152 Tryz.ntmps152 ?_
 (refine w0 ?_;(repeat' first|refine W2.mk ?_ ?_|refine W1.mk fun hc=>?_))
 refine AW_loopP (X:=Nat) (fun k=>k ≤ l.length ∧ hasRb (l.take k) n = false) (fun k=>mkSt [(1,iC .i64 n),(7,rnsB l),(8,iC .i64 (l.length:Nat)),(9,iC .i64 (k:Nat))] []) (fun k=>l.length - k) 0 ⟨Nat.zero_le _,rfl⟩ ?_ ?_
 · exact le_auto
 · rintro k ⟨h1,h2⟩
   by_cases hk:k < l.length
   · have a1:=cnt_one l[k]
     have hs:=hasRb_snoc hk n
     rw [h2,Bool.false_or] at hs
     cases hr:rnR l[k] with
     | false=>
       rw [hr] at a1 hs
       rw [Bool.false_and] at hs
       (have kc1:=a1;refine w0 ?_;(repeat' first|refine W2.mk ?_ ?_|refine W1.mk fun hc=>?_);all_goals clear kc1)
       refine ⟨k + 1,⟨by omega,hs⟩,by omega,?_⟩
       exact le_auto
     | true=>
       rw [hr] at a1 hs
       rw [Bool.true_and] at hs
       by_cases c:l[k].fr ≤ n ∧ n ≤ l[k].to
       · have ht:hasRb l n = true:=hasRb_take (by rw [hs,decide_eq_true c.1,decide_eq_true c.2];rfl)
         rw [ht]
         clear hs h2
         (have kc1:=a1;refine w0 ?_;(repeat' first|refine W2.mk ?_ ?_|refine W1.mk fun hc=>?_);all_goals clear kc1)
         refine rt1 ?_
         exact rv_bool rfl rfl
       · have hs:hasRb (l.take (k + 1)) n = false:=by
           rw [hs,← Bool.not_eq_true,Bool.and_eq_true,decide_eq_true_eq,decide_eq_true_eq];exact c
         clear h2
         (have kc1:=a1;refine w0 ?_;(repeat' first|refine W2.mk ?_ ?_|refine W1.mk fun hc=>?_);all_goals clear kc1)
         all_goals
           refine ⟨k + 1,⟨by omega,hs⟩,by omega,?_⟩
           exact le_auto
   · rw [List.take_of_length_le (by omega)] at h2
     rw [h2]
     (refine w0 ?_;(repeat' first|refine W2.mk ?_ ?_|refine W1.mk fun hc=>?_))
     refine rt1 ?_
     exact rv_bool rfl rfl
theorem vset_Has (s:List Kn) (r c:Int) (hs:knsTot s):Fn Tryz.prog 100 [knsB s,vrC r c] (boR (hasKb s r c)):=by
 have hl0:=hs.1
 have a1:=ver_Right r c
 unfold hasKb
 cases hv:verR r c with
 | false=>
   rw [hv] at a1
   rw [Bool.false_and]
   clear hs
   refine fi Tryz.func100 Tryz.ntmps100 ?_
   (have kc1:=a1;refine w0 ?_;(repeat' first|refine W2.mk ?_ ?_|refine W1.mk fun hc=>?_);all_goals clear kc1)
   refine rt1 ?_
   exact rv_bool rfl rfl
 | true=>
   rw [hv] at a1
   rw [Bool.true_and]
   have hr1:1 ≤ r:=by unfold verR at hv;simp at hv;omega
   obtain ⟨q,hq⟩:∃ q:Nat,r = (q:Int) + 1:=⟨(r - 1).toNat,by omega⟩
   have hq2:(r - 1).toNat = q:=by omega
   rw [hq2]
   clear hv
   refine fi Tryz.func100 Tryz.ntmps100 ?_
   (have kc1:=a1;refine w0 ?_;(repeat' first|refine W2.mk ?_ ?_|refine W1.mk fun hc=>?_);all_goals clear kc1)
   refine AW_loopP (X:=Nat) (fun k=>k ≤ s.length ∧ hasRb (tabAt (s.take k) q) c = false) (fun k=>mkSt [(3,.ptr 3 0 0),(10,knsB s),(11,iC .i64 (s.length:Nat)),(12,iC .i64 (k:Nat))] [(3,.box 59 [iC .i64 r,iC .i64 c])]) (fun k=>s.length - k) 0 ⟨Nat.zero_le _,rfl⟩ ?_ ?_
   · exact le_auto
   · rintro k ⟨h1,h2⟩
     by_cases hk:k < s.length
     · have hz:=hs.sz.at hk
       have a2:=cnt_Has s[k].runs c (by omega)
       have hsn:=tabAt_snocT s q k hk
       by_cases e:s[k].rep = r
       · rw [if_pos (by omega)] at hsn
         cases hh:hasRb s[k].runs c with
         | true=>
           rw [hh] at a2
           have ht:hasRb (tabAt s q) c = true:=by
             rw [← List.take_append_drop (k + 1) s,tabAt_app',hasRb_app,hsn,hasRb_app,hh];simp
           rw [ht]
           clear hsn h2 hs hq a1
           (have kc1:=a2;refine w0 ?_;(repeat' first|refine W2.mk ?_ ?_|refine W1.mk fun hc=>?_);all_goals clear kc1)
           refine rt1 ?_
           exact rv_bool rfl rfl
         | false=>
           rw [hh] at a2
           have h2:hasRb (tabAt (s.take (k + 1)) q) c = false:=by rw [hsn,hasRb_app,h2,hh];rfl
           clear hsn hs hq a1
           (have kc1:=a2;refine w0 ?_;(repeat' first|refine W2.mk ?_ ?_|refine W1.mk fun hc=>?_);all_goals clear kc1)
           refine ⟨k + 1,⟨by omega,h2⟩,by omega,?_⟩
           exact le_auto
       · rw [if_neg (by omega),List.append_nil] at hsn
         have h2:hasRb (tabAt (s.take (k + 1)) q) c = false:=by rw [hsn];exact h2
         clear hsn hs hq a1 a2
         (refine w0 ?_;(repeat' first|refine W2.mk ?_ ?_|refine W1.mk fun hc=>?_))
         refine ⟨k + 1,⟨by omega,h2⟩,by omega,?_⟩
         exact le_auto
     · rw [List.take_of_length_le (by omega)] at h2
       rw [h2]
       clear hs hq a1
       (refine w0 ?_;(repeat' first|refine W2.mk ?_ ?_|refine W1.mk fun hc=>?_))
       refine rt1 ?_
       exact rv_bool rfl rfl
theorem kn_Has (k:List Pc) (s:ByteArray) (r c:Int) (hk:pcsSz k) (hs:s.size ≤ 1000000000):Fn Tryz.prog 54 [pcsB k,sC s,vrC r c] (boR (hasPb k s r c)):=by
 have hl0:=hk.1
 refine fi Tryz.func54 Tryz.ntmps54 ?_
 (refine w0 ?_;(repeat' first|refine W2.mk ?_ ?_|refine W1.mk fun hc=>?_))
 refine AW_loopP (X:=Nat) (fun i=>i ≤ k.length ∧ hasPb (k.take i) s r c = false) (fun i=>mkSt [(1,sC s),(5,.ptr 5 0 0),(9,pcsB k),(10,iC .i64 (k.length:Nat)),(11,iC .i64 (i:Nat))] [(5,.box 59 [iC .i64 r,iC .i64 c])]) (fun i=>k.length - i) 0 ⟨Nat.zero_le _,rfl⟩ ?_ ?_
 · exact le_auto
 · rintro i ⟨h1,h2⟩
   by_cases hi:i < k.length
   · have a1:=span_Has k[i].rg s hs
     have a2:=vset_Has k[i].set r c (hk.at hi)
     have hsn:hasPb (k.take (i + 1)) s r c = (rgHas k[i].rg s && hasKb k[i].set r c):=by
       unfold hasPb at h2 ⊢
       rw [take_snoc' k i hi,List.any_append,h2];simp
     cases hr:rgHas k[i].rg s with
     | false=>
       rw [hr] at a1 hsn
       rw [Bool.false_and] at hsn
       clear hk h2
       (have kc1:=a1;have kc2:=a2;refine w0 ?_;(repeat' first|refine W2.mk ?_ ?_|refine W1.mk fun hc=>?_);all_goals clear kc2 kc1)
       refine ⟨i + 1,⟨by omega,hsn⟩,by omega,?_⟩
       exact le_auto
     | true=>
       rw [hr] at a1 hsn
       rw [Bool.true_and] at hsn
       cases hh:hasKb k[i].set r c with
       | false=>
         rw [hh] at a2 hsn
         clear hk h2
         (have kc1:=a1;have kc2:=a2;refine w0 ?_;(repeat' first|refine W2.mk ?_ ?_|refine W1.mk fun hc=>?_);all_goals clear kc2 kc1)
         refine ⟨i + 1,⟨by omega,hsn⟩,by omega,?_⟩
         exact le_auto
       | true=>
         rw [hh] at a2 hsn
         have ht:hasPb k s r c = true:=by
           unfold hasPb at hsn ⊢
           rw [← List.take_append_drop (i + 1) k,List.any_append,hsn];rfl
         rw [ht]
         clear hk h2 hsn
         (have kc1:=a1;have kc2:=a2;refine w0 ?_;(repeat' first|refine W2.mk ?_ ?_|refine W1.mk fun hc=>?_);all_goals clear kc2 kc1)
         refine rt1 ?_
         exact rv_bool rfl rfl
   · rw [List.take_of_length_le (by omega)] at h2
     rw [h2]
     clear hk
     (refine w0 ?_;(repeat' first|refine W2.mk ?_ ?_|refine W1.mk fun hc=>?_))
     refine rt1 ?_
     exact rv_bool rfl rfl
theorem rvs_Has (s:List Kn) (r c:Int) (hs:knsTot s):Fn Tryz.prog 87 [knsB s,vrC r c] (boR (hasKb s r c)):=by
 have a1:=rver_Right r c
 unfold hasKb
 cases hv:verR r c with
 | false=>
   rw [hv] at a1
   rw [Bool.false_and]
   clear hs
   refine fi Tryz.func87 Tryz.ntmps87 ?_
   (have kc1:=a1;refine w0 ?_;(repeat' first|refine W2.mk ?_ ?_|refine W1.mk fun hc=>?_);all_goals clear kc1)
   refine rt1 ?_
   exact rv_bool rfl rfl
 | true=>
   rw [hv] at a1
   rw [Bool.true_and]
   have hr1:1 ≤ r:=by unfold verR at hv;simp at hv;omega
   obtain ⟨q,rfl⟩:∃ q:Nat,r = (q:Int) + 1:=⟨(r - 1).toNat,by omega⟩
   have hq2:((q:Int) + 1 - 1).toNat = q:=by omega
   rw [hq2]
   have a2:=rvs_Runs s q hs
   have hz:=tabAt_len s q
   have a3:=rcnt_Has (tabAt s q) c (by have:=hs.2;omega)
   clear hs hv hz
   generalize tabAt s q = T at *
   refine fi Tryz.func87 Tryz.ntmps87 ?_
   (have kc1:=a1;have kc2:=a2;have kc3:=a3;refine w0 ?_;(repeat' first|refine W2.mk ?_ ?_|refine W1.mk fun hc=>?_);all_goals clear kc3 kc2 kc1)
   refine rt1 ?_
   exact rv_bool rfl rfl
theorem rkn_Has (k:List Pc) (s:ByteArray) (r c:Int) (hk:pcsSz k) (hs:s.size ≤ 1000000000):Fn Tryz.prog 44 [pcsB k,sC s,vrC r c] (boR (hasPb k s r c)):=by
 have hl0:=hk.1
 refine fi Tryz.func44 Tryz.ntmps44 ?_
 (refine w0 ?_;(repeat' first|refine W2.mk ?_ ?_|refine W1.mk fun hc=>?_))
 refine AW_loopP (X:=Nat) (fun i=>i ≤ k.length ∧ hasPb (k.take i) s r c = false) (fun i=>mkSt [(0,pcsB k),(1,sC s),(5,.ptr 5 0 0),(7,iC .i64 (i:Nat))] [(5,.box 59 [iC .i64 r,iC .i64 c])]) (fun i=>k.length - i) 0 ⟨Nat.zero_le _,rfl⟩ ?_ ?_
 · exact le_auto
 · rintro i ⟨h1,h2⟩
   by_cases hi:i < k.length
   · have a1:=rspan_Has k[i].rg s hs
     have a2:=rvs_Has k[i].set r c (hk.at hi)
     have hsn:hasPb (k.take (i + 1)) s r c = (rgHas k[i].rg s && hasKb k[i].set r c):=by
       unfold hasPb at h2 ⊢
       rw [take_snoc' k i hi,List.any_append,h2];simp
     cases hr:rgHas k[i].rg s with
     | false=>
       rw [hr] at a1 hsn
       rw [Bool.false_and] at hsn
       clear hk h2
       (have kc1:=a1;have kc2:=a2;refine w0 ?_;(repeat' (first|refine W2.mk ?_ ?_|refine W1.mk fun hc=>?_|((first|apply AL_t rfl|apply AL_0 rfl|apply AD_t rfl|apply AD_0 rfl);(focus (first|((apply u_k 5;(focus rfl);first|exact u_load_bpT ⟨rfl,rfl,rfl⟩ rfl inferInstance inferInstance rfl rfl rfl rfl|exact u_load_rpT ⟨rfl,rfl,rfl⟩ rfl inferInstance inferInstance rfl rfl rfl rfl))|(apply u_g;(focus rfl);apply op_gyes rfl rfl rfl rfl rfl;first|((apply u_k 5;(focus rfl);first|exact u_load_bpT ⟨rfl,rfl,rfl⟩ rfl inferInstance inferInstance rfl rfl rfl rfl|exact u_load_rpT ⟨rfl,rfl,rfl⟩ rfl inferInstance inferInstance rfl rfl rfl rfl)))));refine w0 ?_)));all_goals clear kc2 kc1)
       refine ⟨i + 1,⟨by omega,hsn⟩,by omega,?_⟩
       exact le_auto
     | true=>
       rw [hr] at a1 hsn
       rw [Bool.true_and] at hsn
       cases hh:hasKb k[i].set r c with
       | false=>
         rw [hh] at a2 hsn
         clear hk h2
         (have kc1:=a1;have kc2:=a2;refine w0 ?_;(repeat' (first|refine W2.mk ?_ ?_|refine W1.mk fun hc=>?_|((first|apply AL_t rfl|apply AL_0 rfl|apply AD_t rfl|apply AD_0 rfl);(focus (first|((apply u_k 5;(focus rfl);first|exact u_load_bpT ⟨rfl,rfl,rfl⟩ rfl inferInstance inferInstance rfl rfl rfl rfl|exact u_load_rpT ⟨rfl,rfl,rfl⟩ rfl inferInstance inferInstance rfl rfl rfl rfl))|(apply u_g;(focus rfl);apply op_gyes rfl rfl rfl rfl rfl;first|((apply u_k 5;(focus rfl);first|exact u_load_bpT ⟨rfl,rfl,rfl⟩ rfl inferInstance inferInstance rfl rfl rfl rfl|exact u_load_rpT ⟨rfl,rfl,rfl⟩ rfl inferInstance inferInstance rfl rfl rfl rfl)))));refine w0 ?_)));all_goals clear kc2 kc1)
         refine ⟨i + 1,⟨by omega,hsn⟩,by omega,?_⟩
         exact le_auto
       | true=>
         rw [hh] at a2 hsn
         have ht:hasPb k s r c = true:=by
           unfold hasPb at hsn ⊢
           rw [← List.take_append_drop (i + 1) k,List.any_append,hsn];rfl
         rw [ht]
         clear hk h2 hsn
         (have kc1:=a1;have kc2:=a2;refine w0 ?_;(repeat' (first|refine W2.mk ?_ ?_|refine W1.mk fun hc=>?_|((first|apply AL_t rfl|apply AL_0 rfl|apply AD_t rfl|apply AD_0 rfl);(focus (first|((apply u_k 5;(focus rfl);first|exact u_load_bpT ⟨rfl,rfl,rfl⟩ rfl inferInstance inferInstance rfl rfl rfl rfl|exact u_load_rpT ⟨rfl,rfl,rfl⟩ rfl inferInstance inferInstance rfl rfl rfl rfl))|(apply u_g;(focus rfl);apply op_gyes rfl rfl rfl rfl rfl;first|((apply u_k 5;(focus rfl);first|exact u_load_bpT ⟨rfl,rfl,rfl⟩ rfl inferInstance inferInstance rfl rfl rfl rfl|exact u_load_rpT ⟨rfl,rfl,rfl⟩ rfl inferInstance inferInstance rfl rfl rfl rfl)))));refine w0 ?_)));all_goals clear kc2 kc1)
         refine rt1 ?_
         exact rv_bool rfl rfl
   · rw [List.take_of_length_le (by omega)] at h2
     rw [h2]
     clear hk
     (refine w0 ?_;(repeat' first|refine W2.mk ?_ ?_|refine W1.mk fun hc=>?_))
     refine rt1 ?_
     exact rv_bool rfl rfl
theorem rgs_HasR (l:List Rg) (s:ByteArray) (hok:rgsOk l) (hl:l.length ≤ 1000000000) (hs:s.size ≤ 1000000000):Fn Tryz.prog 80 [.per (rgsP l),sC s] (boR (anyR l s)):=by
 have h0:=rgs_Right l hl true (by simp [hok])
 have h1:Fn Tryz.prog 132 [.per (rgsP l)] (.per (rgsP l)):=by
   refine fi Tryz.func132 Tryz.ntmps132 ?_
   (have kc1:=h0;refine w0 ?_;(repeat' first|refine W2.mk ?_ ?_|refine W1.mk fun hc=>?_);all_goals clear kc1)
   refine rt1 ?_
   exact rv_per rfl
 obtain ⟨p,hp,hlt⟩:=find_ex hok s
 have h2:=rgs_find l s hs hl p hp hlt
 have hA:=has_at hok hlt
 rw [hA]
 clear hA hlt hok h0
 by_cases hn:p < l.length
 · have h3:=span_Has l[p] s hs
   rw [List.getElem?_eq_getElem hn]
   simp only
   refine fi Tryz.func80 Tryz.ntmps80 ?_
   (have kc1:=h1;have kc2:=h2;have kc3:=h3;refine w0 ?_;(repeat' first|refine W2.mk ?_ ?_|refine W1.mk fun hc=>?_);all_goals clear kc3 kc2 kc1)
   refine rt1 ?_
   exact rv_bool rfl rfl
 · rw [List.getElem?_eq_none (by omega)]
   simp only
   refine fi Tryz.func80 Tryz.ntmps80 ?_
   (have kc1:=h1;have kc2:=h2;refine w0 ?_;(repeat' first|refine W2.mk ?_ ?_|refine W1.mk fun hc=>?_);all_goals clear kc2 kc1)
   refine rt1 ?_
   exact rv_bool rfl rfl
end
end Go.Proofs.YtembiemaiacdfaaGreat
