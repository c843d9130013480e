/- Texts joined: Rcn Rcm Rset StH. -/
import Derived.Test.YtembiemaiacdfaaGreatJ14
import Derived.Test.YtembiemaiacdfaaGreatJ05
import Derived.Test.YtembiemaiacdfaaGreatJ16
import Derived.Test.YtembiemaiacdfaaGreatJ23
import Derived.Test.YtembiemaiacdfaaGreatJ19
import Derived.Test.YtembiemaiacdfaaGreatJ22
import Derived.Test.YtembiemaiacdfaaGreatJ17
set_option maxRecDepth 10000
set_option maxHeartbeats 8000000
namespace Go.Proofs.YtembiemaiacdfaaGreat
open Go.RowKit
theorem IJ:∀ (l:List Int) (n:Int) (k:Nat),k ≤ l.length → (∀ j (h:j < l.length),j < k → l[j] < n) → (∀ h:k < l.length,¬ l[k] < n) →
   ((∃ h:k < l.length,l[k] = n) → fA l n = l) ∧ ((¬ ∃ h:k < l.length,l[k] = n) → fA l n = l.take k ++ n :: l.drop k):=by
 intro l
 induction l with
 | nil=>
   intro n k hk _ _
   obtain rfl:k = 0:=by simpa using hk
   exact ⟨fun ⟨h,_⟩=>by simp at h,fun _=>rfl⟩
 | cons x l ih=>
   intro n k hk h1 h2
   cases k with
   | zero=>
     have:=h2 (by simp)
     simp only [List.getElem_cons_zero] at this
     rw [fA,if_neg this]
     refine ⟨fun ⟨_,e⟩=>?_,fun e=>?_⟩
     · simp only [List.getElem_cons_zero] at e
       rw [if_pos e]
     · rw [if_neg (fun q=>e ⟨by simp,by simpa using q⟩)]
       rfl
   | succ k=>
     have h3:=h1 0 (by simp) (by omega)
     simp only [List.getElem_cons_zero] at h3
     have:=ih n k (by simpa using hk) (fun j hj hjk=>by have:=h1 (j + 1) (by simpa using hj) (by omega);simpa using this) (fun h=>by have:=h2 (by simpa using h);simpa using this)
     rw [fA,if_pos h3]
     refine ⟨fun ⟨h,e⟩=>?_,fun e=>?_⟩
     · rw [this.1 ⟨by simpa using h,by simpa using e⟩]
     · rw [this.2 (fun ⟨h,q⟩=>e ⟨by simpa using h,by simpa using q⟩)]
       rfl
section
variable {P:Program} {n:Nat} {S:St}
theorem pf {t k:Nat} {es es':List (List PV)} (h:S.get t = .per (bK k es)) (e:es = es'):bA P n S (.tmp t) (.per (bK k es')):=b0 (e ▸ h)
end
abbrev Mq (n:Int):List PV:=[ao (.int .i64 n)]
abbrev Fd (l:List Int):PV:=bK 1 (l.map Mq)
abbrev wc (l:List Int):Cnt:=.per (Fd l)
section
theorem m8 (l:List Int) (n:Int) (hl:l.length ≤ 1000000000):Fn Tryz.prog 246 [wc l,iC .i64 n] (.per (Fd (fA l n))):=by
 generalize hR:fA l n = R
 refine fi Tryz.func246 Tryz.ntmps246 ?_
 (refine w0 ?_;(repeat' first|refine W2.mk ?_ ?_|refine W1.mk fun hc=>?_))
 refine ah (X:=Nat) (fun k=>k ≤ l.length ∧ ∀ j (h:j < l.length),j < k → l[j] < n)
   (fun k=>aJ [(0,wc l),(1,iC .i64 n),(5,iC .i64 ((k:Nat):Int))] []) (fun k=>l.length - k) 0 ⟨Nat.zero_le _,fun j _ h=>by omega⟩ ?_ ?_
 · exact ab
 · rintro k ⟨h1,h2⟩
   by_cases hgo:∃ h:k < l.length,l[k] < n
   · obtain ⟨hk,hlt⟩:=hgo
     have h2':∀ j (h:j < l.length),j < k + 1 → l[j] < n:=fun j h hj=>by
       rcases Nat.lt_or_ge j k with q|q
       · exact h2 j h q
       · obtain rfl:j = k:=by omega
         exact hlt
     clear hR h2
     (refine w0 ?_;(repeat' first|refine W2.mk ?_ ?_|refine W1.mk fun hc=>?_))
     refine ⟨k + 1,⟨hk,h2'⟩,by omega,?_⟩
     exact ab
   · have hP:=IJ l n k h1 h2 (fun h q=>hgo ⟨h,q⟩)
     clear h2
     by_cases hk:k < l.length
     · have hge:¬ l[k] < n:=fun q=>hgo ⟨hk,q⟩
       by_cases he:l[k] = n
       · have hR':l = R:=by rw [← hR,hP.1 ⟨hk,he⟩]
         clear hR hP hgo
         (refine w0 ?_;(repeat' first|refine W2.mk ?_ ?_|refine W1.mk fun hc=>?_))
         refine aO ?_
         exact o4 rfl hR'
       · have hR':l.take k ++ n :: l.drop k = R:=by rw [← hR,hP.2 (fun ⟨_,q⟩=>he q)]
         clear hR hP hgo
         (refine w0 ?_;(repeat' first|refine W2.mk ?_ ?_|refine W1.mk fun hc=>?_))
         refine kg (bv 34 700 3 1 rfl rfl) ?_
         (refine w0 ?_;(repeat' first|refine W2.mk ?_ ?_|refine W1.mk fun hc=>?_))
         refine ⟨.inl rfl,jW (gl 700 _ 3 1 rfl rfl) (CU rfl (pf rfl (by rw [← hR'];simp [List.map_take,List.map_drop];rfl)))⟩
     · have hR':l.take k ++ n :: l.drop k = R:=by rw [← hR,hP.2 (fun ⟨q,_⟩=>hk q)]
       clear hR hP hgo
       (refine w0 ?_;(repeat' first|refine W2.mk ?_ ?_|refine W1.mk fun hc=>?_))
       refine kg (bv 34 700 3 1 rfl rfl) ?_
       (refine w0 ?_;(repeat' first|refine W2.mk ?_ ?_|refine W1.mk fun hc=>?_))
       refine ⟨.inl rfl,jW (gl 700 _ 3 1 rfl rfl) (CU rfl (pf rfl (by rw [← hR'];simp [List.map_take,List.map_drop];rfl)))⟩
theorem wd:∀ (l:List Int) (n:Int),(fA l n).length ≤ l.length + 1:=by
 intro l
 induction l with
 | nil=>intro n;simp [fA]
 | cons x l ih=>
   intro n
   rw [fA]
   split
   · have:=ih n;simp;omega
   · split <;> simp
theorem sm (e:List Int) (l:List Rn) (k:Nat) (h:k < l.length):dP e (l.take (k + 1)) = mQ (dP e (l.take k)) l[k]:=by
 unfold dP
 rw [List.take_succ_eq_append_getElem h,List.foldl_append]
 rfl
theorem lK (e:List Int) (l:List Rn) (k:Nat):(dP e (l.take k)).length ≤ e.length + 2 * l.length:=by
 have h:=mR (l.take k) e
 rw [List.length_take] at h
 omega
theorem yx (a b:List Rn) (ha:a.length ≤ 100000000) (hb:b.length ≤ 100000000):Fn Tryz.prog 208 [ej a,ej b] (.per (Fd (dP (dP [] a) b))):=by
 have lA:=mR a []
 simp only [List.length_nil,Nat.zero_add] at lA
 generalize hR:dP (dP [] a) b = R
 refine fi Tryz.func208 Tryz.ntmps208 ?_
 (refine w0 ?_;(repeat' first|refine W2.mk ?_ ?_|refine W1.mk fun hc=>?_))
 refine cc (bv 5 700 3 1 rfl rfl) (cc (gl 700 _ 3 1 rfl rfl) ?_)
 refine ah (X:=Nat) (fun k=>k ≤ a.length)
   (fun k=>aJ [(0,ej a),(1,ej b),(5,wc (dP [] (a.take k))),(6,iC .i64 ((k:Nat):Int))] []) (fun k=>a.length - k) 0 (Nat.zero_le _) ?_ ?_
 · exact ab
 · intro k hk
   by_cases hlt:k < a.length
   · have hs:=sm [] a k hlt
     have hlen:=lK [] a k
     simp only [List.length_nil,Nat.zero_add] at hlen
     have c0:=mO a[k]
     generalize dP [] (a.take k) = E at *
     clear hR
     cases hr:fV a[k] with
     | true=>
       have hi:=(br _).1 hr
       rw [hr] at c0
       have c1:=m8 E a[k].fr (by omega)
       have hp:=wd E a[k].fr
       have c2:=m8 (fA E a[k].fr) (a[k].to + 1) (by omega)
       rw [mQ,if_pos hr] at hs
       generalize fA E a[k].fr = E1 at *
       generalize fA E1 (a[k].to + 1) = E2 at *
       (have kc1:=c0;have kf1:=c1;have kf2:=c2;refine w0 ?_;(repeat' first|refine W2.mk ?_ ?_|refine W1.mk fun hc=>?_);all_goals clear kf2 kf1 kc1)
       refine ⟨k + 1,hlt,by omega,?_⟩
       rw [hs]
       exact ab
     | false=>
       rw [hr] at c0
       rw [mQ,if_neg (by simp [hr])] at hs
       (have kc1:=c0;refine w0 ?_;(repeat' first|refine W2.mk ?_ ?_|refine W1.mk fun hc=>?_);all_goals clear kc1)
       refine ⟨k + 1,hlt,by omega,?_⟩
       rw [hs]
       exact ab
   · rw [List.take_of_length_le (show a.length ≤ k by omega)]
     generalize dP [] a = E0 at *
     (refine w0 ?_;(repeat' first|refine W2.mk ?_ ?_|refine W1.mk fun hc=>?_))
     refine ah (X:=Nat) (fun k=>k ≤ b.length)
       (fun k=>aJ [(1,ej b),(5,wc (dP E0 (b.take k))),(7,iC .i64 ((k:Nat):Int))] []) (fun k=>b.length - k) 0 (Nat.zero_le _) ?_ ?_
     · exact ab
     · clear hlt hk
       intro k hk
       by_cases hlt:k < b.length
       · have hs:=sm E0 b k hlt
         have hlen:=lK E0 b k
         have c0:=mO b[k]
         generalize dP E0 (b.take k) = E at *
         clear hR
         cases hr:fV b[k] with
         | true=>
           have hi:=(br _).1 hr
           rw [hr] at c0
           have c1:=m8 E b[k].fr (by omega)
           have hp:=wd E b[k].fr
           have c2:=m8 (fA E b[k].fr) (b[k].to + 1) (by omega)
           rw [mQ,if_pos hr] at hs
           generalize fA E b[k].fr = E1 at *
           generalize fA E1 (b[k].to + 1) = E2 at *
           (have kc1:=c0;have kf1:=c1;have kf2:=c2;refine w0 ?_;(repeat' first|refine W2.mk ?_ ?_|refine W1.mk fun hc=>?_);all_goals clear kf2 kf1 kc1)
           refine ⟨k + 1,hlt,by omega,?_⟩
           rw [hs]
           exact ab
         | false=>
           rw [hr] at c0
           rw [mQ,if_neg (by simp [hr])] at hs
           (have kc1:=c0;refine w0 ?_;(repeat' first|refine W2.mk ?_ ?_|refine W1.mk fun hc=>?_);all_goals clear kc1)
           refine ⟨k + 1,hlt,by omega,?_⟩
           rw [hs]
           exact ab
       · rw [List.take_of_length_le (show b.length ≤ k by omega),hR]
         (refine w0 ?_;(repeat' first|refine W2.mk ?_ ?_|refine W1.mk fun hc=>?_))
         refine aO ?_
         exact o4 rfl rfl
theorem qv (l:List Rn) (n:Int) (hl:l.length ≤ 1000000000):Fn Tryz.prog 137 [ej l,iC .i64 n] (cU (cw l n)):=by
 generalize hT:cw l n = T
 refine fi Tryz.func137 Tryz.ntmps137 ?_
 (refine w0 ?_;(repeat' first|refine W2.mk ?_ ?_|refine W1.mk fun hc=>?_))
 refine ah (X:=Nat) (fun i=>i ≤ l.length ∧ cw (l.drop i) n = T)
   (fun i=>aJ [(0,ej l),(1,iC .i64 n),(5,iC .i64 ((i:Nat):Int))] []) (fun i=>l.length - i) 0 ⟨Nat.zero_le _,by simpa using hT⟩ ?_ ?_
 · exact ab
 · rintro i ⟨h1,h2⟩
   clear hT
   by_cases hlt:i < l.length
   · rw [List.drop_eq_getElem_cons hlt,cw,List.any_cons,← cw] at h2
     have c0:=mO l[i]
     cases hr:fV l[i] with
     | true=>
       rw [hr] at c0
       rw [hr,Bool.true_and] at h2
       by_cases c1:l[i].fr ≤ n
       · by_cases c2:n ≤ l[i].to
         · rw [decide_eq_true c1,decide_eq_true c2,Bool.true_and,Bool.true_or] at h2
           subst h2
           (have kc1:=c0;refine w0 ?_;(repeat' first|refine W2.mk ?_ ?_|refine W1.mk fun hc=>?_);all_goals clear kc1)
           refine aO ?_
           exact af rfl rfl
         · rw [decide_eq_true c1,decide_eq_false c2,Bool.true_and,Bool.false_or] at h2
           (have kc1:=c0;refine w0 ?_;(repeat' first|refine W2.mk ?_ ?_|refine W1.mk fun hc=>?_);all_goals clear kc1)
           refine ⟨i + 1,⟨hlt,h2⟩,by omega,?_⟩
           exact ab
       · rw [decide_eq_false c1,Bool.false_and,Bool.false_or] at h2
         (have kc1:=c0;refine w0 ?_;(repeat' first|refine W2.mk ?_ ?_|refine W1.mk fun hc=>?_);all_goals clear kc1)
         refine ⟨i + 1,⟨hlt,h2⟩,by omega,?_⟩
         exact ab
     | false=>
       rw [hr] at c0
       rw [hr,Bool.false_and,Bool.false_or] at h2
       (have kc1:=c0;refine w0 ?_;(repeat' first|refine W2.mk ?_ ?_|refine W1.mk fun hc=>?_);all_goals clear kc1)
       refine ⟨i + 1,⟨hlt,h2⟩,by omega,?_⟩
       exact ab
   · have h2':false = T:=by
       rw [List.drop_of_length_le (by omega)] at h2
       exact h2
     subst h2'
     clear h2
     (refine w0 ?_;(repeat' first|refine W2.mk ?_ ?_|refine W1.mk fun hc=>?_))
     refine aO ?_
     exact af rfl rfl
end
theorem BA (f:Int → Bool) {E:List Int} {i:Nat} (h:i + 1 < E.length):gq f (E.drop i) = (if f E[i] then [⟨E[i],E[i + 1] - 1⟩] else []) ++ gq f (E.drop (i + 1)):=by
 rw [List.drop_eq_getElem_cons (show i < E.length by omega),List.drop_eq_getElem_cons h,gq]
theorem Fe (f:Int → Bool) {E:List Int} {i:Nat} (h:¬ i + 1 < E.length):gq f (E.drop i) = []:=by
 by_cases c:i < E.length
 · rw [List.drop_eq_getElem_cons c,List.drop_of_length_le (by omega)];rfl
 · rw [List.drop_of_length_le (by omega)];rfl
def K5 (x y:Bool):Bool:=x || y
section
theorem yz (a b:List Rn) (ha:a.length ≤ 100000000) (hb:b.length ≤ 100000000) :
   Fn Tryz.prog 184 [iC .i64 1,ej a,ej b] (vK (Ie (tz K5 a b) a b)):=by
 have hE:=yx a b ha hb
 have hup:Ek (dP (dP [] a) b):=pa _ _ (pa _ _ List.Pairwise.nil)
 have hrg:∀ m ∈ dP (dP [] a) b,1 ≤ m ∧ m ≤ 1099511627777:=fun m hm=>zF hm
 have hln:=mR b (dP [] a)
 have hln2:=mR a []
 simp only [List.length_nil,Nat.zero_add] at hln2
 have hbE:(dP (dP [] a) b).length ≤ 400000000:=by omega
 clear hln hln2
 unfold Ie
 have hf:∀ n,tz K5 a b n = K5 (cw a n) (cw b n):=fun _=>rfl
 generalize tz K5 a b = f at *
 generalize dP (dP [] a) b = E at *
 generalize hR:jd (gq f E) = R
 refine fi Tryz.func184 Tryz.ntmps184 ?_
 (have kc1:=hE;refine w0 ?_;(repeat' first|refine W2.mk ?_ ?_|refine W1.mk fun hc=>?_);all_goals clear kc1)
 clear hE
 refine cc (bv 8 700 132 2 rfl rfl) ?_
 refine ah (X:=Nat × List Rn) (fun x=>x.1 ≤ E.length ∧ x.2.length ≤ x.1 ∧ ((x.2 = [] ∧ jd (gq f (E.drop x.1)) = R) ∨ ∃ o y,x.2 = o ++ [y] ∧ fV y = true ∧ (∀ h:x.1 < E.length,y.to + 1 ≤ E[x.1]) ∧ o ++ vD y (gq f (E.drop x.1)) = R))
   (fun x=>aJ [(0,iC .i64 1),(1,ej a),(2,ej b),(7,wc E),(8,.row 700 0),(9,iC .i64 ((x.1:Nat):Int))] [(700,Ej x.2)]) (fun x=>E.length - x.1) (0,[]) ⟨Nat.zero_le _,Nat.le_refl _,.inl ⟨rfl,by simpa using hR⟩⟩ ?_ ?_
 · exact ab
 · rintro ⟨i,out⟩ ⟨g1,g0,g2⟩
   simp only at g1 g0 g2 ⊢
   clear hR
   by_cases hk:i + 1 < E.length
   · have hi:i < E.length:=by omega
     have b1:=hrg _ (List.getElem_mem hi)
     have b2:=hrg _ (List.getElem_mem hk)
     have b3:=List.pairwise_iff_getElem.1 hup i (i + 1) hi hk (by omega)
     have hst:=BA f hk
     rw [hf] at hst
     have c1:=qv a E[i] (by omega)
     have c2:=qv b E[i] (by omega)
     clear hrg hup hf
     have hnr:fV ⟨E[i],E[i + 1] - 1⟩ = true:=(br _).2 (by simp only;omega)
     have hnt:∀ h:i + 1 < E.length,(⟨E[i],E[i + 1] - 1⟩:Rn).to + 1 ≤ E[i + 1]:=fun _=>by simp only;omega
     generalize gq f (E.drop i) = T0 at *
     generalize cw a E[i] = x at *
     generalize cw b E[i] = y at *
     obtain ⟨K,hK⟩:∃ K,K = K5 x y:=⟨_,rfl⟩
     rw [← hK] at hst
     cases x <;> cases y <;> first
       | (have hK2:K = false:=hK
          subst hK2
          rw [if_neg Bool.false_ne_true,List.nil_append] at hst
          subst hst
          have g2':(out = [] ∧ jd (gq f (E.drop (i + 1))) = R) ∨ ∃ o y,out = o ++ [y] ∧ fV y = true ∧ (∀ h:i + 1 < E.length,y.to + 1 ≤ E[i + 1]) ∧ o ++ vD y (gq f (E.drop (i + 1))) = R:=by
            rcases g2 with g2|⟨o,y,h1,h2,h3,h4⟩
            · exact .inl g2
            · exact .inr ⟨o,y,h1,h2,fun h=>by have:=h3 hi;omega,h4⟩
          clear g2 hK
          (have ke1:=Lib.hid ((show ((i:Nat):Int) + 1 = ((i + 1:Nat):Int) by omega));have kf1:=c1;have kf2:=c2;refine bm ?_;(repeat' first|refine W2.mk ?_ ?_|refine W1.mk fun hc=>?_);all_goals clear kf2 kf1 ke1)
          refine ⟨(i + 1,out),⟨by simp only;omega,by simp only;omega,g2'⟩,by simp only;omega,?_⟩
          exact ab)
       | (have hK2:K = true:=hK
          subst hK2
          rw [if_pos rfl] at hst
          subst hst
          clear hK
          rcases g2 with ⟨ho,hm⟩|⟨o,z,ho,hz,hb,hm⟩
          · subst ho
            (have ke1:=Lib.hid ((show ((i:Nat):Int) + 1 = ((i + 1:Nat):Int) by omega));have kf1:=c1;have kf2:=c2;refine bm ?_;(repeat' first|refine W2.mk ?_ ?_|refine W1.mk fun hc=>?_);all_goals clear kf2 kf1 ke1)
            refine ⟨(i + 1,[⟨E[i],E[i + 1] - 1⟩]),⟨by simp only;omega,by simp,.inr ⟨[],_,rfl,hnr,hnt,hm⟩⟩,by simp only;omega,an (aM 700 701) (an (aM 701 700) ?_)⟩
            exact ab
          · subst ho
            have hzi:=(br z).1 hz
            have hbz:=hb hi
            rw [show ([(⟨E[i],E[i + 1] - 1⟩:Rn)] ++ gq f (E.drop (i + 1))) = (⟨E[i],E[i + 1] - 1⟩:Rn) :: gq f (E.drop (i + 1)) from rfl,vD] at hm
            simp only at hm
            have hL1:(o ++ [z]).length = o.length + 1:=by simp
            have hM:max z.to (E[i + 1] - 1) = E[i + 1] - 1:=by omega
            have hmr:fV ⟨z.fr,E[i + 1] - 1⟩ = true:=(br _).2 (by simp only;omega)
            rw [hM] at hm
            generalize hL:o ++ [z] = L at *
            have hLi:((L.length:Int) - 1).toNat = o.length:=by omega
            have HY:(L.map rnP)[((L.length:Int) - 1).toNat]? = some (rnP z):=by
              rw [List.getElem?_map,hLi,← hL]
              simp
            have HS1:(L.map rnP).set ((L.length:Int) - 1).toNat (bL (rnP z) 1 [ao (.int .i64 (E[i + 1] - 1))]) = (o ++ [(⟨z.fr,E[i + 1] - 1⟩:Rn)]).map rnP:=by
              rw [show (L.map rnP).set ((L.length:Int) - 1).toNat (bL (rnP z) 1 [ao (.int .i64 (E[i + 1] - 1))]) = (L.set ((L.length:Int) - 1).toNat ⟨z.fr,E[i + 1] - 1⟩).map rnP from ey rnP L _ (⟨z.fr,E[i + 1] - 1⟩:Rn),← hL,fW o z _ [] _ (by rw [hL];omega)]
            have hML:(o ++ [(⟨z.fr,E[i + 1] - 1⟩:Rn)]).length = L.length:=by rw [← hL];simp
            by_cases c:z.to = E[i] - 1
            · rw [if_pos (by omega)] at hm
              (have ke1:=Lib.hid ((show ((i:Nat):Int) + 1 = ((i + 1:Nat):Int) by omega));have kf1:=c1;have kf2:=c2;refine bm ?_;(repeat' (first|refine W2.mk ?_ ?_|refine W1.mk fun hc=>?_|((first|apply aB rfl|apply aC rfl|apply aD rfl|apply aF rfl);(focus (first|((apply ax 5;(focus rfl);exact ay ⟨rfl,rfl,rfl⟩ rfl inferInstance rfl rfl rfl HY rfl))|((apply ax 6;(focus rfl);exact al ⟨rfl,rfl⟩ rfl inferInstance rfl rfl rfl rfl HY rfl (aG rfl rfl rfl) rfl HS1))|(apply bt;(focus rfl);apply ag rfl rfl rfl rfl rfl;first|((apply ax 5;(focus rfl);exact ay ⟨rfl,rfl,rfl⟩ rfl inferInstance rfl rfl rfl HY rfl))|((apply ax 6;(focus rfl);exact al ⟨rfl,rfl⟩ rfl inferInstance rfl rfl rfl rfl HY rfl (aG rfl rfl rfl) rfl HS1)))));refine bm ?_)));all_goals clear kf2 kf1 ke1)
              refine ⟨(i + 1,_),⟨by simp only;omega,by simp only;omega,.inr ⟨o,_,rfl,hmr,fun _=>by simp only;omega,hm⟩⟩,by simp only;omega,?_⟩
              exact ab
            · rw [if_neg (by omega)] at hm
              (have ke1:=Lib.hid ((show ((i:Nat):Int) + 1 = ((i + 1:Nat):Int) by omega));have kf1:=c1;have kf2:=c2;refine bm ?_;(repeat' (first|refine W2.mk ?_ ?_|refine W1.mk fun hc=>?_|((first|apply aB rfl|apply aC rfl|apply aD rfl|apply aF rfl);(focus (first|((apply ax 5;(focus rfl);exact ay ⟨rfl,rfl,rfl⟩ rfl inferInstance rfl rfl rfl HY rfl))|(apply bt;(focus rfl);apply ag rfl rfl rfl rfl rfl;first|((apply ax 5;(focus rfl);exact ay ⟨rfl,rfl,rfl⟩ rfl inferInstance rfl rfl rfl HY rfl)))));refine bm ?_)));all_goals clear kf2 kf1 ke1)
              refine ⟨(i + 1,L ++ [⟨E[i],E[i + 1] - 1⟩]),⟨by simp only;omega,by simp;omega,.inr ⟨L,_,rfl,hnr,hnt,by simp only;rw [← hL,List.append_assoc];exact hm⟩⟩,by simp only;omega,an (aM 700 701) (an (aM 701 700) ?_)⟩
              exact ab)
   · have g3:out = R:=by
       rw [Fe f hk] at g2
       rcases g2 with ⟨a,b⟩|⟨o,y,a,_,_,b⟩
       · rw [a,← b];rfl
       · rw [a,← b];rfl
     clear g2 hup hrg hf
     (refine w0 ?_;(repeat' first|refine W2.mk ?_ ?_|refine W1.mk fun hc=>?_))
     refine aO ?_
     exact dx rfl rfl rfl g3
end
theorem oH (s:List Kn) (r i:Nat) (h:i < s.length):aQ (s.take (i + 1)) r = aQ (s.take i) r ++ (if s[i].rep = (r:Int) + 1 then s[i].runs else []):=by
 rw [List.take_succ_eq_append_getElem h,j0]
theorem tT (g:List (List Rn)) (z:Nat) (h:z < g.length):aX id z (g.drop z) = (if g[z].length = 0 then [] else [⟨(z:Int) + 1,g[z]⟩]) ++ aX id (z + 1) (g.drop (z + 1)):=by
 rw [List.drop_eq_getElem_cons h];rfl
section
theorem qw (s:List Kn) (r:Nat) (hs:cC s):Fn Tryz.prog 138 [dZ s,iC .i64 ((r:Int) + 1)] (vK (aQ s r)):=by
 have hl0:=hs.1
 have htot:=hs.2
 refine fi Tryz.func138 Tryz.ntmps138 ?_
 (refine w0 ?_;(repeat' first|refine W2.mk ?_ ?_|refine W1.mk fun hc=>?_))
 refine cc (bv 5 700 132 2 rfl rfl) ?_
 refine ah (X:=Nat) (fun z=>z ≤ s.length)
   (fun z=>aJ [(0,dZ s),(1,iC .i64 ((r:Int) + 1)),(5,.row 700 0),(6,iC .i64 ((z:Nat):Int))] [(700,Ej (aQ (s.take z) r))]) (fun z=>s.length - z) 0 (Nat.zero_le _) ?_ ?_
 · exact ab
 · intro z hz
   by_cases hlt:z < s.length
   · have hsn:=oH s r z hlt
     have h1:=qd s z r
     have h2:=eX s r
     have h3:=hs.sz.at hlt
     by_cases c:s[z].rep = (r:Int) + 1
     · rw [if_pos c] at hsn
       generalize aQ (s.take z) r = A at *
       clear hs
       (refine w0 ?_;(repeat' first|refine W2.mk ?_ ?_|refine W1.mk fun hc=>?_))
       refine ⟨z + 1,hlt,by omega,an (aM 700 701) (an (aM 701 700) ?_)⟩
       rw [hsn]
       exact ab
     · rw [if_neg c,List.append_nil] at hsn
       generalize aQ (s.take z) r = A at *
       clear hs
       (refine w0 ?_;(repeat' first|refine W2.mk ?_ ?_|refine W1.mk fun hc=>?_))
       refine ⟨z + 1,hlt,by omega,?_⟩
       rw [hsn]
       exact ab
   · rw [List.take_of_length_le (show s.length ≤ z by omega)]
     generalize aQ s r = A at *
     (refine w0 ?_;(repeat' first|refine W2.mk ?_ ?_|refine W1.mk fun hc=>?_))
     refine aO ?_
     exact cn rfl rfl rfl
theorem Ff (op:Int) (g:List Rn → List Rn → List Rn) (a b:List Kn) (ha:cC a) (hb:cC b) (hM:∀ r,r < 16 → Fn Tryz.prog 184 [iC .i64 op,ej (aQ a r),ej (aQ b r)] (vK (g (aQ a r) (aQ b r)))) :
   Fn Tryz.prog 136 [iC .i64 op,dZ a,dZ b] (lG (oB g a b)):=by
 have hZ:(List.zipWith g (bT a) (bT b)).length = 16:=by rw [List.length_zipWith,bg,bg];rfl
 have hZg:∀ r (h:r < 16),(List.zipWith g (bT a) (bT b))[r]? = some (g (aQ a r) (aQ b r)):=fun r h=>by
   rw [List.getElem?_zipWith,bQ _ h,bQ _ h]
 generalize hQ:oB g a b = Q
 unfold oB at hQ
 generalize List.zipWith g (bT a) (bT b) = Z at *
 refine fi Tryz.func136 Tryz.ntmps136 ?_
 (refine w0 ?_;(repeat' first|refine W2.mk ?_ ?_|refine W1.mk fun hc=>?_))
 refine cc (bv 7 700 130 2 rfl rfl) ?_
 refine ah (X:=Nat × List Kn) (fun z=>z.1 ≤ 16 ∧ z.2.length ≤ z.1 ∧ z.2 ++ aX id z.1 (Z.drop z.1) = Q)
   (fun z=>aJ [(0,iC .i64 op),(1,dZ a),(2,dZ b),(7,.row 700 0),(8,iC .i64 (((z.1:Nat):Int) + 1))] [(700,.row 130 2 (z.2.map zv))]) (fun z=>16 - z.1) (0,[]) ⟨Nat.zero_le _,Nat.le_refl _,by simpa using hQ⟩ ?_ ?_
 · exact ab
 · rintro ⟨z,acc⟩ ⟨h1,h2,h3⟩
   simp only at h1 h2 h3 ⊢
   clear hQ
   by_cases hz:z < 16
   · have r1:=qw a z ha
     have r2:=qw b z hb
     have m:=(hM z hz).frz
     have hg:=hZg z hz
     obtain ⟨q1,q2⟩:=List.getElem?_eq_some_iff.1 hg
     rw [tT Z z q1,q2] at h3
     generalize aQ a z = ta at *
     generalize aQ b z = tb at *
     generalize g ta tb = L at *
     clear hZg hM ha hb hg
     by_cases hL:L.length = 0
     · rw [if_pos hL,List.nil_append] at h3
       (have ko1:=r1;have ko2:=r2;have kc1:=m;refine w0 ?_;(repeat' first|refine W2.mk ?_ ?_|refine W1.mk fun hc=>?_);all_goals clear kc1 ko2 ko1)
       refine ⟨(z + 1,acc),⟨by simp only;omega,by simp only;omega,h3⟩,by simp only;omega,?_⟩
       exact ab
     · rw [if_neg hL] at h3
       (have ko1:=r1;have ko2:=r2;have kc1:=m;refine w0 ?_;(repeat' first|refine W2.mk ?_ ?_|refine W1.mk fun hc=>?_);all_goals clear kc1 ko2 ko1)
       refine ⟨(z + 1,acc ++ [⟨(z:Int) + 1,L⟩]),⟨by simp only;omega,by simp;omega,by simp only;rw [List.append_assoc];exact h3⟩,by simp only;omega,an (aM 700 701) (an (aM 701 700) ?_)⟩
       exact ab
   · have h3':acc = Q:=by rw [← h3,List.drop_of_length_le (by omega)];simp [aX]
     clear hZg hM h3
     (refine w0 ?_;(repeat' first|refine W2.mk ?_ ?_|refine W1.mk fun hc=>?_))
     refine aO ?_
     exact dx rfl rfl rfl h3'
end
theorem jy (a b:List Rn) (n:Int):cw (a ++ b) n = (cw a n || cw b n):=by unfold cw;rw [List.any_append]
theorem yA {l:List Rn} {k:Nat} (h:k < l.length) (n:Int):cw (l.take (k + 1)) n = (cw (l.take k) n || (fV l[k] && (decide (l[k].fr ≤ n) && decide (n ≤ l[k].to)))):=by
 rw [aN l k h,jy];simp [cw]
theorem yB {l:List Rn} {k:Nat} {n:Int} (h:cw (l.take k) n = true):cw l n = true:=by
 rw [← List.take_append_drop k l,jy,h];rfl
theorem yC (a b:List Kn) (r:Nat):aQ (a ++ b) r = aQ a r ++ aQ b r:=by unfold aQ;rw [List.flatMap_append]
section
theorem IK (l:List Rn) (n:Int) (hl:l.length ≤ 1000000000):Fn Tryz.prog 152 [ej l,iC .i64 n] (cU (cw l n)):=by
 refine fi Tryz.func152 Tryz.ntmps152 ?_
 (refine w0 ?_;(repeat' first|refine W2.mk ?_ ?_|refine W1.mk fun hc=>?_))
 refine ah (X:=Nat) (fun k=>k ≤ l.length ∧ cw (l.take k) n = false) (fun k=>aJ [(1,iC .i64 n),(7,ej l),(8,iC .i64 (l.length:Nat)),(9,iC .i64 (k:Nat))] []) (fun k=>l.length - k) 0 ⟨Nat.zero_le _,rfl⟩ ?_ ?_
 · exact ab
 · rintro k ⟨h1,h2⟩
   by_cases hk:k < l.length
   · have a1:=tu l[k]
     have hs:=yA hk n
     rw [h2,Bool.false_or] at hs
     cases hr:fV l[k] with
     | false=>
       rw [hr] at a1 hs
       rw [Bool.false_and] at hs
       (have kc1:=a1;refine w0 ?_;(repeat' first|refine W2.mk ?_ ?_|refine W1.mk fun hc=>?_);all_goals clear kc1)
       refine ⟨k + 1,⟨by omega,hs⟩,by omega,?_⟩
       exact ab
     | true=>
       rw [hr] at a1 hs
       rw [Bool.true_and] at hs
       by_cases c:l[k].fr ≤ n ∧ n ≤ l[k].to
       · have ht:cw l n = true:=yB (by rw [hs,decide_eq_true c.1,decide_eq_true c.2];rfl)
         rw [ht]
         clear hs h2
         (have kc1:=a1;refine w0 ?_;(repeat' first|refine W2.mk ?_ ?_|refine W1.mk fun hc=>?_);all_goals clear kc1)
         refine aO ?_
         exact af rfl rfl
       · have hs:cw (l.take (k + 1)) n = false:=by
           rw [hs,← Bool.not_eq_true,Bool.and_eq_true,decide_eq_true_eq,decide_eq_true_eq];exact c
         clear h2
         (have kc1:=a1;refine w0 ?_;(repeat' first|refine W2.mk ?_ ?_|refine W1.mk fun hc=>?_);all_goals clear kc1)
         all_goals
           refine ⟨k + 1,⟨by omega,hs⟩,by omega,?_⟩
           exact ab
   · rw [List.take_of_length_le (by omega)] at h2
     rw [h2]
     (refine w0 ?_;(repeat' first|refine W2.mk ?_ ?_|refine W1.mk fun hc=>?_))
     refine aO ?_
     exact af rfl rfl
theorem Fg (s:List Kn) (r c:Int) (hs:cC s):Fn Tryz.prog 100 [dZ s,oQ r c] (cU (fD s r c)):=by
 have hl0:=hs.1
 have a1:=ei r c
 unfold fD
 cases hv:dF r c with
 | false=>
   rw [hv] at a1
   rw [Bool.false_and]
   clear hs
   refine fi Tryz.func100 Tryz.ntmps100 ?_
   (have kc1:=a1;refine w0 ?_;(repeat' first|refine W2.mk ?_ ?_|refine W1.mk fun hc=>?_);all_goals clear kc1)
   refine aO ?_
   exact af rfl rfl
 | true=>
   rw [hv] at a1
   rw [Bool.true_and]
   have hr1:1 ≤ r:=by unfold dF at hv;simp at hv;omega
   obtain ⟨q,hq⟩:∃ q:Nat,r = (q:Int) + 1:=⟨(r - 1).toNat,by omega⟩
   have hq2:(r - 1).toNat = q:=by omega
   rw [hq2]
   clear hv
   refine fi Tryz.func100 Tryz.ntmps100 ?_
   (have kc1:=a1;refine w0 ?_;(repeat' first|refine W2.mk ?_ ?_|refine W1.mk fun hc=>?_);all_goals clear kc1)
   refine ah (X:=Nat) (fun k=>k ≤ s.length ∧ cw (aQ (s.take k) q) c = false) (fun k=>aJ [(3,.ptr 3 0 0),(10,dZ s),(11,iC .i64 (s.length:Nat)),(12,iC .i64 (k:Nat))] [(3,.box 59 [iC .i64 r,iC .i64 c])]) (fun k=>s.length - k) 0 ⟨Nat.zero_le _,rfl⟩ ?_ ?_
   · exact ab
   · rintro k ⟨h1,h2⟩
     by_cases hk:k < s.length
     · have hz:=hs.sz.at hk
       have a2:=IK s[k].runs c (by omega)
       have hsn:=oH s q k hk
       by_cases e:s[k].rep = r
       · rw [if_pos (by omega)] at hsn
         cases hh:cw s[k].runs c with
         | true=>
           rw [hh] at a2
           have ht:cw (aQ s q) c = true:=by
             rw [← List.take_append_drop (k + 1) s,yC,jy,hsn,jy,hh];simp
           rw [ht]
           clear hsn h2 hs hq a1
           (have kc1:=a2;refine w0 ?_;(repeat' first|refine W2.mk ?_ ?_|refine W1.mk fun hc=>?_);all_goals clear kc1)
           refine aO ?_
           exact af rfl rfl
         | false=>
           rw [hh] at a2
           have h2:cw (aQ (s.take (k + 1)) q) c = false:=by rw [hsn,jy,h2,hh];rfl
           clear hsn hs hq a1
           (have kc1:=a2;refine w0 ?_;(repeat' first|refine W2.mk ?_ ?_|refine W1.mk fun hc=>?_);all_goals clear kc1)
           refine ⟨k + 1,⟨by omega,h2⟩,by omega,?_⟩
           exact ab
       · rw [if_neg (by omega),List.append_nil] at hsn
         have h2:cw (aQ (s.take (k + 1)) q) c = false:=by rw [hsn];exact h2
         clear hsn hs hq a1 a2
         (refine w0 ?_;(repeat' first|refine W2.mk ?_ ?_|refine W1.mk fun hc=>?_))
         refine ⟨k + 1,⟨by omega,h2⟩,by omega,?_⟩
         exact ab
     · rw [List.take_of_length_le (by omega)] at h2
       rw [h2]
       clear hs hq a1
       (refine w0 ?_;(repeat' first|refine W2.mk ?_ ?_|refine W1.mk fun hc=>?_))
       refine aO ?_
       exact af rfl rfl
theorem Fh (k:List Pc) (s:ByteArray) (r c:Int) (hk:eZ k) (hs:s.size ≤ 1000000000):Fn Tryz.prog 54 [cQ k,sC s,oQ r c] (cU (bZ k s r c)):=by
 have hl0:=hk.1
 refine fi Tryz.func54 Tryz.ntmps54 ?_
 (refine w0 ?_;(repeat' first|refine W2.mk ?_ ?_|refine W1.mk fun hc=>?_))
 refine ah (X:=Nat) (fun i=>i ≤ k.length ∧ bZ (k.take i) s r c = false) (fun i=>aJ [(1,sC s),(5,.ptr 5 0 0),(9,cQ k),(10,iC .i64 (k.length:Nat)),(11,iC .i64 (i:Nat))] [(5,.box 59 [iC .i64 r,iC .i64 c])]) (fun i=>k.length - i) 0 ⟨Nat.zero_le _,rfl⟩ ?_ ?_
 · exact ab
 · rintro i ⟨h1,h2⟩
   by_cases hi:i < k.length
   · have a1:=mY k[i].rg s hs
     have a2:=Fg k[i].set r c (hk.at hi)
     have hsn:bZ (k.take (i + 1)) s r c = (bR k[i].rg s && fD k[i].set r c):=by
       unfold bZ at h2 ⊢
       rw [aN k i hi,List.any_append,h2];simp
     cases hr:bR k[i].rg s with
     | false=>
       rw [hr] at a1 hsn
       rw [Bool.false_and] at hsn
       clear hk h2
       (have kc1:=a1;have kc2:=a2;refine w0 ?_;(repeat' first|refine W2.mk ?_ ?_|refine W1.mk fun hc=>?_);all_goals clear kc2 kc1)
       refine ⟨i + 1,⟨by omega,hsn⟩,by omega,?_⟩
       exact ab
     | true=>
       rw [hr] at a1 hsn
       rw [Bool.true_and] at hsn
       cases hh:fD k[i].set r c with
       | false=>
         rw [hh] at a2 hsn
         clear hk h2
         (have kc1:=a1;have kc2:=a2;refine w0 ?_;(repeat' first|refine W2.mk ?_ ?_|refine W1.mk fun hc=>?_);all_goals clear kc2 kc1)
         refine ⟨i + 1,⟨by omega,hsn⟩,by omega,?_⟩
         exact ab
       | true=>
         rw [hh] at a2 hsn
         have ht:bZ k s r c = true:=by
           unfold bZ at hsn ⊢
           rw [← List.take_append_drop (i + 1) k,List.any_append,hsn];rfl
         rw [ht]
         clear hk h2 hsn
         (have kc1:=a1;have kc2:=a2;refine w0 ?_;(repeat' first|refine W2.mk ?_ ?_|refine W1.mk fun hc=>?_);all_goals clear kc2 kc1)
         refine aO ?_
         exact af rfl rfl
   · rw [List.take_of_length_le (by omega)] at h2
     rw [h2]
     clear hk
     (refine w0 ?_;(repeat' first|refine W2.mk ?_ ?_|refine W1.mk fun hc=>?_))
     refine aO ?_
     exact af rfl rfl
theorem IL (s:List Kn) (r c:Int) (hs:cC s):Fn Tryz.prog 87 [dZ s,oQ r c] (cU (fD s r c)):=by
 have a1:=eL r c
 unfold fD
 cases hv:dF r c with
 | false=>
   rw [hv] at a1
   rw [Bool.false_and]
   clear hs
   refine fi Tryz.func87 Tryz.ntmps87 ?_
   (have kc1:=a1;refine w0 ?_;(repeat' first|refine W2.mk ?_ ?_|refine W1.mk fun hc=>?_);all_goals clear kc1)
   refine aO ?_
   exact af rfl rfl
 | true=>
   rw [hv] at a1
   rw [Bool.true_and]
   have hr1:1 ≤ r:=by unfold dF at hv;simp at hv;omega
   obtain ⟨q,rfl⟩:∃ q:Nat,r = (q:Int) + 1:=⟨(r - 1).toNat,by omega⟩
   have hq2:((q:Int) + 1 - 1).toNat = q:=by omega
   rw [hq2]
   have a2:=qw s q hs
   have hz:=eX s q
   have a3:=qv (aQ s q) c (by have:=hs.2;omega)
   clear hs hv hz
   generalize aQ s q = T at *
   refine fi Tryz.func87 Tryz.ntmps87 ?_
   (have kc1:=a1;have kc2:=a2;have kc3:=a3;refine w0 ?_;(repeat' first|refine W2.mk ?_ ?_|refine W1.mk fun hc=>?_);all_goals clear kc3 kc2 kc1)
   refine aO ?_
   exact af rfl rfl
theorem zW (k:List Pc) (s:ByteArray) (r c:Int) (hk:eZ k) (hs:s.size ≤ 1000000000):Fn Tryz.prog 44 [cQ k,sC s,oQ r c] (cU (bZ k s r c)):=by
 have hl0:=hk.1
 refine fi Tryz.func44 Tryz.ntmps44 ?_
 (refine w0 ?_;(repeat' first|refine W2.mk ?_ ?_|refine W1.mk fun hc=>?_))
 refine ah (X:=Nat) (fun i=>i ≤ k.length ∧ bZ (k.take i) s r c = false) (fun i=>aJ [(0,cQ k),(1,sC s),(5,.ptr 5 0 0),(7,iC .i64 (i:Nat))] [(5,.box 59 [iC .i64 r,iC .i64 c])]) (fun i=>k.length - i) 0 ⟨Nat.zero_le _,rfl⟩ ?_ ?_
 · exact ab
 · rintro i ⟨h1,h2⟩
   by_cases hi:i < k.length
   · have a1:=n5 k[i].rg s hs
     have a2:=IL k[i].set r c (hk.at hi)
     have hsn:bZ (k.take (i + 1)) s r c = (bR k[i].rg s && fD k[i].set r c):=by
       unfold bZ at h2 ⊢
       rw [aN k i hi,List.any_append,h2];simp
     cases hr:bR k[i].rg s with
     | false=>
       rw [hr] at a1 hsn
       rw [Bool.false_and] at hsn
       clear hk h2
       (have kc1:=a1;have kc2:=a2;refine w0 ?_;(repeat' (first|refine W2.mk ?_ ?_|refine W1.mk fun hc=>?_|((first|apply aB rfl|apply aC rfl|apply aD rfl|apply aF rfl);(focus (first|((apply ax 5;(focus rfl);first|exact au ⟨rfl,rfl,rfl⟩ rfl inferInstance inferInstance rfl rfl rfl rfl|exact av ⟨rfl,rfl,rfl⟩ rfl inferInstance inferInstance rfl rfl rfl rfl))|(apply bt;(focus rfl);apply ag rfl rfl rfl rfl rfl;first|((apply ax 5;(focus rfl);first|exact au ⟨rfl,rfl,rfl⟩ rfl inferInstance inferInstance rfl rfl rfl rfl|exact av ⟨rfl,rfl,rfl⟩ rfl inferInstance inferInstance rfl rfl rfl rfl)))));refine w0 ?_)));all_goals clear kc2 kc1)
       refine ⟨i + 1,⟨by omega,hsn⟩,by omega,?_⟩
       exact ab
     | true=>
       rw [hr] at a1 hsn
       rw [Bool.true_and] at hsn
       cases hh:fD k[i].set r c with
       | false=>
         rw [hh] at a2 hsn
         clear hk h2
         (have kc1:=a1;have kc2:=a2;refine w0 ?_;(repeat' (first|refine W2.mk ?_ ?_|refine W1.mk fun hc=>?_|((first|apply aB rfl|apply aC rfl|apply aD rfl|apply aF rfl);(focus (first|((apply ax 5;(focus rfl);first|exact au ⟨rfl,rfl,rfl⟩ rfl inferInstance inferInstance rfl rfl rfl rfl|exact av ⟨rfl,rfl,rfl⟩ rfl inferInstance inferInstance rfl rfl rfl rfl))|(apply bt;(focus rfl);apply ag rfl rfl rfl rfl rfl;first|((apply ax 5;(focus rfl);first|exact au ⟨rfl,rfl,rfl⟩ rfl inferInstance inferInstance rfl rfl rfl rfl|exact av ⟨rfl,rfl,rfl⟩ rfl inferInstance inferInstance rfl rfl rfl rfl)))));refine w0 ?_)));all_goals clear kc2 kc1)
         refine ⟨i + 1,⟨by omega,hsn⟩,by omega,?_⟩
         exact ab
       | true=>
         rw [hh] at a2 hsn
         have ht:bZ k s r c = true:=by
           unfold bZ at hsn ⊢
           rw [← List.take_append_drop (i + 1) k,List.any_append,hsn];rfl
         rw [ht]
         clear hk h2 hsn
         (have kc1:=a1;have kc2:=a2;refine w0 ?_;(repeat' (first|refine W2.mk ?_ ?_|refine W1.mk fun hc=>?_|((first|apply aB rfl|apply aC rfl|apply aD rfl|apply aF rfl);(focus (first|((apply ax 5;(focus rfl);first|exact au ⟨rfl,rfl,rfl⟩ rfl inferInstance inferInstance rfl rfl rfl rfl|exact av ⟨rfl,rfl,rfl⟩ rfl inferInstance inferInstance rfl rfl rfl rfl))|(apply bt;(focus rfl);apply ag rfl rfl rfl rfl rfl;first|((apply ax 5;(focus rfl);first|exact au ⟨rfl,rfl,rfl⟩ rfl inferInstance inferInstance rfl rfl rfl rfl|exact av ⟨rfl,rfl,rfl⟩ rfl inferInstance inferInstance rfl rfl rfl rfl)))));refine w0 ?_)));all_goals clear kc2 kc1)
         refine aO ?_
         exact af rfl rfl
   · rw [List.take_of_length_le (by omega)] at h2
     rw [h2]
     clear hk
     (refine w0 ?_;(repeat' first|refine W2.mk ?_ ?_|refine W1.mk fun hc=>?_))
     refine aO ?_
     exact af rfl rfl
theorem qx (l:List Rg) (s:ByteArray) (hok:cG l) (hl:l.length ≤ 1000000000) (hs:s.size ≤ 1000000000):Fn Tryz.prog 80 [.per (ef l),sC s] (cU (bn l s)):=by
 have h0:=jp l hl true (by simp [hok])
 have h1:Fn Tryz.prog 132 [.per (ef l)] (.per (ef l)):=by
   refine fi Tryz.func132 Tryz.ntmps132 ?_
   (have kc1:=h0;refine w0 ?_;(repeat' first|refine W2.mk ?_ ?_|refine W1.mk fun hc=>?_);all_goals clear kc1)
   refine aO ?_
   exact b0 rfl
 obtain ⟨p,hp,hlt⟩:=zH hok s
 have h2:=wb l s hs hl p hp hlt
 have hA:=Ey hok hlt
 rw [hA]
 clear hA hlt hok h0
 by_cases hn:p < l.length
 · have h3:=mY l[p] s hs
   rw [List.getElem?_eq_getElem hn]
   simp only
   refine fi Tryz.func80 Tryz.ntmps80 ?_
   (have kc1:=h1;have kc2:=h2;have kc3:=h3;refine w0 ?_;(repeat' first|refine W2.mk ?_ ?_|refine W1.mk fun hc=>?_);all_goals clear kc3 kc2 kc1)
   refine aO ?_
   exact af rfl rfl
 · rw [List.getElem?_eq_none (by omega)]
   simp only
   refine fi Tryz.func80 Tryz.ntmps80 ?_
   (have kc1:=h1;have kc2:=h2;refine w0 ?_;(repeat' first|refine W2.mk ?_ ?_|refine W1.mk fun hc=>?_);all_goals clear kc2 kc1)
   refine aO ?_
   exact af rfl rfl
end
end Go.Proofs.YtembiemaiacdfaaGreat
