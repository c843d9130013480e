/- Texts joined: Rcn Rcm Rset StH. -/
import Derived.Test.YtembiemaiacdfaaGreatJ14
import Derived.Test.YtembiemaiacdfaaGreatJ05
import Derived.Test.YtembiemaiacdfaaGreatJ16
import Derived.Test.YtembiemaiacdfaaGreatJ23
import Derived.Test.YtembiemaiacdfaaGreatJ19
import Derived.Test.YtembiemaiacdfaaGreatJ22
import Derived.Test.YtembiemaiacdfaaGreatJ17
set_option maxRecDepth 10000
set_option maxHeartbeats 8000000
namespace Go.Proofs.YtembiemaiacdfaaGreat
open Go.RowKit
theorem Ji:∀ (l:List Int) (n:Int) (k:Nat),k ≤ l.length → (∀ j (h:j < l.length),j < k → l[j] < n) → (∀ h:k < l.length,¬ l[k] < n) →
   ((∃ h:k < l.length,l[k] = n) → fM l n = l) ∧ ((¬ ∃ h:k < l.length,l[k] = n) → fM l n = l.take k ++ n :: l.drop k):=by
 intro l
 induction l with
 | nil=>
   intro n k hk _ _
   obtain rfl:k = 0:=by simpa using hk
   exact ⟨fun ⟨h,_⟩=>by simp at h,fun _=>rfl⟩
 | cons x l ih=>
   intro n k hk h1 h2
   cases k with
   | zero=>
     have:=h2 (by simp)
     simp only [List.getElem_cons_zero] at this
     rw [fM,if_neg this]
     refine ⟨fun ⟨_,e⟩=>?_,fun e=>?_⟩
     · simp only [List.getElem_cons_zero] at e
       rw [if_pos e]
     · rw [if_neg (fun q=>e ⟨by simp,by simpa using q⟩)]
       rfl
   | succ k=>
     have h3:=h1 0 (by simp) (by omega)
     simp only [List.getElem_cons_zero] at h3
     have:=ih n k (by simpa using hk) (fun j hj hjk=>by have:=h1 (j + 1) (by simpa using hj) (by omega);simpa using this) (fun h=>by have:=h2 (by simpa using h);simpa using this)
     rw [fM,if_pos h3]
     refine ⟨fun ⟨h,e⟩=>?_,fun e=>?_⟩
     · rw [this.1 ⟨by simpa using h,by simpa using e⟩]
     · rw [this.2 (fun ⟨h,q⟩=>e ⟨by simpa using h,by simpa using q⟩)]
       rfl
section
variable {P:Program} {n:Nat} {S:St}
theorem pw {t k:Nat} {es es':List (List PV)} (h:S.get t = .per (ct k es)) (e:es = es'):bQ P n S (.tmp t) (.per (ct k es')):=cu (e ▸ h)
end
abbrev M5 (n:Int):List PV:=[aq (.int .i64 n)]
abbrev FY (l:List Int):PV:=ct 1 (l.map M5)
abbrev wN (l:List Int):Cnt:=.per (FY l)
section
theorem nk (l:List Int) (n:Int) (hl:l.length ≤ 1000000000):Fn Tryz.prog 246 [wN l,iC .i64 n] (.per (FY (fM l n))):=by
 generalize hR:fM l n = R
 refine fi Tryz.func246 Tryz.ntmps246 ?_
 (refine w0 ?_;(repeat' first|refine W2.mk ?_ ?_|refine W1.mk fun hc=>?_))
 refine ah (X:=Nat) (fun k=>k ≤ l.length ∧ ∀ j (h:j < l.length),j < k → l[j] < n)
   (fun k=>aN [(0,wN l),(1,iC .i64 n),(5,iC .i64 ((k:Nat):Int))] []) (fun k=>l.length - k) 0 ⟨Nat.zero_le _,fun j _ h=>by omega⟩ ?_ ?_
 · exact ab
 · rintro k ⟨h1,h2⟩
   by_cases hgo:∃ h:k < l.length,l[k] < n
   · obtain ⟨hk,hlt⟩:=hgo
     have h2':∀ j (h:j < l.length),j < k + 1 → l[j] < n:=fun j h hj=>by
       rcases Nat.lt_or_ge j k with q|q
       · exact h2 j h q
       · obtain rfl:j = k:=by omega
         exact hlt
     clear hR h2
     (refine w0 ?_;(repeat' first|refine W2.mk ?_ ?_|refine W1.mk fun hc=>?_))
     refine ⟨k + 1,⟨hk,h2'⟩,by omega,?_⟩
     exact ab
   · have hP:=Ji l n k h1 h2 (fun h q=>hgo ⟨h,q⟩)
     clear h2
     by_cases hk:k < l.length
     · have hge:¬ l[k] < n:=fun q=>hgo ⟨hk,q⟩
       by_cases he:l[k] = n
       · have hR':l = R:=by rw [← hR,hP.1 ⟨hk,he⟩]
         clear hR hP hgo
         (refine w0 ?_;(repeat' first|refine W2.mk ?_ ?_|refine W1.mk fun hc=>?_))
         refine aQ ?_
         exact pc rfl hR'
       · have hR':l.take k ++ n :: l.drop k = R:=by rw [← hR,hP.2 (fun ⟨_,q⟩=>he q)]
         clear hR hP hgo
         (refine w0 ?_;(repeat' first|refine W2.mk ?_ ?_|refine W1.mk fun hc=>?_))
         refine js (bz 34 700 3 1 rfl rfl) ?_
         (refine w0 ?_;(repeat' first|refine W2.mk ?_ ?_|refine W1.mk fun hc=>?_))
         refine ⟨.inl rfl,j7 (iv 700 _ 3 1 rfl rfl) (DW rfl (pw rfl (by rw [← hR'];simp [List.map_take,List.map_drop];rfl)))⟩
     · have hR':l.take k ++ n :: l.drop k = R:=by rw [← hR,hP.2 (fun ⟨q,_⟩=>hk q)]
       clear hR hP hgo
       (refine w0 ?_;(repeat' first|refine W2.mk ?_ ?_|refine W1.mk fun hc=>?_))
       refine js (bz 34 700 3 1 rfl rfl) ?_
       (refine w0 ?_;(repeat' first|refine W2.mk ?_ ?_|refine W1.mk fun hc=>?_))
       refine ⟨.inl rfl,j7 (iv 700 _ 3 1 rfl rfl) (DW rfl (pw rfl (by rw [← hR'];simp [List.map_take,List.map_drop];rfl)))⟩
theorem wO:∀ (l:List Int) (n:Int),(fM l n).length ≤ l.length + 1:=by
 intro l
 induction l with
 | nil=>intro n;simp [fM]
 | cons x l ih=>
   intro n
   rw [fM]
   split
   · have:=ih n;simp;omega
   · split <;> simp
theorem sG (e:List Int) (l:List Rn) (k:Nat) (h:k < l.length):d7 e (l.take (k + 1)) = m5 (d7 e (l.take k)) l[k]:=by
 unfold d7
 rw [List.take_succ_eq_append_getElem h,List.foldl_append]
 rfl
theorem l9 (e:List Int) (l:List Rn) (k:Nat):(d7 e (l.take k)).length ≤ e.length + 2 * l.length:=by
 have h:=m6 (l.take k) e
 rw [List.length_take] at h
 omega
theorem zd (a b:List Rn) (ha:a.length ≤ 100000000) (hb:b.length ≤ 100000000):Fn Tryz.prog 208 [eC a,eC b] (.per (FY (d7 (d7 [] a) b))):=by
 have lA:=m6 a []
 simp only [List.length_nil,Nat.zero_add] at lA
 generalize hR:d7 (d7 [] a) b = R
 refine fi Tryz.func208 Tryz.ntmps208 ?_
 (refine w0 ?_;(repeat' first|refine W2.mk ?_ ?_|refine W1.mk fun hc=>?_))
 refine ck (bz 5 700 3 1 rfl rfl) (ck (iv 700 _ 3 1 rfl rfl) ?_)
 refine ah (X:=Nat) (fun k=>k ≤ a.length)
   (fun k=>aN [(0,eC a),(1,eC b),(5,wN (d7 [] (a.take k))),(6,iC .i64 ((k:Nat):Int))] []) (fun k=>a.length - k) 0 (Nat.zero_le _) ?_ ?_
 · exact ab
 · intro k hk
   by_cases hlt:k < a.length
   · have hs:=sG [] a k hlt
     have hlen:=l9 [] a k
     simp only [List.length_nil,Nat.zero_add] at hlen
     have c0:=mZ a[k]
     generalize d7 [] (a.take k) = E at *
     clear hR
     cases hr:ga a[k] with
     | true=>
       have hi:=(bu _).1 hr
       rw [hr] at c0
       have c1:=nk E a[k].fr (by omega)
       have hp:=wO E a[k].fr
       have c2:=nk (fM E a[k].fr) (a[k].to + 1) (by omega)
       rw [m5,if_pos hr] at hs
       generalize fM E a[k].fr = E1 at *
       generalize fM E1 (a[k].to + 1) = E2 at *
       (have kc1:=c0;have kf1:=c1;have kf2:=c2;refine w0 ?_;(repeat' first|refine W2.mk ?_ ?_|refine W1.mk fun hc=>?_);all_goals clear kf2 kf1 kc1)
       refine ⟨k + 1,hlt,by omega,?_⟩
       rw [hs]
       exact ab
     | false=>
       rw [hr] at c0
       rw [m5,if_neg (by simp [hr])] at hs
       (have kc1:=c0;refine w0 ?_;(repeat' first|refine W2.mk ?_ ?_|refine W1.mk fun hc=>?_);all_goals clear kc1)
       refine ⟨k + 1,hlt,by omega,?_⟩
       rw [hs]
       exact ab
   · rw [List.take_of_length_le (show a.length ≤ k by omega)]
     generalize d7 [] a = E0 at *
     (refine w0 ?_;(repeat' first|refine W2.mk ?_ ?_|refine W1.mk fun hc=>?_))
     refine ah (X:=Nat) (fun k=>k ≤ b.length)
       (fun k=>aN [(1,eC b),(5,wN (d7 E0 (b.take k))),(7,iC .i64 ((k:Nat):Int))] []) (fun k=>b.length - k) 0 (Nat.zero_le _) ?_ ?_
     · exact ab
     · clear hlt hk
       intro k hk
       by_cases hlt:k < b.length
       · have hs:=sG E0 b k hlt
         have hlen:=l9 E0 b k
         have c0:=mZ b[k]
         generalize d7 E0 (b.take k) = E at *
         clear hR
         cases hr:ga b[k] with
         | true=>
           have hi:=(bu _).1 hr
           rw [hr] at c0
           have c1:=nk E b[k].fr (by omega)
           have hp:=wO E b[k].fr
           have c2:=nk (fM E b[k].fr) (b[k].to + 1) (by omega)
           rw [m5,if_pos hr] at hs
           generalize fM E b[k].fr = E1 at *
           generalize fM E1 (b[k].to + 1) = E2 at *
           (have kc1:=c0;have kf1:=c1;have kf2:=c2;refine w0 ?_;(repeat' first|refine W2.mk ?_ ?_|refine W1.mk fun hc=>?_);all_goals clear kf2 kf1 kc1)
           refine ⟨k + 1,hlt,by omega,?_⟩
           rw [hs]
           exact ab
         | false=>
           rw [hr] at c0
           rw [m5,if_neg (by simp [hr])] at hs
           (have kc1:=c0;refine w0 ?_;(repeat' first|refine W2.mk ?_ ?_|refine W1.mk fun hc=>?_);all_goals clear kc1)
           refine ⟨k + 1,hlt,by omega,?_⟩
           rw [hs]
           exact ab
       · rw [List.take_of_length_le (show b.length ≤ k by omega),hR]
         (refine w0 ?_;(repeat' first|refine W2.mk ?_ ?_|refine W1.mk fun hc=>?_))
         refine aQ ?_
         exact pc rfl rfl
theorem qI (l:List Rn) (n:Int) (hl:l.length ≤ 1000000000):Fn Tryz.prog 137 [eC l,iC .i64 n] (bO (cB l n)):=by
 generalize hT:cB l n = T
 refine fi Tryz.func137 Tryz.ntmps137 ?_
 (refine w0 ?_;(repeat' first|refine W2.mk ?_ ?_|refine W1.mk fun hc=>?_))
 refine ah (X:=Nat) (fun i=>i ≤ l.length ∧ cB (l.drop i) n = T)
   (fun i=>aN [(0,eC l),(1,iC .i64 n),(5,iC .i64 ((i:Nat):Int))] []) (fun i=>l.length - i) 0 ⟨Nat.zero_le _,by simpa using hT⟩ ?_ ?_
 · exact ab
 · rintro i ⟨h1,h2⟩
   clear hT
   by_cases hlt:i < l.length
   · rw [List.drop_eq_getElem_cons hlt,cB,List.any_cons,← cB] at h2
     have c0:=mZ l[i]
     cases hr:ga l[i] with
     | true=>
       rw [hr] at c0
       rw [hr,Bool.true_and] at h2
       by_cases c1:l[i].fr ≤ n
       · by_cases c2:n ≤ l[i].to
         · rw [decide_eq_true c1,decide_eq_true c2,Bool.true_and,Bool.true_or] at h2
           subst h2
           (have kc1:=c0;refine w0 ?_;(repeat' first|refine W2.mk ?_ ?_|refine W1.mk fun hc=>?_);all_goals clear kc1)
           refine aQ ?_
           exact af rfl rfl
         · rw [decide_eq_true c1,decide_eq_false c2,Bool.true_and,Bool.false_or] at h2
           (have kc1:=c0;refine w0 ?_;(repeat' first|refine W2.mk ?_ ?_|refine W1.mk fun hc=>?_);all_goals clear kc1)
           refine ⟨i + 1,⟨hlt,h2⟩,by omega,?_⟩
           exact ab
       · rw [decide_eq_false c1,Bool.false_and,Bool.false_or] at h2
         (have kc1:=c0;refine w0 ?_;(repeat' first|refine W2.mk ?_ ?_|refine W1.mk fun hc=>?_);all_goals clear kc1)
         refine ⟨i + 1,⟨hlt,h2⟩,by omega,?_⟩
         exact ab
     | false=>
       rw [hr] at c0
       rw [hr,Bool.false_and,Bool.false_or] at h2
       (have kc1:=c0;refine w0 ?_;(repeat' first|refine W2.mk ?_ ?_|refine W1.mk fun hc=>?_);all_goals clear kc1)
       refine ⟨i + 1,⟨hlt,h2⟩,by omega,?_⟩
       exact ab
   · have h2':false = T:=by
       rw [List.drop_of_length_le (by omega)] at h2
       exact h2
     subst h2'
     clear h2
     (refine w0 ?_;(repeat' first|refine W2.mk ?_ ?_|refine W1.mk fun hc=>?_))
     refine aQ ?_
     exact af rfl rfl
end
theorem CC (f:Int → Bool) {E:List Int} {i:Nat} (h:i + 1 < E.length):gB f (E.drop i) = (if f E[i] then [⟨E[i],E[i + 1] - 1⟩] else []) ++ gB f (E.drop (i + 1)):=by
 rw [List.drop_eq_getElem_cons (show i < E.length by omega),List.drop_eq_getElem_cons h,gB]
theorem FZ (f:Int → Bool) {E:List Int} {i:Nat} (h:¬ i + 1 < E.length):gB f (E.drop i) = []:=by
 by_cases c:i < E.length
 · rw [List.drop_eq_getElem_cons c,List.drop_of_length_le (by omega)];rfl
 · rw [List.drop_of_length_le (by omega)];rfl
def LP (x y:Bool):Bool:=x || y
section
theorem mA (a b:List Rn) (ha:a.length ≤ 100000000) (hb:b.length ≤ 100000000) :
   Fn Tryz.prog 184 [iC .i64 1,eC a,eC b] (wk (Ht (rK LP a b) a b)):=by
 have hE:=zd a b ha hb
 have hup:Fd (d7 (d7 [] a) b):=pj _ _ (pj _ _ List.Pairwise.nil)
 have hrg:∀ m ∈ d7 (d7 [] a) b,1 ≤ m ∧ m ≤ 1099511627777:=fun m hm=>Ay hm
 have hln:=m6 b (d7 [] a)
 have hln2:=m6 a []
 simp only [List.length_nil,Nat.zero_add] at hln2
 have hbE:(d7 (d7 [] a) b).length ≤ 400000000:=by omega
 clear hln hln2
 unfold Ht
 have hf:∀ n,rK LP a b n = LP (cB a n) (cB b n):=fun _=>rfl
 generalize rK LP a b = f at *
 generalize d7 (d7 [] a) b = E at *
 generalize hR:jo (gB f E) = R
 refine fi Tryz.func184 Tryz.ntmps184 ?_
 (have kc1:=hE;refine w0 ?_;(repeat' first|refine W2.mk ?_ ?_|refine W1.mk fun hc=>?_);all_goals clear kc1)
 clear hE
 refine ck (bz 8 700 132 2 rfl rfl) ?_
 refine ah (X:=Nat × List Rn) (fun x=>x.1 ≤ E.length ∧ x.2.length ≤ x.1 ∧ ((x.2 = [] ∧ jo (gB f (E.drop x.1)) = R) ∨ ∃ o y,x.2 = o ++ [y] ∧ ga y = true ∧ (∀ h:x.1 < E.length,y.to + 1 ≤ E[x.1]) ∧ o ++ wa y (gB f (E.drop x.1)) = R))
   (fun x=>aN [(0,iC .i64 1),(1,eC a),(2,eC b),(7,wN E),(8,.row 700 0),(9,iC .i64 ((x.1:Nat):Int))] [(700,Fc x.2)]) (fun x=>E.length - x.1) (0,[]) ⟨Nat.zero_le _,Nat.le_refl _,.inl ⟨rfl,by simpa using hR⟩⟩ ?_ ?_
 · exact ab
 · rintro ⟨i,out⟩ ⟨g1,g0,g2⟩
   simp only at g1 g0 g2 ⊢
   clear hR
   by_cases hk:i + 1 < E.length
   · have hi:i < E.length:=by omega
     have b1:=hrg _ (List.getElem_mem hi)
     have b2:=hrg _ (List.getElem_mem hk)
     have b3:=List.pairwise_iff_getElem.1 hup i (i + 1) hi hk (by omega)
     have hst:=CC f hk
     rw [hf] at hst
     have c1:=qI a E[i] (by omega)
     have c2:=qI b E[i] (by omega)
     clear hrg hup hf
     have hnr:ga ⟨E[i],E[i + 1] - 1⟩ = true:=(bu _).2 (by simp only;omega)
     have hnt:∀ h:i + 1 < E.length,(⟨E[i],E[i + 1] - 1⟩:Rn).to + 1 ≤ E[i + 1]:=fun _=>by simp only;omega
     generalize gB f (E.drop i) = T0 at *
     generalize cB a E[i] = x at *
     generalize cB b E[i] = y at *
     obtain ⟨K,hK⟩:∃ K,K = LP x y:=⟨_,rfl⟩
     rw [← hK] at hst
     cases x <;> cases y <;> first
       | (have hK2:K = false:=hK
          subst hK2
          rw [if_neg Bool.false_ne_true,List.nil_append] at hst
          subst hst
          have g2':(out = [] ∧ jo (gB f (E.drop (i + 1))) = R) ∨ ∃ o y,out = o ++ [y] ∧ ga y = true ∧ (∀ h:i + 1 < E.length,y.to + 1 ≤ E[i + 1]) ∧ o ++ wa y (gB f (E.drop (i + 1))) = R:=by
            rcases g2 with g2|⟨o,y,h1,h2,h3,h4⟩
            · exact .inl g2
            · exact .inr ⟨o,y,h1,h2,fun h=>by have:=h3 hi;omega,h4⟩
          clear g2 hK
          (have ke1:=Lib.hid ((show ((i:Nat):Int) + 1 = ((i + 1:Nat):Int) by omega));have kf1:=c1;have kf2:=c2;refine bq ?_;(repeat' first|refine W2.mk ?_ ?_|refine W1.mk fun hc=>?_);all_goals clear kf2 kf1 ke1)
          refine ⟨(i + 1,out),⟨by simp only;omega,by simp only;omega,g2'⟩,by simp only;omega,?_⟩
          exact ab)
       | (have hK2:K = true:=hK
          subst hK2
          rw [if_pos rfl] at hst
          subst hst
          clear hK
          rcases g2 with ⟨ho,hm⟩|⟨o,z,ho,hz,hb,hm⟩
          · subst ho
            (have ke1:=Lib.hid ((show ((i:Nat):Int) + 1 = ((i + 1:Nat):Int) by omega));have kf1:=c1;have kf2:=c2;refine bq ?_;(repeat' first|refine W2.mk ?_ ?_|refine W1.mk fun hc=>?_);all_goals clear kf2 kf1 ke1)
            refine ⟨(i + 1,[⟨E[i],E[i + 1] - 1⟩]),⟨by simp only;omega,by simp,.inr ⟨[],_,rfl,hnr,hnt,hm⟩⟩,by simp only;omega,ak (aM 700 701) (ak (aM 701 700) ?_)⟩
            exact ab
          · subst ho
            have hzi:=(bu z).1 hz
            have hbz:=hb hi
            rw [show ([(⟨E[i],E[i + 1] - 1⟩:Rn)] ++ gB f (E.drop (i + 1))) = (⟨E[i],E[i + 1] - 1⟩:Rn) :: gB f (E.drop (i + 1)) from rfl,wa] at hm
            simp only at hm
            have hL1:(o ++ [z]).length = o.length + 1:=by simp
            have hM:max z.to (E[i + 1] - 1) = E[i + 1] - 1:=by omega
            have hmr:ga ⟨z.fr,E[i + 1] - 1⟩ = true:=(bu _).2 (by simp only;omega)
            rw [hM] at hm
            generalize hL:o ++ [z] = L at *
            have hLi:((L.length:Int) - 1).toNat = o.length:=by omega
            have HY:(L.map rnP)[((L.length:Int) - 1).toNat]? = some (rnP z):=by
              rw [List.getElem?_map,hLi,← hL]
              simp
            have HS1:(L.map rnP).set ((L.length:Int) - 1).toNat (bI (rnP z) 1 [aq (.int .i64 (E[i + 1] - 1))]) = (o ++ [(⟨z.fr,E[i + 1] - 1⟩:Rn)]).map rnP:=by
              rw [show (L.map rnP).set ((L.length:Int) - 1).toNat (bI (rnP z) 1 [aq (.int .i64 (E[i + 1] - 1))]) = (L.set ((L.length:Int) - 1).toNat ⟨z.fr,E[i + 1] - 1⟩).map rnP from eS rnP L _ (⟨z.fr,E[i + 1] - 1⟩:Rn),← hL,gb o z _ [] _ (by rw [hL];omega)]
            have hML:(o ++ [(⟨z.fr,E[i + 1] - 1⟩:Rn)]).length = L.length:=by rw [← hL];simp
            by_cases c:z.to = E[i] - 1
            · rw [if_pos (by omega)] at hm
              (have ke1:=Lib.hid ((show ((i:Nat):Int) + 1 = ((i + 1:Nat):Int) by omega));have kf1:=c1;have kf2:=c2;refine bq ?_;(repeat' (first|refine W2.mk ?_ ?_|refine W1.mk fun hc=>?_|((first|apply aD rfl|apply aF rfl|apply aG rfl|apply aH rfl);(focus (first|((apply az 5;(focus rfl);exact aw ⟨rfl,rfl,rfl⟩ rfl inferInstance rfl rfl rfl HY rfl))|((apply az 6;(focus rfl);exact al ⟨rfl,rfl⟩ rfl inferInstance rfl rfl rfl rfl HY rfl (aK rfl rfl rfl) rfl HS1))|(apply bx;(focus rfl);apply ag rfl rfl rfl rfl rfl;first|((apply az 5;(focus rfl);exact aw ⟨rfl,rfl,rfl⟩ rfl inferInstance rfl rfl rfl HY rfl))|((apply az 6;(focus rfl);exact al ⟨rfl,rfl⟩ rfl inferInstance rfl rfl rfl rfl HY rfl (aK rfl rfl rfl) rfl HS1)))));refine bq ?_)));all_goals clear kf2 kf1 ke1)
              refine ⟨(i + 1,_),⟨by simp only;omega,by simp only;omega,.inr ⟨o,_,rfl,hmr,fun _=>by simp only;omega,hm⟩⟩,by simp only;omega,?_⟩
              exact ab
            · rw [if_neg (by omega)] at hm
              (have ke1:=Lib.hid ((show ((i:Nat):Int) + 1 = ((i + 1:Nat):Int) by omega));have kf1:=c1;have kf2:=c2;refine bq ?_;(repeat' (first|refine W2.mk ?_ ?_|refine W1.mk fun hc=>?_|((first|apply aD rfl|apply aF rfl|apply aG rfl|apply aH rfl);(focus (first|((apply az 5;(focus rfl);exact aw ⟨rfl,rfl,rfl⟩ rfl inferInstance rfl rfl rfl HY rfl))|(apply bx;(focus rfl);apply ag rfl rfl rfl rfl rfl;first|((apply az 5;(focus rfl);exact aw ⟨rfl,rfl,rfl⟩ rfl inferInstance rfl rfl rfl HY rfl)))));refine bq ?_)));all_goals clear kf2 kf1 ke1)
              refine ⟨(i + 1,L ++ [⟨E[i],E[i + 1] - 1⟩]),⟨by simp only;omega,by simp;omega,.inr ⟨L,_,rfl,hnr,hnt,by simp only;rw [← hL,List.append_assoc];exact hm⟩⟩,by simp only;omega,ak (aM 700 701) (ak (aM 701 700) ?_)⟩
              exact ab)
   · have g3:out = R:=by
       rw [FZ f hk] at g2
       rcases g2 with ⟨a,b⟩|⟨o,y,a,_,_,b⟩
       · rw [a,← b];rfl
       · rw [a,← b];rfl
     clear g2 hup hrg hf
     (refine w0 ?_;(repeat' first|refine W2.mk ?_ ?_|refine W1.mk fun hc=>?_))
     refine aQ ?_
     exact dq rfl rfl rfl g3
end
theorem oX (s:List Kn) (r i:Nat) (h:i < s.length):aC (s.take (i + 1)) r = aC (s.take i) r ++ (if s[i].rep = (r:Int) + 1 then s[i].runs else []):=by
 rw [List.take_succ_eq_append_getElem h,kf]
theorem ut (g:List (List Rn)) (z:Nat) (h:z < g.length):aX id z (g.drop z) = (if g[z].length = 0 then [] else [⟨(z:Int) + 1,g[z]⟩]) ++ aX id (z + 1) (g.drop (z + 1)):=by
 rw [List.drop_eq_getElem_cons h];rfl
section
theorem qJ (s:List Kn) (r:Nat) (hs:cD s):Fn Tryz.prog 138 [eh s,iC .i64 ((r:Int) + 1)] (wk (aC s r)):=by
 have hl0:=hs.1
 have htot:=hs.2
 refine fi Tryz.func138 Tryz.ntmps138 ?_
 (refine w0 ?_;(repeat' first|refine W2.mk ?_ ?_|refine W1.mk fun hc=>?_))
 refine ck (bz 5 700 132 2 rfl rfl) ?_
 refine ah (X:=Nat) (fun z=>z ≤ s.length)
   (fun z=>aN [(0,eh s),(1,iC .i64 ((r:Int) + 1)),(5,.row 700 0),(6,iC .i64 ((z:Nat):Int))] [(700,Fc (aC (s.take z) r))]) (fun z=>s.length - z) 0 (Nat.zero_le _) ?_ ?_
 · exact ab
 · intro z hz
   by_cases hlt:z < s.length
   · have hsn:=oX s r z hlt
     have h1:=ql s z r
     have h2:=dM s r
     have h3:=hs.sz.at hlt
     by_cases c:s[z].rep = (r:Int) + 1
     · rw [if_pos c] at hsn
       generalize aC (s.take z) r = A at *
       clear hs
       (refine w0 ?_;(repeat' first|refine W2.mk ?_ ?_|refine W1.mk fun hc=>?_))
       refine ⟨z + 1,hlt,by omega,ak (aM 700 701) (ak (aM 701 700) ?_)⟩
       rw [hsn]
       exact ab
     · rw [if_neg c,List.append_nil] at hsn
       generalize aC (s.take z) r = A at *
       clear hs
       (refine w0 ?_;(repeat' first|refine W2.mk ?_ ?_|refine W1.mk fun hc=>?_))
       refine ⟨z + 1,hlt,by omega,?_⟩
       rw [hsn]
       exact ab
   · rw [List.take_of_length_le (show s.length ≤ z by omega)]
     generalize aC s r = A at *
     (refine w0 ?_;(repeat' first|refine W2.mk ?_ ?_|refine W1.mk fun hc=>?_))
     refine aQ ?_
     exact cv rfl rfl rfl
theorem qK (op:Int) (g:List Rn → List Rn → List Rn) (a b:List Kn) (ha:cD a) (hb:cD b) (hM:∀ r,r < 16 → Fn Tryz.prog 184 [iC .i64 op,eC (aC a r),eC (aC b r)] (wk (g (aC a r) (aC b r)))) :
   Fn Tryz.prog 136 [iC .i64 op,eh a,eh b] (kx (oU g a b)):=by
 have hZ:(List.zipWith g (bj a) (bj b)).length = 16:=by rw [List.length_zipWith,aY,aY];rfl
 have hZg:∀ r (h:r < 16),(List.zipWith g (bj a) (bj b))[r]? = some (g (aC a r) (aC b r)):=fun r h=>by
   rw [List.getElem?_zipWith,bn _ h,bn _ h]
 generalize hQ:oU g a b = Q
 unfold oU at hQ
 generalize List.zipWith g (bj a) (bj b) = Z at *
 refine fi Tryz.func136 Tryz.ntmps136 ?_
 (refine w0 ?_;(repeat' first|refine W2.mk ?_ ?_|refine W1.mk fun hc=>?_))
 refine ck (bz 7 700 130 2 rfl rfl) ?_
 refine ah (X:=Nat × List Kn) (fun z=>z.1 ≤ 16 ∧ z.2.length ≤ z.1 ∧ z.2 ++ aX id z.1 (Z.drop z.1) = Q)
   (fun z=>aN [(0,iC .i64 op),(1,eh a),(2,eh b),(7,.row 700 0),(8,iC .i64 (((z.1:Nat):Int) + 1))] [(700,.row 130 2 (z.2.map Ap))]) (fun z=>16 - z.1) (0,[]) ⟨Nat.zero_le _,Nat.le_refl _,by simpa using hQ⟩ ?_ ?_
 · exact ab
 · rintro ⟨z,acc⟩ ⟨h1,h2,h3⟩
   simp only at h1 h2 h3 ⊢
   clear hQ
   by_cases hz:z < 16
   · have r1:=qJ a z ha
     have r2:=qJ b z hb
     have m:=(hM z hz).frz
     have hg:=hZg z hz
     obtain ⟨q1,q2⟩:=List.getElem?_eq_some_iff.1 hg
     rw [ut Z z q1,q2] at h3
     generalize aC a z = ta at *
     generalize aC b z = tb at *
     generalize g ta tb = L at *
     clear hZg hM ha hb hg
     by_cases hL:L.length = 0
     · rw [if_pos hL,List.nil_append] at h3
       (have ko1:=r1;have ko2:=r2;have kc1:=m;refine w0 ?_;(repeat' first|refine W2.mk ?_ ?_|refine W1.mk fun hc=>?_);all_goals clear kc1 ko2 ko1)
       refine ⟨(z + 1,acc),⟨by simp only;omega,by simp only;omega,h3⟩,by simp only;omega,?_⟩
       exact ab
     · rw [if_neg hL] at h3
       (have ko1:=r1;have ko2:=r2;have kc1:=m;refine w0 ?_;(repeat' first|refine W2.mk ?_ ?_|refine W1.mk fun hc=>?_);all_goals clear kc1 ko2 ko1)
       refine ⟨(z + 1,acc ++ [⟨(z:Int) + 1,L⟩]),⟨by simp only;omega,by simp;omega,by simp only;rw [List.append_assoc];exact h3⟩,by simp only;omega,ak (aM 700 701) (ak (aM 701 700) ?_)⟩
       exact ab
   · have h3':acc = Q:=by rw [← h3,List.drop_of_length_le (by omega)];simp [aX]
     clear hZg hM h3
     (refine w0 ?_;(repeat' first|refine W2.mk ?_ ?_|refine W1.mk fun hc=>?_))
     refine aQ ?_
     exact dq rfl rfl rfl h3'
end
theorem jK (a b:List Rn) (n:Int):cB (a ++ b) n = (cB a n || cB b n):=by unfold cB;rw [List.any_append]
theorem ze {l:List Rn} {k:Nat} (h:k < l.length) (n:Int):cB (l.take (k + 1)) n = (cB (l.take k) n || (ga l[k] && (decide (l[k].fr ≤ n) && decide (n ≤ l[k].to)))):=by
 rw [aJ l k h,jK];simp [cB]
theorem zf {l:List Rn} {k:Nat} {n:Int} (h:cB (l.take k) n = true):cB l n = true:=by
 rw [← List.take_append_drop k l,jK,h];rfl
theorem zg (a b:List Kn) (r:Nat):aC (a ++ b) r = aC a r ++ aC b r:=by unfold aC;rw [List.flatMap_append]
section
theorem Jj (l:List Rn) (n:Int) (hl:l.length ≤ 1000000000):Fn Tryz.prog 152 [eC l,iC .i64 n] (bO (cB l n)):=by
 refine fi Tryz.func152 Tryz.ntmps152 ?_
 (refine w0 ?_;(repeat' first|refine W2.mk ?_ ?_|refine W1.mk fun hc=>?_))
 refine ah (X:=Nat) (fun k=>k ≤ l.length ∧ cB (l.take k) n = false) (fun k=>aN [(1,iC .i64 n),(7,eC l),(8,iC .i64 (l.length:Nat)),(9,iC .i64 (k:Nat))] []) (fun k=>l.length - k) 0 ⟨Nat.zero_le _,rfl⟩ ?_ ?_
 · exact ab
 · rintro k ⟨h1,h2⟩
   by_cases hk:k < l.length
   · have a1:=tR l[k]
     have hs:=ze hk n
     rw [h2,Bool.false_or] at hs
     cases hr:ga l[k] with
     | false=>
       rw [hr] at a1 hs
       rw [Bool.false_and] at hs
       (have kc1:=a1;refine w0 ?_;(repeat' first|refine W2.mk ?_ ?_|refine W1.mk fun hc=>?_);all_goals clear kc1)
       refine ⟨k + 1,⟨by omega,hs⟩,by omega,?_⟩
       exact ab
     | true=>
       rw [hr] at a1 hs
       rw [Bool.true_and] at hs
       by_cases c:l[k].fr ≤ n ∧ n ≤ l[k].to
       · have ht:cB l n = true:=zf (by rw [hs,decide_eq_true c.1,decide_eq_true c.2];rfl)
         rw [ht]
         clear hs h2
         (have kc1:=a1;refine w0 ?_;(repeat' first|refine W2.mk ?_ ?_|refine W1.mk fun hc=>?_);all_goals clear kc1)
         refine aQ ?_
         exact af rfl rfl
       · have hs:cB (l.take (k + 1)) n = false:=by
           rw [hs,← Bool.not_eq_true,Bool.and_eq_true,decide_eq_true_eq,decide_eq_true_eq];exact c
         clear h2
         (have kc1:=a1;refine w0 ?_;(repeat' first|refine W2.mk ?_ ?_|refine W1.mk fun hc=>?_);all_goals clear kc1)
         all_goals
           refine ⟨k + 1,⟨by omega,hs⟩,by omega,?_⟩
           exact ab
   · rw [List.take_of_length_le (by omega)] at h2
     rw [h2]
     (refine w0 ?_;(repeat' first|refine W2.mk ?_ ?_|refine W1.mk fun hc=>?_))
     refine aQ ?_
     exact af rfl rfl
theorem F0 (s:List Kn) (r c:Int) (hs:cD s):Fn Tryz.prog 100 [eh s,lZ r c] (bO (fw s r c)):=by
 have hl0:=hs.1
 have a1:=eA r c
 unfold fw
 cases hv:cI r c with
 | false=>
   rw [hv] at a1
   rw [Bool.false_and]
   clear hs
   refine fi Tryz.func100 Tryz.ntmps100 ?_
   (have kc1:=a1;refine w0 ?_;(repeat' first|refine W2.mk ?_ ?_|refine W1.mk fun hc=>?_);all_goals clear kc1)
   refine aQ ?_
   exact af rfl rfl
 | true=>
   rw [hv] at a1
   rw [Bool.true_and]
   have hr1:1 ≤ r:=by unfold cI at hv;simp at hv;omega
   obtain ⟨q,hq⟩:∃ q:Nat,r = (q:Int) + 1:=⟨(r - 1).toNat,by omega⟩
   have hq2:(r - 1).toNat = q:=by omega
   rw [hq2]
   clear hv
   refine fi Tryz.func100 Tryz.ntmps100 ?_
   (have kc1:=a1;refine w0 ?_;(repeat' first|refine W2.mk ?_ ?_|refine W1.mk fun hc=>?_);all_goals clear kc1)
   refine ah (X:=Nat) (fun k=>k ≤ s.length ∧ cB (aC (s.take k) q) c = false) (fun k=>aN [(3,.ptr 3 0 0),(10,eh s),(11,iC .i64 (s.length:Nat)),(12,iC .i64 (k:Nat))] [(3,.box 59 [iC .i64 r,iC .i64 c])]) (fun k=>s.length - k) 0 ⟨Nat.zero_le _,rfl⟩ ?_ ?_
   · exact ab
   · rintro k ⟨h1,h2⟩
     by_cases hk:k < s.length
     · have hz:=hs.sz.at hk
       have a2:=Jj s[k].runs c (by omega)
       have hsn:=oX s q k hk
       by_cases e:s[k].rep = r
       · rw [if_pos (by omega)] at hsn
         cases hh:cB s[k].runs c with
         | true=>
           rw [hh] at a2
           have ht:cB (aC s q) c = true:=by
             rw [← List.take_append_drop (k + 1) s,zg,jK,hsn,jK,hh];simp
           rw [ht]
           clear hsn h2 hs hq a1
           (have kc1:=a2;refine w0 ?_;(repeat' first|refine W2.mk ?_ ?_|refine W1.mk fun hc=>?_);all_goals clear kc1)
           refine aQ ?_
           exact af rfl rfl
         | false=>
           rw [hh] at a2
           have h2:cB (aC (s.take (k + 1)) q) c = false:=by rw [hsn,jK,h2,hh];rfl
           clear hsn hs hq a1
           (have kc1:=a2;refine w0 ?_;(repeat' first|refine W2.mk ?_ ?_|refine W1.mk fun hc=>?_);all_goals clear kc1)
           refine ⟨k + 1,⟨by omega,h2⟩,by omega,?_⟩
           exact ab
       · rw [if_neg (by omega),List.append_nil] at hsn
         have h2:cB (aC (s.take (k + 1)) q) c = false:=by rw [hsn];exact h2
         clear hsn hs hq a1 a2
         (refine w0 ?_;(repeat' first|refine W2.mk ?_ ?_|refine W1.mk fun hc=>?_))
         refine ⟨k + 1,⟨by omega,h2⟩,by omega,?_⟩
         exact ab
     · rw [List.take_of_length_le (by omega)] at h2
       rw [h2]
       clear hs hq a1
       (refine w0 ?_;(repeat' first|refine W2.mk ?_ ?_|refine W1.mk fun hc=>?_))
       refine aQ ?_
       exact af rfl rfl
theorem uu (k:List Pc) (s:ByteArray) (r c:Int) (hk:eV k) (hs:s.size ≤ 1000000000):Fn Tryz.prog 54 [bS k,sC s,lZ r c] (bO (aZ k s r c)):=by
 have hl0:=hk.1
 refine fi Tryz.func54 Tryz.ntmps54 ?_
 (refine w0 ?_;(repeat' first|refine W2.mk ?_ ?_|refine W1.mk fun hc=>?_))
 refine ah (X:=Nat) (fun i=>i ≤ k.length ∧ aZ (k.take i) s r c = false) (fun i=>aN [(1,sC s),(5,.ptr 5 0 0),(9,bS k),(10,iC .i64 (k.length:Nat)),(11,iC .i64 (i:Nat))] [(5,.box 59 [iC .i64 r,iC .i64 c])]) (fun i=>k.length - i) 0 ⟨Nat.zero_le _,rfl⟩ ?_ ?_
 · exact ab
 · rintro i ⟨h1,h2⟩
   by_cases hi:i < k.length
   · have a1:=nd k[i].rg s hs
     have a2:=F0 k[i].set r c (hk.at hi)
     have hsn:aZ (k.take (i + 1)) s r c = (bL k[i].rg s && fw k[i].set r c):=by
       unfold aZ at h2 ⊢
       rw [aJ k i hi,List.any_append,h2];simp
     cases hr:bL k[i].rg s with
     | false=>
       rw [hr] at a1 hsn
       rw [Bool.false_and] at hsn
       clear hk h2
       (have kc1:=a1;have kc2:=a2;refine w0 ?_;(repeat' first|refine W2.mk ?_ ?_|refine W1.mk fun hc=>?_);all_goals clear kc2 kc1)
       refine ⟨i + 1,⟨by omega,hsn⟩,by omega,?_⟩
       exact ab
     | true=>
       rw [hr] at a1 hsn
       rw [Bool.true_and] at hsn
       cases hh:fw k[i].set r c with
       | false=>
         rw [hh] at a2 hsn
         clear hk h2
         (have kc1:=a1;have kc2:=a2;refine w0 ?_;(repeat' first|refine W2.mk ?_ ?_|refine W1.mk fun hc=>?_);all_goals clear kc2 kc1)
         refine ⟨i + 1,⟨by omega,hsn⟩,by omega,?_⟩
         exact ab
       | true=>
         rw [hh] at a2 hsn
         have ht:aZ k s r c = true:=by
           unfold aZ at hsn ⊢
           rw [← List.take_append_drop (i + 1) k,List.any_append,hsn];rfl
         rw [ht]
         clear hk h2 hsn
         (have kc1:=a1;have kc2:=a2;refine w0 ?_;(repeat' first|refine W2.mk ?_ ?_|refine W1.mk fun hc=>?_);all_goals clear kc2 kc1)
         refine aQ ?_
         exact af rfl rfl
   · rw [List.take_of_length_le (by omega)] at h2
     rw [h2]
     clear hk
     (refine w0 ?_;(repeat' first|refine W2.mk ?_ ?_|refine W1.mk fun hc=>?_))
     refine aQ ?_
     exact af rfl rfl
theorem Jk (s:List Kn) (r c:Int) (hs:cD s):Fn Tryz.prog 87 [eh s,lZ r c] (bO (fw s r c)):=by
 have a1:=dZ r c
 unfold fw
 cases hv:cI r c with
 | false=>
   rw [hv] at a1
   rw [Bool.false_and]
   clear hs
   refine fi Tryz.func87 Tryz.ntmps87 ?_
   (have kc1:=a1;refine w0 ?_;(repeat' first|refine W2.mk ?_ ?_|refine W1.mk fun hc=>?_);all_goals clear kc1)
   refine aQ ?_
   exact af rfl rfl
 | true=>
   rw [hv] at a1
   rw [Bool.true_and]
   have hr1:1 ≤ r:=by unfold cI at hv;simp at hv;omega
   obtain ⟨q,rfl⟩:∃ q:Nat,r = (q:Int) + 1:=⟨(r - 1).toNat,by omega⟩
   have hq2:((q:Int) + 1 - 1).toNat = q:=by omega
   rw [hq2]
   have a2:=qJ s q hs
   have hz:=dM s q
   have a3:=qI (aC s q) c (by have:=hs.2;omega)
   clear hs hv hz
   generalize aC s q = T at *
   refine fi Tryz.func87 Tryz.ntmps87 ?_
   (have kc1:=a1;have kc2:=a2;have kc3:=a3;refine w0 ?_;(repeat' first|refine W2.mk ?_ ?_|refine W1.mk fun hc=>?_);all_goals clear kc3 kc2 kc1)
   refine aQ ?_
   exact af rfl rfl
theorem nl (k:List Pc) (s:ByteArray) (r c:Int) (hk:eV k) (hs:s.size ≤ 1000000000):Fn Tryz.prog 44 [bS k,sC s,lZ r c] (bO (aZ k s r c)):=by
 have hl0:=hk.1
 refine fi Tryz.func44 Tryz.ntmps44 ?_
 (refine w0 ?_;(repeat' first|refine W2.mk ?_ ?_|refine W1.mk fun hc=>?_))
 refine ah (X:=Nat) (fun i=>i ≤ k.length ∧ aZ (k.take i) s r c = false) (fun i=>aN [(0,bS k),(1,sC s),(5,.ptr 5 0 0),(7,iC .i64 (i:Nat))] [(5,.box 59 [iC .i64 r,iC .i64 c])]) (fun i=>k.length - i) 0 ⟨Nat.zero_le _,rfl⟩ ?_ ?_
 · exact ab
 · rintro i ⟨h1,h2⟩
   by_cases hi:i < k.length
   · have a1:=ot k[i].rg s hs
     have a2:=Jk k[i].set r c (hk.at hi)
     have hsn:aZ (k.take (i + 1)) s r c = (bL k[i].rg s && fw k[i].set r c):=by
       unfold aZ at h2 ⊢
       rw [aJ k i hi,List.any_append,h2];simp
     cases hr:bL k[i].rg s with
     | false=>
       rw [hr] at a1 hsn
       rw [Bool.false_and] at hsn
       clear hk h2
       (have kc1:=a1;have kc2:=a2;refine w0 ?_;(repeat' (first|refine W2.mk ?_ ?_|refine W1.mk fun hc=>?_|((first|apply aD rfl|apply aF rfl|apply aG rfl|apply aH rfl);(focus (first|((apply az 5;(focus rfl);first|exact ar ⟨rfl,rfl,rfl⟩ rfl inferInstance inferInstance rfl rfl rfl rfl|exact au ⟨rfl,rfl,rfl⟩ rfl inferInstance inferInstance rfl rfl rfl rfl))|(apply bx;(focus rfl);apply ag rfl rfl rfl rfl rfl;first|((apply az 5;(focus rfl);first|exact ar ⟨rfl,rfl,rfl⟩ rfl inferInstance inferInstance rfl rfl rfl rfl|exact au ⟨rfl,rfl,rfl⟩ rfl inferInstance inferInstance rfl rfl rfl rfl)))));refine w0 ?_)));all_goals clear kc2 kc1)
       refine ⟨i + 1,⟨by omega,hsn⟩,by omega,?_⟩
       exact ab
     | true=>
       rw [hr] at a1 hsn
       rw [Bool.true_and] at hsn
       cases hh:fw k[i].set r c with
       | false=>
         rw [hh] at a2 hsn
         clear hk h2
         (have kc1:=a1;have kc2:=a2;refine w0 ?_;(repeat' (first|refine W2.mk ?_ ?_|refine W1.mk fun hc=>?_|((first|apply aD rfl|apply aF rfl|apply aG rfl|apply aH rfl);(focus (first|((apply az 5;(focus rfl);first|exact ar ⟨rfl,rfl,rfl⟩ rfl inferInstance inferInstance rfl rfl rfl rfl|exact au ⟨rfl,rfl,rfl⟩ rfl inferInstance inferInstance rfl rfl rfl rfl))|(apply bx;(focus rfl);apply ag rfl rfl rfl rfl rfl;first|((apply az 5;(focus rfl);first|exact ar ⟨rfl,rfl,rfl⟩ rfl inferInstance inferInstance rfl rfl rfl rfl|exact au ⟨rfl,rfl,rfl⟩ rfl inferInstance inferInstance rfl rfl rfl rfl)))));refine w0 ?_)));all_goals clear kc2 kc1)
         refine ⟨i + 1,⟨by omega,hsn⟩,by omega,?_⟩
         exact ab
       | true=>
         rw [hh] at a2 hsn
         have ht:aZ k s r c = true:=by
           unfold aZ at hsn ⊢
           rw [← List.take_append_drop (i + 1) k,List.any_append,hsn];rfl
         rw [ht]
         clear hk h2 hsn
         (have kc1:=a1;have kc2:=a2;refine w0 ?_;(repeat' (first|refine W2.mk ?_ ?_|refine W1.mk fun hc=>?_|((first|apply aD rfl|apply aF rfl|apply aG rfl|apply aH rfl);(focus (first|((apply az 5;(focus rfl);first|exact ar ⟨rfl,rfl,rfl⟩ rfl inferInstance inferInstance rfl rfl rfl rfl|exact au ⟨rfl,rfl,rfl⟩ rfl inferInstance inferInstance rfl rfl rfl rfl))|(apply bx;(focus rfl);apply ag rfl rfl rfl rfl rfl;first|((apply az 5;(focus rfl);first|exact ar ⟨rfl,rfl,rfl⟩ rfl inferInstance inferInstance rfl rfl rfl rfl|exact au ⟨rfl,rfl,rfl⟩ rfl inferInstance inferInstance rfl rfl rfl rfl)))));refine w0 ?_)));all_goals clear kc2 kc1)
         refine aQ ?_
         exact af rfl rfl
   · rw [List.take_of_length_le (by omega)] at h2
     rw [h2]
     clear hk
     (refine w0 ?_;(repeat' first|refine W2.mk ?_ ?_|refine W1.mk fun hc=>?_))
     refine aQ ?_
     exact af rfl rfl
theorem qL (l:List Rg) (s:ByteArray) (hok:cV l) (hl:l.length ≤ 1000000000) (hs:s.size ≤ 1000000000):Fn Tryz.prog 80 [.per (eB l),sC s] (bO (bg l s)):=by
 have h0:=jA l hl true (by simp [hok])
 have h1:Fn Tryz.prog 132 [.per (eB l)] (.per (eB l)):=by
   refine fi Tryz.func132 Tryz.ntmps132 ?_
   (have kc1:=h0;refine w0 ?_;(repeat' first|refine W2.mk ?_ ?_|refine W1.mk fun hc=>?_);all_goals clear kc1)
   refine aQ ?_
   exact cu rfl
 obtain ⟨p,hp,hlt⟩:=AA hok s
 have h2:=wM l s hs hl p hp hlt
 have hA:=Fr hok hlt
 rw [hA]
 clear hA hlt hok h0
 by_cases hn:p < l.length
 · have h3:=nd l[p] s hs
   rw [List.getElem?_eq_getElem hn]
   simp only
   refine fi Tryz.func80 Tryz.ntmps80 ?_
   (have kc1:=h1;have kc2:=h2;have kc3:=h3;refine w0 ?_;(repeat' first|refine W2.mk ?_ ?_|refine W1.mk fun hc=>?_);all_goals clear kc3 kc2 kc1)
   refine aQ ?_
   exact af rfl rfl
 · rw [List.getElem?_eq_none (by omega)]
   simp only
   refine fi Tryz.func80 Tryz.ntmps80 ?_
   (have kc1:=h1;have kc2:=h2;refine w0 ?_;(repeat' first|refine W2.mk ?_ ?_|refine W1.mk fun hc=>?_);all_goals clear kc2 kc1)
   refine aQ ?_
   exact af rfl rfl
end
end Go.Proofs.YtembiemaiacdfaaGreat
