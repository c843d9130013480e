/- Texts joined: Wins Law18 Best LawCh Find StP. -/
import Derived.Test.YtembiemaiacdfaaGreatJ22
import Derived.Test.YtembiemaiacdfaaGreatJ05
import Derived.Test.YtembiemaiacdfaaGreatJ07
import Derived.Test.YtembiemaiacdfaaGreatJ17
set_option maxRecDepth 10000
set_option maxHeartbeats 8000000
namespace Go.Proofs.YtembiemaiacdfaaGreat
open Go.RowKit
def zIt:It:=⟨⟨#[]⟩,0,0,0,0,false,⟨#[]⟩⟩
def bstF (b:Option (Nat × It)) (i:Nat) (x:It):Option (Nat × It):=if itR x then (match b with
 | none=>some (i,x)
 | some p=>if cmpI x p.2 > 0 then some (i,x) else some p) else b
def ao:Option (Nat × It) → Int
 | none=>-1
 | some p=>(p.1:Nat)
/-- the best one is one of the list, and right -/
def bOk (l:List It) (b:Option (Nat × It)):Prop:=∀ p,b = some p → l[p.1]? = some p.2 ∧ itR p.2 = true
theorem bstF_ok {l:List It} {b:Option (Nat × It)} {i:Nat} (hi:i < l.length) (h:bOk l b):bOk l (bstF b i l[i]):=by
 intro p hp
 unfold bstF at hp
 split at hp
 · rename_i hr
   cases b with
   | none=>simp at hp;subst hp;exact ⟨by simp [hi],hr⟩
   | some q=>
     simp only at hp
     split at hp
     · cases hp;exact ⟨by simp [hi],hr⟩
     · cases hp;exact h _ rfl
 · exact h _ hp
theorem toL_inj (s u:ByteArray):s.toList = u.toList ↔ s = u:=by
 rw [← sbeq,beq_toListBytes,beq_iff_eq]
section
abbrev lsB (ls:List (List It)):Cnt:=.bor 1 (ls.map fun l=>[itsP l])
abbrev ownI (l:List It):Ret:=.own 61 7 (l.map itP)
theorem item_Merge (ls:List (List It)) (hl:(ls.flatten.filter itR).length ≤ 100000000) (hn:ls.length ≤ 1000000000) (hm:∀ l ∈ ls,l.length ≤ 1000000000):Fn Tryz.prog 68 [lsB ls] (ownI (mergeK ls)):=by
 generalize hT:ls.flatten.filter itR = T at *
 have hTr:∀ x ∈ T,itR x = true:=fun x hx=>by rw [← hT] at hx;exact (List.mem_filter.1 hx).2
 have hs:=sort_stable_any T (kOk_right hTr) hl
 generalize hR:mergeK ls = R
 unfold mergeK at hR
 rw [hT] at hR
 have hql:=srtK_len T
 generalize srtK T = Q at *
 refine fi Tryz.func68 Tryz.ntmps68 ?_
 (refine w0 ?_;(repeat' first|refine W2.mk ?_ ?_|refine W1.mk fun hc=>?_))
 refine AW_le (Le_nil 3 600 61 7 rfl rfl) ?_
 refine AW_loopP (X:=Nat × List It) (fun x=>x.1 ≤ ls.length ∧ x.2 ++ (ls.drop x.1).flatten.filter itR = T)
   (fun x=>mkSt [(3,.row 600 0),(12,lsB ls),(13,iC .i64 (ls.length:Nat)),(14,iC .i64 (x.1:Nat))] [(600,itsW x.2)]) (fun x=>ls.length - x.1) (0,[]) ⟨Nat.zero_le _,by simp [hT]⟩ ?_ ?_
 · exact le_auto
 · rintro ⟨i,acc⟩ ⟨h1,h2⟩
   simp only at h1 h2 ⊢
   by_cases hlt:i < ls.length
   · have hml:=hm _ (List.getElem_mem hlt)
     rw [List.drop_eq_getElem_cons hlt,List.flatten_cons,List.filter_append] at h2
     (refine w0 ?_;(repeat' first|refine W2.mk ?_ ?_|refine W1.mk fun hc=>?_))
     refine AW_loopP (X:=Nat × List It) (fun x=>x.1 ≤ ls[i].length ∧ x.2 ++ ((ls[i].drop x.1).filter itR ++ (ls.drop (i + 1)).flatten.filter itR) = T)
       (fun x=>mkSt [(3,.row 600 0),(12,lsB ls),(13,iC .i64 (ls.length:Nat)),(14,iC .i64 (i:Nat)),(18,.per (itsP ls[i])),(19,iC .i64 (ls[i].length:Nat)),(20,iC .i64 (x.1:Nat))] [(600,itsW x.2)]) (fun x=>ls[i].length - x.1) (0,acc) ⟨Nat.zero_le _,by simpa using h2⟩ ?_ ?_
     · exact le_auto
     · rintro ⟨k,ac⟩ ⟨g1,g2⟩
       simp only at g1 g2 ⊢
       by_cases hk:k < ls[i].length
       · have hir:=item_Right ls[i][k]
         have hlen:ac.length ≤ 100000000:=by
           have:=congrArg List.length g2
           simp only [List.length_append] at this;omega
         rw [List.drop_eq_getElem_cons hk,List.filter_cons] at g2
         cases hr:itR ls[i][k] with
         | false=>
           rw [hr] at hir g2
           (have kc1:=hir;refine w0 ?_;(repeat' first|refine W2.mk ?_ ?_|refine W1.mk fun hc=>?_);all_goals clear kc1)
           refine ⟨(k + 1,ac),⟨by simp only;omega,by simpa using g2⟩,by simp only;omega,?_⟩
           exact le_auto
         | true=>
           rw [hr] at hir g2
           (have kc1:=hir;refine w0 ?_;(repeat' first|refine W2.mk ?_ ?_|refine W1.mk fun hc=>?_);all_goals clear kc1)
           refine ⟨(k + 1,ac ++ [ls[i][k]]),⟨by simp only;omega,by simpa using g2⟩,by simp only;omega,Le_trans (Le_mv 600 601) (Le_trans (Le_mv 601 600) ?_)⟩
           exact le_auto
       · have hkl:k = ls[i].length:=by omega
         rw [hkl,List.drop_length,List.filter_nil,List.nil_append] at g2
         (refine w0 ?_;(repeat' first|refine W2.mk ?_ ?_|refine W1.mk fun hc=>?_))
         refine ⟨(i + 1,ac),⟨by simp only;omega,g2⟩,by simp only;omega,?_⟩
         exact le_auto
   · have hil:i = ls.length:=by omega
     subst hil
     rw [List.drop_length] at h2
     simp at h2
     subst h2
     (have km1:=(show FnMs [(1000,600)] _ _ _ _ _ _ from hs);refine w0 ?_;(repeat' first|refine W2.mk ?_ ?_|refine W1.mk fun hc=>?_);all_goals clear km1)
     clear hs hTr hT hm hn
     refine AW_le (Le_nil 8 700 61 7 rfl rfl) ?_
     refine AW_loopP (X:=Nat × List It) (fun x=>x.1 ≤ Q.length ∧ x.2.length ≤ x.1 ∧ (Q.drop x.1).foldl mrgF x.2 = R)
       (fun x=>mkSt [(8,.row 700 0),(34,.row 600 0),(35,iC .i64 (Q.length:Nat)),(36,iC .i64 (x.1:Nat))] [(600,itsW Q),(700,itsW x.2)]) (fun x=>Q.length - x.1) (0,[]) ⟨Nat.zero_le _,Nat.le_refl _,hR⟩ ?_ ?_
     · exact le_auto
     · rintro ⟨k,out⟩ ⟨g1,g2,g3⟩
       simp only at g1 g2 g3 ⊢
       by_cases hk:k < Q.length
       · have hol:out.length ≤ 100000000:=by omega
         have HQ:(Q.map itP)[k]? = some (itP Q[k]):=by rw [List.getElem?_map,List.getElem?_eq_getElem hk];rfl
         rw [List.drop_eq_getElem_cons hk,List.foldl_cons,mrgF] at g3
         rcases snoc_cases out with rfl|⟨o,y,rfl⟩
         · simp only [List.reverse_nil] at g3
           (refine w0 ?_;(repeat' (first|refine W2.mk ?_ ?_|refine W1.mk fun hc=>?_|((first|apply AL_t rfl|apply AL_0 rfl|apply AD_t rfl|apply AD_0 rfl);(focus (first|((apply u_k 5;(focus rfl);exact u_load_rA ⟨rfl,rfl,rfl⟩ rfl inferInstance inferInstance rfl rfl rfl HQ rfl rfl rfl))|(apply u_g;(focus rfl);apply op_gyes rfl rfl rfl rfl rfl;first|((apply u_k 5;(focus rfl);exact u_load_rA ⟨rfl,rfl,rfl⟩ rfl inferInstance inferInstance rfl rfl rfl HQ rfl rfl rfl)))));refine w0 ?_))))
           refine ⟨(k + 1,[Q[k]]),⟨by simp only;omega,by simp,g3⟩,by simp only;omega,Le_trans (Le_mv 700 701) (Le_trans (Le_mv 701 700) ?_)⟩
           exact le_auto
         · simp only [List.reverse_append,List.reverse_cons,List.reverse_nil,List.nil_append,List.singleton_append,List.reverse_reverse] at g3
           have hcm:=item_Cmp Q[k] y
           have hL1:(o ++ [y]).length = o.length + 1:=by simp
           generalize hL:o ++ [y] = L at *
           have HY:(L.map itP)[((L.length:Int) - 1).toNat]? = some (itP y):=by
             rw [List.getElem?_map,← hL,show (((o ++ [y]).length:Int) - 1).toNat = o.length by rw [hL];omega]
             simp
           have HS:(L.map itP).set ((L.length:Int) - 1).toNat (setP (itP y) 0 (itP Q[k])) = (o ++ [Q[k]]).map itP:=by
             rw [show (L.map itP).set ((L.length:Int) - 1).toNat (setP (itP y) 0 (itP Q[k])) = (L.set ((L.length:Int) - 1).toNat Q[k]).map itP from map_set' itP _ _ _,← hL,set_at o y Q[k] [] _ (by rw [hL];omega)]
           by_cases hky:y.key = Q[k].key
           · rw [if_pos hky] at g3
             (have kc1:=hcm;refine w0 ?_;(repeat' (first|refine W2.mk ?_ ?_|refine W1.mk fun hc=>?_|((first|apply AL_t rfl|apply AL_0 rfl|apply AD_t rfl|apply AD_0 rfl);(focus (first|((apply u_k 5;(focus rfl);first|exact u_load_r1 ⟨rfl,rfl,rfl⟩ rfl inferInstance rfl rfl rfl HY rfl|exact u_load_rA ⟨rfl,rfl,rfl⟩ rfl inferInstance inferInstance rfl rfl rfl HY rfl rfl rfl|exact u_load_rA ⟨rfl,rfl,rfl⟩ rfl inferInstance inferInstance rfl rfl rfl HQ rfl rfl rfl))|((apply u_k 6;(focus rfl);exact u_store_r ⟨rfl,rfl⟩ rfl inferInstance rfl rfl rfl rfl HY rfl (.inl rfl) rfl HS))|(apply u_g;(focus rfl);apply op_gyes rfl rfl rfl rfl rfl;first|((apply u_k 5;(focus rfl);first|exact u_load_r1 ⟨rfl,rfl,rfl⟩ rfl inferInstance rfl rfl rfl HY rfl|exact u_load_rA ⟨rfl,rfl,rfl⟩ rfl inferInstance inferInstance rfl rfl rfl HY rfl rfl rfl|exact u_load_rA ⟨rfl,rfl,rfl⟩ rfl inferInstance inferInstance rfl rfl rfl HQ rfl rfl rfl))|((apply u_k 6;(focus rfl);exact u_store_r ⟨rfl,rfl⟩ rfl inferInstance rfl rfl rfl rfl HY rfl (.inl rfl) rfl HS)))));refine w0 ?_)));all_goals clear kc1)
             · rw [if_pos (by omega)] at g3
               refine ⟨(k + 1,o ++ [Q[k]]),⟨by simp only;omega,by simp;omega,g3⟩,by simp only;omega,?_⟩
               exact le_auto
             · rw [if_neg (by omega)] at g3
               refine ⟨(k + 1,L),⟨by simp only;omega,by simp only;omega,g3⟩,by simp only;omega,?_⟩
               exact le_auto
           · rw [if_neg hky] at g3
             have hne:y.key.toList ≠ Q[k].key.toList:=fun h=>hky ((toL_inj _ _).1 h)
             (have kc1:=hcm;refine w0 ?_;(repeat' (first|refine W2.mk ?_ ?_|refine W1.mk fun hc=>?_|((first|apply AL_t rfl|apply AL_0 rfl|apply AD_t rfl|apply AD_0 rfl);(focus (first|((apply u_k 5;(focus rfl);first|exact u_load_r1 ⟨rfl,rfl,rfl⟩ rfl inferInstance rfl rfl rfl HY rfl|exact u_load_rA ⟨rfl,rfl,rfl⟩ rfl inferInstance inferInstance rfl rfl rfl HY rfl rfl rfl|exact u_load_rA ⟨rfl,rfl,rfl⟩ rfl inferInstance inferInstance rfl rfl rfl HQ rfl rfl rfl))|((apply u_k 6;(focus rfl);exact u_store_r ⟨rfl,rfl⟩ rfl inferInstance rfl rfl rfl rfl HY rfl (.inl rfl) rfl HS))|(apply u_g;(focus rfl);apply op_gyes rfl rfl rfl rfl rfl;first|((apply u_k 5;(focus rfl);first|exact u_load_r1 ⟨rfl,rfl,rfl⟩ rfl inferInstance rfl rfl rfl HY rfl|exact u_load_rA ⟨rfl,rfl,rfl⟩ rfl inferInstance inferInstance rfl rfl rfl HY rfl rfl rfl|exact u_load_rA ⟨rfl,rfl,rfl⟩ rfl inferInstance inferInstance rfl rfl rfl HQ rfl rfl rfl))|((apply u_k 6;(focus rfl);exact u_store_r ⟨rfl,rfl⟩ rfl inferInstance rfl rfl rfl rfl HY rfl (.inl rfl) rfl HS)))));refine w0 ?_)));all_goals clear kc1)
             refine ⟨(k + 1,L ++ [Q[k]]),⟨by simp only;omega,by simp;omega,g3⟩,by simp only;omega,Le_trans (Le_mv 700 701) (Le_trans (Le_mv 701 700) ?_)⟩
             exact le_auto
       · have hkl:k = Q.length:=by omega
         rw [hkl,List.drop_length,List.foldl_nil] at g3
         (refine w0 ?_;(repeat' first|refine W2.mk ?_ ?_|refine W1.mk fun hc=>?_))
         refine rt1 ?_
         exact rv_ownM rfl rfl rfl (by rw [g3])
end
section
variable {P:Program} {n t:Nat} {ops:Array Oper} {o:Oper} {S:St}
end
section
end
/-- of two, the one that wins; the first, if neither does -/
def comb:Option It → Option It → Option It
 | none,b=>b
 | some a,none=>some a
 | some a,some b=>if cmpI b a > 0 then some b else some a
theorem comb_none (a:Option It):comb a none = a:=by cases a <;> rfl
theorem cmpI_pos (x y:It):cmpI x y > 0 ↔ (x.rank > y.rank ∨ x.rank = y.rank ∧ (x.rep > y.rep ∨ x.rep = y.rep ∧ x.cnt > y.cnt)):=by
 unfold cmpI cmpV
 split
 · exact ⟨fun _=>.inl (by assumption),fun _=>by decide⟩
 · split
   · exact ⟨fun h=>absurd h (by decide),fun h=>by omega⟩
   · split
     · exact ⟨fun h=>absurd h (by decide),fun h=>by omega⟩
     · split
       · exact ⟨fun h=>absurd h (by decide),fun h=>by omega⟩
       · exact ⟨fun h=>by omega,fun h=>by decide⟩
theorem comb_assoc (a b c:Option It):comb (comb a b) c = comb a (comb b c):=by
 cases a with
 | none=>rfl
 | some a=>
   cases b with
   | none=>rfl
   | some b=>
     cases c with
     | none=>simp only [comb_none]
     | some c=>
       simp only [comb]
       by_cases h1:cmpI b a > 0 <;> by_cases h2:cmpI c b > 0 <;> simp only [h1,h2,if_true,if_false]
       all_goals (rw [cmpI_pos] at h1 h2)
       · rw [if_pos];rw [cmpI_pos];omega
       · rw [if_neg];rw [cmpI_pos];omega
def lkF (b:Option It) (x:It):Option It:=comb b (some x)
/-- the one that wins of a key -/
def lookK (k:ByteArray) (l:List It):Option It:=(l.filter fun x=>x.key == k).foldl lkF none
theorem lkF_from (l:List It):∀ b,l.foldl lkF b = comb b (l.foldl lkF none):=by
 induction l with
 | nil=>intro b;exact (comb_none b).symm
 | cons x l ih=>
   intro b
   rw [List.foldl_cons,List.foldl_cons,ih (lkF b x),ih (lkF none x)]
   exact comb_assoc b (some x) _
theorem look_app (k:ByteArray) (l r:List It):lookK k (l ++ r) = comb (lookK k l) (lookK k r):=by
 unfold lookK
 rw [List.filter_append,List.foldl_append,lkF_from]
theorem look_one (k:ByteArray) (x:It):lookK k [x] = if x.key == k then some x else none:=by
 unfold lookK
 rw [List.filter_cons]
 split <;> rfl
theorem look_none {k:ByteArray} {l:List It} (h:∀ x ∈ l,x.key ≠ k):lookK k l = none:=by
 unfold lookK
 rw [List.filter_eq_nil_iff.2 (fun x hx=>by simpa [sbeq] using h x hx)];rfl
/-! ### keys in order -/
theorem cmpL_anti:∀ (a b:List UInt8),cmpL b a = - cmpL a b ∧ (cmpL a b = 0 → a = b):=by
 intro a
 induction a with
 | nil=>intro b;cases b <;> simp [cmpL]
 | cons x a ih=>
   intro b
   cases b with
   | nil=>simp [cmpL]
   | cons y b=>
     obtain ⟨h1,h2⟩:=ih b
     simp only [cmpL]
     refine ⟨?_,?_⟩
     · split
       · split
         · omega
         · rfl
       · split
         · rfl
         · exact h1
     · split
       · intro h;cases h
       · split
         · intro h;cases h
         · intro h
           rw [h2 h,show x = y from UInt8.toNat_inj.1 (by omega)]
theorem cmpB_eq (s t:ByteArray):cmpB s t = 0 ↔ s = t:=by
 constructor
 · intro h
   have:=(cmpL_anti s.data.toList t.data.toList).2 h
   cases s;cases t;simp only at this;rw [Array.toList_inj.1 this]
 · rintro rfl
   exact (cmpL_lt s.data.toList [] []).1
theorem cmpB_anti (s t:ByteArray):cmpB t s = - cmpB s t:=(cmpL_anti _ _).1
theorem eqv_key (x y:It):eqv ltK x y = (y.key == x.key):=by
 have h1:=cmpB_eq y.key x.key
 have h2:=cmpB_anti y.key x.key
 rw [Bool.eq_iff_iff,sbeq,← h1]
 unfold eqv ltK
 simp only [Bool.and_eq_true,Bool.not_eq_true',decide_eq_false_iff_not]
 omega
theorem eqv_fun (x:It):eqv ltK x = fun y=>y.key == x.key:=funext (eqv_key x)
theorem look_alk {M N:List It} (h:Alk ltK M N) (k:ByteArray):lookK k N = lookK k M:=by
 have:=h ⟨k,0,0,0,0,false,⟨#[]⟩⟩
 simp only [eqv_fun] at this
 unfold lookK;rw [this]
/-- keys that rise -/
def Up (l:List It):Prop:=l.Pairwise fun x y=>ltK x y = true
theorem Up.srt {l:List It} (h:Up l):Srt ltK l:=h.imp fun h=>ltK_wo.asym h
theorem ltK_ne {x y:It} (h:ltK x y = true):x.key ≠ y.key:=fun e=>by
 rw [ltK_t,e,(cmpB_eq _ _).2 rfl] at h;omega
theorem ltK_tri {x y:It} (h1:ltK x y = false) (h2:y.key ≠ x.key):ltK y x = true:=by
 rw [ltK_f] at h1
 have h3:=cmpB_anti x.key y.key
 have h4:cmpB y.key x.key ≠ 0:=mt (cmpB_eq y.key x.key).1 h2
 rw [ltK_t];omega
theorem Up.filter {l:List It} (h:Up l) (k:ByteArray):l.filter (fun x=>x.key == k) = (lookK k l).toList:=by
 unfold lookK
 suffices hs:∃ o:Option It,l.filter (fun x=>x.key == k) = o.toList by
   obtain ⟨o,ho⟩:=hs
   rw [ho];cases o <;> rfl
 induction l with
 | nil=>exact ⟨none,rfl⟩
 | cons x l ih=>
   have h':=List.pairwise_cons.1 h
   rw [List.filter_cons]
   split
   · rename_i hx
     rw [sbeq] at hx
     refine ⟨some x,?_⟩
     rw [List.filter_eq_nil_iff.2 (fun y hy e=>by
       rw [sbeq] at e
       exact ltK_ne (h'.1 y hy) (hx.trans e.symm))]
     rfl
   · exact ih h'.2
theorem Up.uniq {M N:List It} (hM:Up M) (hN:Up N) (h:∀ k,lookK k M = lookK k N):M = N:=
 Srt.uniq ltK_wo hM.srt hN.srt fun x=>by simp only [eqv_fun];rw [hN.filter,hM.filter,h]
theorem mrg_spec:∀ (r P out:List It),Srt ltK r → Up out → (∀ z ∈ out,∀ x ∈ r,ltK x z = false) → (∀ z ∈ out,z ∈ P) → (∀ k,lookK k out = lookK k P) →
   Up (r.foldl mrgF out) ∧ (∀ z ∈ r.foldl mrgF out,z ∈ P ++ r) ∧ ∀ k,lookK k (r.foldl mrgF out) = lookK k (P ++ r):=by
 intro r
 induction r with
 | nil=>intro P out _ h2 _ h4 h5;simpa using ⟨h2,h4,h5⟩
 | cons x r ih=>
   intro P out h1 h2 h3 h4 h5
   have h1':=List.pairwise_cons.1 h1
   have key:Up (mrgF out x) ∧ (∀ z ∈ mrgF out x,z = x ∨ z ∈ out) ∧ ∀ k,lookK k (mrgF out x) = comb (lookK k out) (lookK k [x]):=by
     unfold mrgF
     rcases snoc_cases out with rfl|⟨o,y,rfl⟩
     · exact ⟨List.pairwise_singleton _ _,fun z hz=>by simp at hz;exact .inl hz,fun k=>rfl⟩
     · simp only [List.reverse_append,List.reverse_cons,List.reverse_nil,List.nil_append,List.singleton_append,List.reverse_reverse]
       have hu:=List.pairwise_append.1 h2
       have hyx:=h3 y (by simp) x (by simp)
       split
       · rename_i hk
         have ho:∀ z ∈ o,z.key ≠ y.key:=fun z hz=>ltK_ne (hu.2.2 z hz y (by simp))
         split
         · rename_i hc
           refine ⟨List.pairwise_append.2 ⟨hu.1,List.pairwise_singleton _ _,fun z hz w hw=>?_⟩,fun z hz=>?_,fun k=>?_⟩
           · simp at hw;subst hw
             have:=hu.2.2 z hz y (by simp)
             rw [ltK_t,hk] at this;rw [ltK_t];exact this
           · simp at hz ⊢;rcases hz with q|q
             · exact .inr (.inl q)
             · exact .inl q
           · rw [look_app,look_app,look_one,look_one,hk]
             by_cases hkk:(x.key == k) = true
             · simp only [hkk,if_true]
               rw [look_none (fun z hz e=>ho z hz (by rw [e,hk,(sbeq _ _).1 hkk]))]
               simp [comb,hc]
             · simp only [hkk];simp [comb_none]
         · rename_i hc
           refine ⟨h2,fun z hz=>.inr hz,fun k=>?_⟩
           rw [look_app,look_one,look_one,hk]
           by_cases hkk:(x.key == k) = true
           · simp only [hkk,if_true]
             rw [look_none (fun z hz e=>ho z hz (by rw [e,hk,(sbeq _ _).1 hkk]))]
             simp only [comb];rw [if_neg hc]
           · simp only [hkk];simp [comb_none]
       · rename_i hk
         have hlt:=ltK_tri hyx hk
         refine ⟨List.pairwise_append.2 ⟨h2,List.pairwise_singleton _ _,fun z hz w hw=>?_⟩,fun z hz=>?_,fun k=>look_app k _ _⟩
         · simp at hw;subst hw
           rcases List.mem_append.1 hz with q|q
           · exact ltK_wo.tr z y _ (hu.2.2 z q y (by simp)) hlt
           · simp at q;subst q;exact hlt
         · rcases List.mem_append.1 hz with q|q
           · exact .inr q
           · simp at q;exact .inl q
   obtain ⟨k1,k2,k3⟩:=key
   have:=ih (P ++ [x]) (mrgF out x) h1'.2 k1 (fun z hz w hw=>?_) (fun z hz=>?_) (fun k=>by rw [k3,look_app,h5])
   · simpa using this
   · rcases k2 z hz with q|q
     · subst q;exact h1'.1 w hw
     · exact h3 z q w (by simp [hw])
   · rcases k2 z hz with q|q
     · subst q;simp
     · exact List.mem_append_left _ (h4 z q)
/-- of right items, of each key the one that wins, in order -/
theorem mergeK_spec (ls:List (List It)):Up (mergeK ls) ∧ (∀ z ∈ mergeK ls,z ∈ ls.flatten.filter itR) ∧ ∀ k,lookK k (mergeK ls) = lookK k (ls.flatten.filter itR):=by
 unfold mergeK
 generalize ls.flatten.filter itR = T
 obtain ⟨h1,h2,h3⟩:=mrg_spec (srtK T) [] [] (srtK_srt T) List.Pairwise.nil (fun z h=>by simp at h) (fun z h=>by simp at h) (fun _=>rfl)
 exact ⟨h1,fun z hz=>(srtK_alk T).mem ltK_wo (by simpa using h2 z hz),fun k=>by rw [h3,List.nil_append,look_alk (srtK_alk T)]⟩
theorem mergeK_right {ls:List (List It)}:(mergeK ls).filter itR = mergeK ls:=List.filter_eq_self.2 fun z hz=>(List.mem_filter.1 ((mergeK_spec ls).2.1 z hz)).2
theorem mergeK_len (ls:List (List It)):(mergeK ls).length ≤ (ls.flatten.filter itR).length:=by
 unfold mergeK
 generalize ls.flatten.filter itR = T
 have:∀ (r out:List It),(r.foldl mrgF out).length ≤ out.length + r.length:=by
   intro r
   induction r with
   | nil=>intro out;exact Nat.le_refl _
   | cons x r ih=>
     intro out
     rw [List.foldl_cons,List.length_cons]
     have h1:=ih (mrgF out x)
     have h2:=mrgF_len out x
     omega
 have:=this (srtK T) []
 rw [srtK_len] at this
 simpa using this
section
end
/-- right, and behind the one ahead of it -/
def okAt (l:List It) (i:Nat):Prop:=∀ h:i < l.length,itR l[i] = true ∧ ∀ h0:0 < i,cmpB l[i - 1].key l[i].key < 0
def listOk (l:List It):Prop:=∀ i,okAt l i
theorem listOk_up {l:List It} (h:listOk l):Up l:=by
 unfold Up
 rw [List.pairwise_iff_getElem]
 intro i j hi hj hij
 induction j with
 | zero=>omega
 | succ j ih=>
   have h1:=(h (j + 1) hj).2 (by omega)
   simp only [Nat.add_sub_cancel] at h1
   rcases Nat.lt_or_ge i j with q|q
   · exact ltK_wo.tr _ _ _ (ih (by omega) q) (by rw [ltK_t];exact h1)
   · obtain rfl:i = j:=by omega
     rw [ltK_t];exact h1
theorem listOk_right {l:List It} (h:listOk l):∀ x ∈ l,itR x = true:=fun x hx=>by
 obtain ⟨i,hi,rfl⟩:=List.getElem_of_mem hx
 exact (h i hi).1
section
variable {P:Program} {n t:Nat} {ops:Array Oper} {o:Oper} {S:St}
end
section
theorem item_List (l:List It) (hk:kOk l) (hl:l.length ≤ 1000000000) (b:Bool) (hb:b = true ↔ listOk l):Fn Tryz.prog 65 [itsB l] (boR b):=by
 refine fi Tryz.func65 Tryz.ntmps65 ?_
 (refine w0 ?_;(repeat' first|refine W2.mk ?_ ?_|refine W1.mk fun hc=>?_))
 refine AW_loopP (X:=Nat) (fun z=>z ≤ l.length ∧ ∀ i,i < z → okAt l i)
   (fun z=>mkSt [(0,itsB l),(5,itsB l),(6,iC .i64 (l.length:Nat)),(7,iC .i64 (z:Nat))] []) (fun z=>l.length - z) 0 ⟨Nat.zero_le _,fun i h=>absurd h (Nat.not_lt_zero _)⟩ ?_ ?_
 · exact le_auto
 · rintro z ⟨h1,h2⟩
   by_cases hz:z < l.length
   · have hir:=item_Right l[z]
     have hno:¬ okAt l z → b = false:=fun h=>by rw [← Bool.not_eq_true,hb];exact fun q=>h (q z)
     cases hr:itR l[z] with
     | false=>
       have hb0:=hno (fun h=>by have:=(h hz).1;rw [hr] at this;cases this)
       subst hb0
       clear hb hno h2
       rw [hr] at hir
       (have kc1:=hir;refine w0 ?_;(repeat' first|refine W2.mk ?_ ?_|refine W1.mk fun hc=>?_);all_goals clear kc1)
       refine rt1 ?_
       exact rv_bool rfl rfl
     | true=>
       rw [hr] at hir
       by_cases h0:0 < z
       · obtain ⟨q,rfl⟩:∃ q,z = q + 1:=⟨z - 1,by omega⟩
         have hqE:((q + 1:Nat):Int) - 1 = (q:Nat):=by omega
         have hcm:=key_Cmp l[q].key l[q + 1].key (by have:=hk l[q] (List.getElem_mem _);omega)
         by_cases hlt:cmpB l[q].key l[q + 1].key < 0
         · have hok:okAt l (q + 1):=fun _=>⟨hr,fun _=>hlt⟩
           clear hb hno
           (have ke1:=Lib.hid (hqE);have kc1:=hir;have kc2:=hcm;refine w0e ?_;(repeat' first|refine W2.mk ?_ ?_|refine W1.mk fun hc=>?_);all_goals clear kc2 kc1 ke1)
           refine ⟨q + 1 + 1,⟨by omega,fun i hi=>?_⟩,by omega,?_⟩
           · rcases Nat.lt_or_ge i (q + 1) with q'|q'
             · exact h2 i q'
             · obtain rfl:i = q + 1:=by omega
               exact hok
           · exact le_auto
         · have hb0:=hno (fun h=>hlt ((h hz).2 h0))
           subst hb0
           clear hb hno h2
           (have ke1:=Lib.hid (hqE);have kc1:=hir;have kc2:=hcm;refine w0e ?_;(repeat' first|refine W2.mk ?_ ?_|refine W1.mk fun hc=>?_);all_goals clear kc2 kc1 ke1)
           refine rt1 ?_
           exact rv_bool rfl rfl
       · have hok:okAt l z:=fun _=>⟨hr,fun h=>absurd h h0⟩
         clear hb hno
         (have kc1:=hir;refine w0 ?_;(repeat' first|refine W2.mk ?_ ?_|refine W1.mk fun hc=>?_);all_goals clear kc1)
         refine ⟨z + 1,⟨by omega,fun i hi=>?_⟩,by omega,?_⟩
         · rcases Nat.lt_or_ge i z with q|q
           · exact h2 i q
           · obtain rfl:i = z:=by omega
             exact hok
         · exact le_auto
   · have hb1:b = true:=hb.2 (fun i=>by
       rcases Nat.lt_or_ge i z with q|q
       · exact h2 i q
       · exact fun h=>by omega)
     subst hb1
     clear hb h2
     (refine w0 ?_;(repeat' first|refine W2.mk ?_ ?_|refine W1.mk fun hc=>?_))
     refine rt1 ?_
     exact rv_bool rfl rfl
theorem ref_List (l:List It) (hk:kOk l) (hl:l.length ≤ 1000000000) (b:Bool) (hb:b = true ↔ listOk l):Fn Tryz.prog 38 [itsB l] (boR b):=by
 refine fi Tryz.func38 Tryz.ntmps38 ?_
 (refine w0 ?_;(repeat' first|refine W2.mk ?_ ?_|refine W1.mk fun hc=>?_))
 refine AW_loopP (X:=Nat) (fun z=>z ≤ l.length ∧ ∀ i,i < z → okAt l i)
   (fun z=>mkSt [(0,itsB l),(3,iC .i64 (z:Nat))] []) (fun z=>l.length - z) 0 ⟨Nat.zero_le _,fun i h=>absurd h (Nat.not_lt_zero _)⟩ ?_ ?_
 · exact le_auto
 · rintro z ⟨h1,h2⟩
   by_cases hz:z < l.length
   · have hir:=ritem_Right l[z]
     have hno:¬ okAt l z → b = false:=fun h=>by rw [← Bool.not_eq_true,hb];exact fun q=>h (q z)
     cases hr:itR l[z] with
     | false=>
       have hb0:=hno (fun h=>by have:=(h hz).1;rw [hr] at this;cases this)
       subst hb0
       clear hb hno h2
       rw [hr] at hir
       (have kc1:=hir;refine w0 ?_;(repeat' first|refine W2.mk ?_ ?_|refine W1.mk fun hc=>?_);all_goals clear kc1)
       refine rt1 ?_
       exact rv_bool rfl rfl
     | true=>
       rw [hr] at hir
       by_cases h0:0 < z
       · obtain ⟨q,rfl⟩:∃ q,z = q + 1:=⟨z - 1,by omega⟩
         have hqE:((q + 1:Nat):Int) - 1 = (q:Nat):=by omega
         have hcm:=ref_Less l[q].key l[q + 1].key (by have:=hk l[q] (List.getElem_mem _);omega)
         by_cases hlt:cmpB l[q].key l[q + 1].key < 0
         · have hok:okAt l (q + 1):=fun _=>⟨hr,fun _=>hlt⟩
           rw [decide_eq_true hlt] at hcm
           clear hb hno
           (have ke1:=Lib.hid (hqE);have kc1:=hir;have kc2:=hcm;refine w0e ?_;(repeat' first|refine W2.mk ?_ ?_|refine W1.mk fun hc=>?_);all_goals clear kc2 kc1 ke1)
           refine ⟨q + 1 + 1,⟨by omega,fun i hi=>?_⟩,by omega,?_⟩
           · rcases Nat.lt_or_ge i (q + 1) with q'|q'
             · exact h2 i q'
             · obtain rfl:i = q + 1:=by omega
               exact hok
           · exact le_auto
         · have hb0:=hno (fun h=>hlt ((h hz).2 h0))
           rw [decide_eq_false hlt] at hcm
           subst hb0
           clear hb hno h2
           (have ke1:=Lib.hid (hqE);have kc1:=hir;have kc2:=hcm;refine w0e ?_;(repeat' first|refine W2.mk ?_ ?_|refine W1.mk fun hc=>?_);all_goals clear kc2 kc1 ke1)
           refine rt1 ?_
           exact rv_bool rfl rfl
       · have hok:okAt l z:=fun _=>⟨hr,fun h=>absurd h h0⟩
         clear hb hno
         (have kc1:=hir;refine w0 ?_;(repeat' first|refine W2.mk ?_ ?_|refine W1.mk fun hc=>?_);all_goals clear kc1)
         refine ⟨z + 1,⟨by omega,fun i hi=>?_⟩,by omega,?_⟩
         · rcases Nat.lt_or_ge i z with q|q
           · exact h2 i q
           · obtain rfl:i = z:=by omega
             exact hok
         · exact le_auto
   · have hb1:b = true:=hb.2 (fun i=>by
       rcases Nat.lt_or_ge i z with q|q
       · exact h2 i q
       · exact fun h=>by omega)
     subst hb1
     clear hb h2
     (refine w0 ?_;(repeat' first|refine W2.mk ?_ ?_|refine W1.mk fun hc=>?_))
     refine rt1 ?_
     exact rv_bool rfl rfl
end
structure Sta where
 id:Int:=0
 flt:List Rg:=[]
 its:List It:=[]
 know:List Pc:=[]
 cnt:Int:=0
/-- what knowledge has of the texts of a list -/
def resF (k:List Pc) (f:List Rg) (s:ByteArray):List Kn:=if anyR f s then atK k s else []
def resE (k:List Pc) (f:List Rg):List ByteArray:=edgT [emB] (rgsOf k ++ f)
def restK (k:List Pc) (f:List Rg):List Pc:=bldK (resF k f) (resE k f)
theorem resF_ok (k:List Pc) (f:List Rg) (s:ByteArray):knsOk (resF k f s):=by
 unfold resF
 split
 · exact atK_ok k s
 · exact knsOk_nil
theorem resE_edge {k:List Pc} {f:List Rg} {r:Rg} (hr:r ∈ rgsOf k ++ f) {m:ByteArray} (h:isEdge r m):m ∈ resE k f:=(edgT_mem _ _ _).2 (.inr ⟨r,hr,h⟩)
theorem resE_up (k:List Pc) (f:List Rg):upT (resE k f):=edgT_up _ _ (by simp)
theorem resE_em (k:List Pc) (f:List Rg):emB ∈ resE k f:=(edgT_mem _ _ _).2 (.inl (by simp))
theorem resE_ok (k:List Pc) (f:List Rg):edgOk (resE k f):=fun m hm=>by
 rcases (edgT_mem _ _ _).1 hm with h|⟨r,_,h1,h2⟩
 · have h:m = emB:=by simpa using h
   rw [h];decide
 · have:=(rgR_iff r).1 h1
   rcases h2 with h2|⟨_,h2⟩ <;> rw [h2] <;> omega
theorem resF_cst (k:List Pc) (f:List Rg):CstT (resF k f) (resE k f):=fun e n hen h=>by
 have h1:atK k e = atK k n:=atK_mid hen fun p hp m hm=>h m (resE_edge (List.mem_append_left _ (List.mem_map_of_mem hp)) hm)
 have h2:anyR f e = anyR f n:=by
   unfold anyR
   rw [Bool.eq_iff_iff,List.any_eq_true,List.any_eq_true]
   constructor
   · rintro ⟨r,hr,q⟩
     exact ⟨r,hr,by rw [← rgHas_mid hen fun m hm=>h m (resE_edge (List.mem_append_right _ hr) hm)];exact q⟩
   · rintro ⟨r,hr,q⟩
     exact ⟨r,hr,by rw [rgHas_mid hen fun m hm=>h m (resE_edge (List.mem_append_right _ hr) hm)];exact q⟩
 unfold resF
 rw [h1,h2]
theorem restK_ok (k:List Pc) (f:List Rg):pcsOk (restK k f) ∧ ∀ s,getK (restK k f) s = resF k f s:=bldK_ok (resF_ok k f) (resE_up k f) (resE_ok k f) (resE_em k f) (resF_cst k f)
/-- the greatest count of runs -/
def lastTo (l:List Rn):Int:=match l.getLast? with|some r=>r.to|none=>0
def mostR (l:List Rn):Int:=lastTo (ofR l)
/-- a replica's greatest count in a set, in knowledge -/
def mostS (s:List Kn) (id:Int):Int:=if 1 ≤ id ∧ id ≤ 16 then mostR (tabAt s (id - 1).toNat) else 0
def mostK (k:List Pc) (id:Int):Int:=k.foldl (fun n p=>max n (mostS p.set id)) 0
theorem lastTo_snoc (l:List Rn) (r:Rn):lastTo (l ++ [r]) = r.to:=by unfold lastTo;simp
theorem mostR_nn (l:List Rn):0 ≤ mostR l:=by
 unfold mostR
 have h:=ofR_ok l
 generalize ofR l = L at *
 rcases List.eq_nil_or_concat L with rfl|⟨a,y,rfl⟩
 · exact Int.le_refl 0
 · rw [List.concat_eq_append,lastTo_snoc]
   have:=(h a.length (by simp) (by simp)).1
   simp at this
   have:=(rnR_iff y).1 this
   omega
/-- the greatest of a set's entries of a replica -/
def fold1 (id:Int) (n:Int) (k:Kn):Int:=if k.rep = id then max n (lastTo k.runs) else n
theorem fold_set (id:Int):∀ (T:List (List Rn)) (i:Nat) (n:Int),0 ≤ n → (setFrom ofR i T).foldl (fold1 id) n = if h:(i:Int) < id ∧ id ≤ i + T.length then max n (mostR (T[(id - 1 - i).toNat]'(by omega))) else n:=by
 intro T
 induction T with
 | nil=>intro i n hn;rw [dif_neg (fun q=>by have:=q.2;simp only [List.length_nil] at this;omega)];rfl
 | cons l T ih=>
   intro i n hn
   rw [setFrom,List.foldl_append]
   by_cases e:id = (i:Int) + 1
   · have h1:(if (ofR l).length = 0 then [] else [(⟨(i:Int) + 1,ofR l⟩:Kn)]).foldl (fold1 id) n = max n (mostR l):=by
       split
       · rename_i h0
         have:ofR l = []:=List.eq_nil_of_length_eq_zero h0
         have hm:mostR l = 0:=by unfold mostR;rw [this];rfl
         rw [hm];exact (Int.max_eq_left hn).symm
       · simp only [List.foldl_cons,List.foldl_nil,fold1]
         rw [if_pos e.symm];rfl
     rw [h1,ih (i + 1) _ (by omega),dif_neg (by simp;omega),dif_pos (by simp;omega)]
     have:(id - 1 - (i:Int)).toNat = 0:=by omega
     simp only [this,List.getElem_cons_zero]
   · have h1:(if (ofR l).length = 0 then [] else [(⟨(i:Int) + 1,ofR l⟩:Kn)]).foldl (fold1 id) n = n:=by
       split
       · rfl
       · simp only [List.foldl_cons,List.foldl_nil,fold1]
         rw [if_neg (fun q=>e q.symm)]
     rw [h1,ih (i + 1) n hn]
     by_cases c:(i:Int) < id ∧ id ≤ (i:Int) + ((l :: T).length:Nat)
     · simp only [List.length_cons] at c
       rw [dif_pos (by omega),dif_pos (by simp only [List.length_cons];omega)]
       obtain ⟨m,hm⟩:∃ m,(id - 1 - (i:Int)).toNat = m + 1:=⟨(id - 1 - (i:Int)).toNat - 1,by omega⟩
       have hm2:(id - 1 - ((i + 1:Nat):Int)).toNat = m:=by omega
       simp only [hm,hm2,List.getElem_cons_succ]
     · rw [dif_neg (by simp only [List.length_cons] at c;omega),dif_neg c]
theorem fold_vsOf (s:List Kn) (id n:Int) (hn:0 ≤ n):(vsOf ofR s).foldl (fold1 id) n = max n (mostS s id):=by
 unfold vsOf
 rw [fold_set id _ 0 n hn]
 unfold mostS
 by_cases c:1 ≤ id ∧ id ≤ 16
 · rw [dif_pos (by rw [tabOf_len];omega),if_pos c]
   have h:=tabOf_get s (r:=(id - 1).toNat) (by omega)
   have e:(id - 1 - ((0:Nat):Int)).toNat = (id - 1).toNat:=by omega
   simp only [e]
   rw [List.getElem?_eq_getElem (by rw [tabOf_len];omega)] at h
   rw [Option.some.inj h]
 · rw [dif_neg (by rw [tabOf_len];omega),if_neg c];omega
def verOf (x:It):Int × Int:=(x.rep,x.cnt)
def apartB (l:List It):Bool:=decide ((l.map verOf).Nodup)
/-- has a set a version? -/
def hasKb (s:List Kn) (r c:Int):Bool:=verR r c && hasRb (tabAt s (r - 1).toNat) c
/-- is a version of a text known? -/
def hasPb (k:List Pc) (s:ByteArray) (r c:Int):Bool:=k.any fun p=>rgHas p.rg s && hasKb p.set r c
def listB (l:List It):Bool:=l.all itR && decide ((l.map It.key).Pairwise (· < ·))
def stR (s:Sta):Bool:=
 decide (1 ≤ s.id ∧ s.id ≤ 16) && decide (0 ≤ s.cnt ∧ s.cnt ≤ 1099511627776) && decide (s.its.length ≤ 4096) && decide (rgsOk s.flt) && listB s.its && decide (pcsOk s.know) &&
 decide (restK s.know s.flt = s.know) && decide (mostK s.know s.id ≤ s.cnt) && apartB s.its && s.its.all (fun x=>anyR s.flt x.key && hasPb s.know x.key x.rep x.cnt)
end Go.Proofs.YtembiemaiacdfaaGreat
