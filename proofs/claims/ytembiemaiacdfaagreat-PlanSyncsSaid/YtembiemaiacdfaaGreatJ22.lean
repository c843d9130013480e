/- Texts joined: Wins Law18 Best LawCh Find StP. -/
import Derived.Test.YtembiemaiacdfaaGreatJ21
import Derived.Test.YtembiemaiacdfaaGreatJ05
import Derived.Test.YtembiemaiacdfaaGreatJ07
import Derived.Test.YtembiemaiacdfaaGreatJ16
set_option maxRecDepth 10000
set_option maxHeartbeats 8000000
namespace Go.Proofs.YtembiemaiacdfaaGreat
open Go.RowKit
def MR:It:=⟨⟨#[]⟩,0,0,0,0,false,⟨#[]⟩⟩
def ui (b:Option (Nat × It)) (i:Nat) (x:It):Option (Nat × It):=if itR x then (match b with
 | none=>some (i,x)
 | some p=>if mW x p.2 > 0 then some (i,x) else some p) else b
def ao:Option (Nat × It) → Int
 | none=>-1
 | some p=>(p.1:Nat)
def KS (l:List It) (b:Option (Nat × It)):Prop:=∀ p,b = some p → l[p.1]? = some p.2 ∧ itR p.2 = true
theorem Ja {l:List It} {b:Option (Nat × It)} {i:Nat} (hi:i < l.length) (h:KS l b):KS l (ui b i l[i]):=by
 intro p hp
 unfold ui at hp
 split at hp
 · rename_i hr
   cases b with
   | none=>simp at hp;subst hp;exact ⟨by simp [hi],hr⟩
   | some q=>
     simp only at hp
     split at hp
     · cases hp;exact ⟨by simp [hi],hr⟩
     · cases hp;exact h _ rfl
 · exact h _ hp
theorem lQ (s u:ByteArray):s.toList = u.toList ↔ s = u:=by
 rw [← gK,beq_toListBytes,beq_iff_eq]
section
abbrev MA (ls:List (List It)):Cnt:=.bor 1 (ls.map fun l=>[cG l])
abbrev wC (l:List It):Ret:=.own 61 7 (l.map itP)
theorem qE (ls:List (List It)) (hl:(ls.flatten.filter itR).length ≤ 100000000) (hn:ls.length ≤ 1000000000) (hm:∀ l ∈ ls,l.length ≤ 1000000000):Fn Tryz.prog 68 [MA ls] (wC (aV ls)):=by
 generalize hT:ls.flatten.filter itR = T at *
 have hTr:∀ x ∈ T,itR x = true:=fun x hx=>by rw [← hT] at hx;exact (List.mem_filter.1 hx).2
 have hs:=o5 T (Co hTr) hl
 generalize hR:aV ls = R
 unfold aV at hR
 rw [hT] at hR
 have hql:=fH T
 generalize dP T = Q at *
 refine fi Tryz.func68 Tryz.ntmps68 ?_
 (refine w0 ?_;(repeat' first|refine W2.mk ?_ ?_|refine W1.mk fun hc=>?_))
 refine ck (bz 3 600 61 7 rfl rfl) ?_
 refine ah (X:=Nat × List It) (fun x=>x.1 ≤ ls.length ∧ x.2 ++ (ls.drop x.1).flatten.filter itR = T)
   (fun x=>aN [(3,.row 600 0),(12,MA ls),(13,iC .i64 (ls.length:Nat)),(14,iC .i64 (x.1:Nat))] [(600,dR x.2)]) (fun x=>ls.length - x.1) (0,[]) ⟨Nat.zero_le _,by simp [hT]⟩ ?_ ?_
 · exact ab
 · rintro ⟨i,acc⟩ ⟨h1,h2⟩
   simp only at h1 h2 ⊢
   by_cases hlt:i < ls.length
   · have hml:=hm _ (List.getElem_mem hlt)
     rw [List.drop_eq_getElem_cons hlt,List.flatten_cons,List.filter_append] at h2
     (refine w0 ?_;(repeat' first|refine W2.mk ?_ ?_|refine W1.mk fun hc=>?_))
     refine ah (X:=Nat × List It) (fun x=>x.1 ≤ ls[i].length ∧ x.2 ++ ((ls[i].drop x.1).filter itR ++ (ls.drop (i + 1)).flatten.filter itR) = T)
       (fun x=>aN [(3,.row 600 0),(12,MA ls),(13,iC .i64 (ls.length:Nat)),(14,iC .i64 (i:Nat)),(18,.per (cG ls[i])),(19,iC .i64 (ls[i].length:Nat)),(20,iC .i64 (x.1:Nat))] [(600,dR x.2)]) (fun x=>ls[i].length - x.1) (0,acc) ⟨Nat.zero_le _,by simpa using h2⟩ ?_ ?_
     · exact ab
     · rintro ⟨k,ac⟩ ⟨g1,g2⟩
       simp only at g1 g2 ⊢
       by_cases hk:k < ls[i].length
       · have hir:=d0 ls[i][k]
         have hlen:ac.length ≤ 100000000:=by
           have:=congrArg List.length g2
           simp only [List.length_append] at this;omega
         rw [List.drop_eq_getElem_cons hk,List.filter_cons] at g2
         cases hr:itR ls[i][k] with
         | false=>
           rw [hr] at hir g2
           (have kc1:=hir;refine w0 ?_;(repeat' first|refine W2.mk ?_ ?_|refine W1.mk fun hc=>?_);all_goals clear kc1)
           refine ⟨(k + 1,ac),⟨by simp only;omega,by simpa using g2⟩,by simp only;omega,?_⟩
           exact ab
         | true=>
           rw [hr] at hir g2
           (have kc1:=hir;refine w0 ?_;(repeat' first|refine W2.mk ?_ ?_|refine W1.mk fun hc=>?_);all_goals clear kc1)
           refine ⟨(k + 1,ac ++ [ls[i][k]]),⟨by simp only;omega,by simpa using g2⟩,by simp only;omega,ak (aM 600 601) (ak (aM 601 600) ?_)⟩
           exact ab
       · have hkl:k = ls[i].length:=by omega
         rw [hkl,List.drop_length,List.filter_nil,List.nil_append] at g2
         (refine w0 ?_;(repeat' first|refine W2.mk ?_ ?_|refine W1.mk fun hc=>?_))
         refine ⟨(i + 1,ac),⟨by simp only;omega,g2⟩,by simp only;omega,?_⟩
         exact ab
   · have hil:i = ls.length:=by omega
     subst hil
     rw [List.drop_length] at h2
     simp at h2
     subst h2
     (have km1:=(show bv [(1000,600)] _ _ _ _ _ _ from hs);refine w0 ?_;(repeat' first|refine W2.mk ?_ ?_|refine W1.mk fun hc=>?_);all_goals clear km1)
     clear hs hTr hT hm hn
     refine ck (bz 8 700 61 7 rfl rfl) ?_
     refine ah (X:=Nat × List It) (fun x=>x.1 ≤ Q.length ∧ x.2.length ≤ x.1 ∧ (Q.drop x.1).foldl mx x.2 = R)
       (fun x=>aN [(8,.row 700 0),(34,.row 600 0),(35,iC .i64 (Q.length:Nat)),(36,iC .i64 (x.1:Nat))] [(600,dR Q),(700,dR x.2)]) (fun x=>Q.length - x.1) (0,[]) ⟨Nat.zero_le _,Nat.le_refl _,hR⟩ ?_ ?_
     · exact ab
     · rintro ⟨k,out⟩ ⟨g1,g2,g3⟩
       simp only at g1 g2 g3 ⊢
       by_cases hk:k < Q.length
       · have hol:out.length ≤ 100000000:=by omega
         have HQ:(Q.map itP)[k]? = some (itP Q[k]):=by rw [List.getElem?_map,List.getElem?_eq_getElem hk];rfl
         rw [List.drop_eq_getElem_cons hk,List.foldl_cons,mx] at g3
         rcases cP out with rfl|⟨o,y,rfl⟩
         · simp only [List.reverse_nil] at g3
           (refine w0 ?_;(repeat' (first|refine W2.mk ?_ ?_|refine W1.mk fun hc=>?_|((first|apply aD rfl|apply aF rfl|apply aG rfl|apply aH rfl);(focus (first|((apply az 5;(focus rfl);exact ae ⟨rfl,rfl,rfl⟩ rfl inferInstance inferInstance rfl rfl rfl HQ rfl rfl rfl))|(apply bx;(focus rfl);apply ag rfl rfl rfl rfl rfl;first|((apply az 5;(focus rfl);exact ae ⟨rfl,rfl,rfl⟩ rfl inferInstance inferInstance rfl rfl rfl HQ rfl rfl rfl)))));refine w0 ?_))))
           refine ⟨(k + 1,[Q[k]]),⟨by simp only;omega,by simp,g3⟩,by simp only;omega,ak (aM 700 701) (ak (aM 701 700) ?_)⟩
           exact ab
         · simp only [List.reverse_append,List.reverse_cons,List.reverse_nil,List.nil_append,List.singleton_append,List.reverse_reverse] at g3
           have hcm:=ER Q[k] y
           have hL1:(o ++ [y]).length = o.length + 1:=by simp
           generalize hL:o ++ [y] = L at *
           have HY:(L.map itP)[((L.length:Int) - 1).toNat]? = some (itP y):=by
             rw [List.getElem?_map,← hL,show (((o ++ [y]).length:Int) - 1).toNat = o.length by rw [hL];omega]
             simp
           have HS:(L.map itP).set ((L.length:Int) - 1).toNat (bI (itP y) 0 (itP Q[k])) = (o ++ [Q[k]]).map itP:=by
             rw [show (L.map itP).set ((L.length:Int) - 1).toNat (bI (itP y) 0 (itP Q[k])) = (L.set ((L.length:Int) - 1).toNat Q[k]).map itP from bp itP _ _ _,← hL,dE o y Q[k] [] _ (by rw [hL];omega)]
           by_cases hky:y.key = Q[k].key
           · rw [if_pos hky] at g3
             (have kc1:=hcm;refine w0 ?_;(repeat' (first|refine W2.mk ?_ ?_|refine W1.mk fun hc=>?_|((first|apply aD rfl|apply aF rfl|apply aG rfl|apply aH rfl);(focus (first|((apply az 5;(focus rfl);first|exact aw ⟨rfl,rfl,rfl⟩ rfl inferInstance rfl rfl rfl HY rfl|exact ae ⟨rfl,rfl,rfl⟩ rfl inferInstance inferInstance rfl rfl rfl HY rfl rfl rfl|exact ae ⟨rfl,rfl,rfl⟩ rfl inferInstance inferInstance rfl rfl rfl HQ rfl rfl rfl))|((apply az 6;(focus rfl);exact al ⟨rfl,rfl⟩ rfl inferInstance rfl rfl rfl rfl HY rfl (.inl rfl) rfl HS))|(apply bx;(focus rfl);apply ag rfl rfl rfl rfl rfl;first|((apply az 5;(focus rfl);first|exact aw ⟨rfl,rfl,rfl⟩ rfl inferInstance rfl rfl rfl HY rfl|exact ae ⟨rfl,rfl,rfl⟩ rfl inferInstance inferInstance rfl rfl rfl HY rfl rfl rfl|exact ae ⟨rfl,rfl,rfl⟩ rfl inferInstance inferInstance rfl rfl rfl HQ rfl rfl rfl))|((apply az 6;(focus rfl);exact al ⟨rfl,rfl⟩ rfl inferInstance rfl rfl rfl rfl HY rfl (.inl rfl) rfl HS)))));refine w0 ?_)));all_goals clear kc1)
             · rw [if_pos (by omega)] at g3
               refine ⟨(k + 1,o ++ [Q[k]]),⟨by simp only;omega,by simp;omega,g3⟩,by simp only;omega,?_⟩
               exact ab
             · rw [if_neg (by omega)] at g3
               refine ⟨(k + 1,L),⟨by simp only;omega,by simp only;omega,g3⟩,by simp only;omega,?_⟩
               exact ab
           · rw [if_neg hky] at g3
             have hne:y.key.toList ≠ Q[k].key.toList:=fun h=>hky ((lQ _ _).1 h)
             (have kc1:=hcm;refine w0 ?_;(repeat' (first|refine W2.mk ?_ ?_|refine W1.mk fun hc=>?_|((first|apply aD rfl|apply aF rfl|apply aG rfl|apply aH rfl);(focus (first|((apply az 5;(focus rfl);first|exact aw ⟨rfl,rfl,rfl⟩ rfl inferInstance rfl rfl rfl HY rfl|exact ae ⟨rfl,rfl,rfl⟩ rfl inferInstance inferInstance rfl rfl rfl HY rfl rfl rfl|exact ae ⟨rfl,rfl,rfl⟩ rfl inferInstance inferInstance rfl rfl rfl HQ rfl rfl rfl))|((apply az 6;(focus rfl);exact al ⟨rfl,rfl⟩ rfl inferInstance rfl rfl rfl rfl HY rfl (.inl rfl) rfl HS))|(apply bx;(focus rfl);apply ag rfl rfl rfl rfl rfl;first|((apply az 5;(focus rfl);first|exact aw ⟨rfl,rfl,rfl⟩ rfl inferInstance rfl rfl rfl HY rfl|exact ae ⟨rfl,rfl,rfl⟩ rfl inferInstance inferInstance rfl rfl rfl HY rfl rfl rfl|exact ae ⟨rfl,rfl,rfl⟩ rfl inferInstance inferInstance rfl rfl rfl HQ rfl rfl rfl))|((apply az 6;(focus rfl);exact al ⟨rfl,rfl⟩ rfl inferInstance rfl rfl rfl rfl HY rfl (.inl rfl) rfl HS)))));refine w0 ?_)));all_goals clear kc1)
             refine ⟨(k + 1,L ++ [Q[k]]),⟨by simp only;omega,by simp;omega,g3⟩,by simp only;omega,ak (aM 700 701) (ak (aM 701 700) ?_)⟩
             exact ab
       · have hkl:k = Q.length:=by omega
         rw [hkl,List.drop_length,List.foldl_nil] at g3
         (refine w0 ?_;(repeat' first|refine W2.mk ?_ ?_|refine W1.mk fun hc=>?_))
         refine aQ ?_
         exact dq rfl rfl rfl (by rw [g3])
end
section
variable {P:Program} {n t:Nat} {ops:Array Oper} {o:Oper} {S:St}
end
section
end
def jI:Option It → Option It → Option It
 | none,b=>b
 | some a,none=>some a
 | some a,some b=>if mW b a > 0 then some b else some a
theorem f7 (a:Option It):jI a none = a:=by cases a <;> rfl
theorem nh (x y:It):mW x y > 0 ↔ (x.rank > y.rank ∨ x.rank = y.rank ∧ (x.rep > y.rep ∨ x.rep = y.rep ∧ x.cnt > y.cnt)):=by
 unfold mW vR
 split
 · exact ⟨fun _=>.inl (by assumption),fun _=>by decide⟩
 · split
   · exact ⟨fun h=>absurd h (by decide),fun h=>by omega⟩
   · split
     · exact ⟨fun h=>absurd h (by decide),fun h=>by omega⟩
     · split
       · exact ⟨fun h=>absurd h (by decide),fun h=>by omega⟩
       · exact ⟨fun h=>by omega,fun h=>by decide⟩
theorem qF (a b c:Option It):jI (jI a b) c = jI a (jI b c):=by
 cases a with
 | none=>rfl
 | some a=>
   cases b with
   | none=>rfl
   | some b=>
     cases c with
     | none=>simp only [f7]
     | some c=>
       simp only [jI]
       by_cases h1:mW b a > 0 <;> by_cases h2:mW c b > 0 <;> simp only [h1,h2,if_true,if_false]
       all_goals (rw [nh] at h1 h2)
       · rw [if_pos];rw [nh];omega
       · rw [if_neg];rw [nh];omega
def LO (b:Option It) (x:It):Option It:=jI b (some x)
def bN (k:ByteArray) (l:List It):Option It:=(l.filter fun x=>x.key == k).foldl LO none
theorem wD (l:List It):∀ b,l.foldl LO b = jI b (l.foldl LO none):=by
 induction l with
 | nil=>intro b;exact (f7 b).symm
 | cons x l ih=>
   intro b
   rw [List.foldl_cons,List.foldl_cons,ih (LO b x),ih (LO none x)]
   exact qF b (some x) _
theorem cW (k:ByteArray) (l r:List It):bN k (l ++ r) = jI (bN k l) (bN k r):=by
 unfold bN
 rw [List.filter_append,List.foldl_append,wD]
theorem eW (k:ByteArray) (x:It):bN k [x] = if x.key == k then some x else none:=by
 unfold bN
 rw [List.filter_cons]
 split <;> rfl
theorem ig {k:ByteArray} {l:List It} (h:∀ x ∈ l,x.key ≠ k):bN k l = none:=by
 unfold bN
 rw [List.filter_eq_nil_iff.2 (fun x hx=>by simpa [gK] using h x hx)];rfl
theorem sB:∀ (a b:List UInt8),cp b a = - cp a b ∧ (cp a b = 0 → a = b):=by
 intro a
 induction a with
 | nil=>intro b;cases b <;> simp [cp]
 | cons x a ih=>
   intro b
   cases b with
   | nil=>simp [cp]
   | cons y b=>
     obtain ⟨h1,h2⟩:=ih b
     simp only [cp]
     refine ⟨?_,?_⟩
     · split
       · split
         · omega
         · rfl
       · split
         · rfl
         · exact h1
     · split
       · intro h;cases h
       · split
         · intro h;cases h
         · intro h
           rw [h2 h,show x = y from UInt8.toNat_inj.1 (by omega)]
theorem lR (s t:ByteArray):bG s t = 0 ↔ s = t:=by
 constructor
 · intro h
   have:=(sB s.data.toList t.data.toList).2 h
   cases s;cases t;simp only at this;rw [Array.toList_inj.1 this]
 · rintro rfl
   exact (pu s.data.toList [] []).1
theorem sD (s t:ByteArray):bG t s = - bG s t:=(sB _ _).1
theorem Jb (x y:It):qq ltK x y = (y.key == x.key):=by
 have h1:=lR y.key x.key
 have h2:=sD y.key x.key
 rw [Bool.eq_iff_iff,gK,← h1]
 unfold qq ltK
 simp only [Bool.and_eq_true,Bool.not_eq_true',decide_eq_false_iff_not]
 omega
theorem AM (x:It):qq ltK x = fun y=>y.key == x.key:=funext (Jb x)
theorem FO {M N:List It} (h:fa ltK M N) (k:ByteArray):bN k N = bN k M:=by
 have:=h ⟨k,0,0,0,0,false,⟨#[]⟩⟩
 simp only [AM] at this
 unfold bN;rw [this]
def Up (l:List It):Prop:=l.Pairwise fun x y=>ltK x y = true
theorem Up.srt {l:List It} (h:Up l):jc ltK l:=h.imp fun h=>dn.asym h
theorem uj {x y:It} (h:ltK x y = true):x.key ≠ y.key:=fun e=>by
 rw [gR,e,(lR _ _).2 rfl] at h;omega
theorem uk {x y:It} (h1:ltK x y = false) (h2:y.key ≠ x.key):ltK y x = true:=by
 rw [wA] at h1
 have h3:=sD x.key y.key
 have h4:bG y.key x.key ≠ 0:=mt (lR y.key x.key).1 h2
 rw [gR];omega
theorem Up.filter {l:List It} (h:Up l) (k:ByteArray):l.filter (fun x=>x.key == k) = (bN k l).toList:=by
 unfold bN
 suffices hs:∃ o:Option It,l.filter (fun x=>x.key == k) = o.toList by
   obtain ⟨o,ho⟩:=hs
   rw [ho];cases o <;> rfl
 induction l with
 | nil=>exact ⟨none,rfl⟩
 | cons x l ih=>
   have h':=List.pairwise_cons.1 h
   rw [List.filter_cons]
   split
   · rename_i hx
     rw [gK] at hx
     refine ⟨some x,?_⟩
     rw [List.filter_eq_nil_iff.2 (fun y hy e=>by
       rw [gK] at e
       exact uj (h'.1 y hy) (hx.trans e.symm))]
     rfl
   · exact ih h'.2
theorem Up.uniq {M N:List It} (hM:Up M) (hN:Up N) (h:∀ k,bN k M = bN k N):M = N:=
 jc.uniq dn hM.srt hN.srt fun x=>by simp only [AM];rw [hN.filter,hM.filter,h]
theorem FP:∀ (r P out:List It),jc ltK r → Up out → (∀ z ∈ out,∀ x ∈ r,ltK x z = false) → (∀ z ∈ out,z ∈ P) → (∀ k,bN k out = bN k P) →
   Up (r.foldl mx out) ∧ (∀ z ∈ r.foldl mx out,z ∈ P ++ r) ∧ ∀ k,bN k (r.foldl mx out) = bN k (P ++ r):=by
 intro r
 induction r with
 | nil=>intro P out _ h2 _ h4 h5;simpa using ⟨h2,h4,h5⟩
 | cons x r ih=>
   intro P out h1 h2 h3 h4 h5
   have h1':=List.pairwise_cons.1 h1
   have key:Up (mx out x) ∧ (∀ z ∈ mx out x,z = x ∨ z ∈ out) ∧ ∀ k,bN k (mx out x) = jI (bN k out) (bN k [x]):=by
     unfold mx
     rcases cP out with rfl|⟨o,y,rfl⟩
     · exact ⟨List.pairwise_singleton _ _,fun z hz=>by simp at hz;exact .inl hz,fun k=>rfl⟩
     · simp only [List.reverse_append,List.reverse_cons,List.reverse_nil,List.nil_append,List.singleton_append,List.reverse_reverse]
       have hu:=List.pairwise_append.1 h2
       have hyx:=h3 y (by simp) x (by simp)
       split
       · rename_i hk
         have ho:∀ z ∈ o,z.key ≠ y.key:=fun z hz=>uj (hu.2.2 z hz y (by simp))
         split
         · rename_i hc
           refine ⟨List.pairwise_append.2 ⟨hu.1,List.pairwise_singleton _ _,fun z hz w hw=>?_⟩,fun z hz=>?_,fun k=>?_⟩
           · simp at hw;subst hw
             have:=hu.2.2 z hz y (by simp)
             rw [gR,hk] at this;rw [gR];exact this
           · simp at hz ⊢;rcases hz with q|q
             · exact .inr (.inl q)
             · exact .inl q
           · rw [cW,cW,eW,eW,hk]
             by_cases hkk:(x.key == k) = true
             · simp only [hkk,if_true]
               rw [ig (fun z hz e=>ho z hz (by rw [e,hk,(gK _ _).1 hkk]))]
               simp [jI,hc]
             · simp only [hkk];simp [f7]
         · rename_i hc
           refine ⟨h2,fun z hz=>.inr hz,fun k=>?_⟩
           rw [cW,eW,eW,hk]
           by_cases hkk:(x.key == k) = true
           · simp only [hkk,if_true]
             rw [ig (fun z hz e=>ho z hz (by rw [e,hk,(gK _ _).1 hkk]))]
             simp only [jI];rw [if_neg hc]
           · simp only [hkk];simp [f7]
       · rename_i hk
         have hlt:=uk hyx hk
         refine ⟨List.pairwise_append.2 ⟨h2,List.pairwise_singleton _ _,fun z hz w hw=>?_⟩,fun z hz=>?_,fun k=>cW k _ _⟩
         · simp at hw;subst hw
           rcases List.mem_append.1 hz with q|q
           · exact dn.tr z y _ (hu.2.2 z q y (by simp)) hlt
           · simp at q;subst q;exact hlt
         · rcases List.mem_append.1 hz with q|q
           · exact .inr q
           · simp at q;exact .inl q
   obtain ⟨k1,k2,k3⟩:=key
   have:=ih (P ++ [x]) (mx out x) h1'.2 k1 (fun z hz w hw=>?_) (fun z hz=>?_) (fun k=>by rw [k3,cW,h5])
   · simpa using this
   · rcases k2 z hz with q|q
     · subst q;exact h1'.1 w hw
     · exact h3 z q w (by simp [hw])
   · rcases k2 z hz with q|q
     · subst q;simp
     · exact List.mem_append_left _ (h4 z q)
theorem bw (ls:List (List It)):Up (aV ls) ∧ (∀ z ∈ aV ls,z ∈ ls.flatten.filter itR) ∧ ∀ k,bN k (aV ls) = bN k (ls.flatten.filter itR):=by
 unfold aV
 generalize ls.flatten.filter itR = T
 obtain ⟨h1,h2,h3⟩:=FP (dP T) [] [] (k7 T) List.Pairwise.nil (fun z h=>by simp at h) (fun z h=>by simp at h) (fun _=>rfl)
 exact ⟨h1,fun z hz=>(jH T).mem dn (by simpa using h2 z hz),fun k=>by rw [h3,List.nil_append,FO (jH T)]⟩
theorem ul {ls:List (List It)}:(aV ls).filter itR = aV ls:=List.filter_eq_self.2 fun z hz=>(List.mem_filter.1 ((bw ls).2.1 z hz)).2
theorem qG (ls:List (List It)):(aV ls).length ≤ (ls.flatten.filter itR).length:=by
 unfold aV
 generalize ls.flatten.filter itR = T
 have:∀ (r out:List It),(r.foldl mx out).length ≤ out.length + r.length:=by
   intro r
   induction r with
   | nil=>intro out;exact Nat.le_refl _
   | cons x r ih=>
     intro out
     rw [List.foldl_cons,List.length_cons]
     have h1:=ih (mx out x)
     have h2:=FK out x
     omega
 have:=this (dP T) []
 rw [fH] at this
 simpa using this
section
end
def um (l:List It) (i:Nat):Prop:=∀ h:i < l.length,itR l[i] = true ∧ ∀ h0:0 < i,bG l[i - 1].key l[i].key < 0
def qH (l:List It):Prop:=∀ i,um l i
theorem oz {l:List It} (h:qH l):Up l:=by
 unfold Up
 rw [List.pairwise_iff_getElem]
 intro i j hi hj hij
 induction j with
 | zero=>omega
 | succ j ih=>
   have h1:=(h (j + 1) hj).2 (by omega)
   simp only [Nat.add_sub_cancel] at h1
   rcases Nat.lt_or_ge i j with q|q
   · exact dn.tr _ _ _ (ih (by omega) q) (by rw [gR];exact h1)
   · obtain rfl:i = j:=by omega
     rw [gR];exact h1
theorem un {l:List It} (h:qH l):∀ x ∈ l,itR x = true:=fun x hx=>by
 obtain ⟨i,hi,rfl⟩:=List.getElem_of_mem hx
 exact (h i hi).1
section
variable {P:Program} {n t:Nat} {ops:Array Oper} {o:Oper} {S:St}
end
section
theorem sE (l:List It) (hk:jG l) (hl:l.length ≤ 1000000000) (b:Bool) (hb:b = true ↔ qH l):Fn Tryz.prog 65 [di l] (bO b):=by
 refine fi Tryz.func65 Tryz.ntmps65 ?_
 (refine w0 ?_;(repeat' first|refine W2.mk ?_ ?_|refine W1.mk fun hc=>?_))
 refine ah (X:=Nat) (fun z=>z ≤ l.length ∧ ∀ i,i < z → um l i)
   (fun z=>aN [(0,di l),(5,di l),(6,iC .i64 (l.length:Nat)),(7,iC .i64 (z:Nat))] []) (fun z=>l.length - z) 0 ⟨Nat.zero_le _,fun i h=>absurd h (Nat.not_lt_zero _)⟩ ?_ ?_
 · exact ab
 · rintro z ⟨h1,h2⟩
   by_cases hz:z < l.length
   · have hir:=d0 l[z]
     have hno:¬ um l z → b = false:=fun h=>by rw [← Bool.not_eq_true,hb];exact fun q=>h (q z)
     cases hr:itR l[z] with
     | false=>
       have hb0:=hno (fun h=>by have:=(h hz).1;rw [hr] at this;cases this)
       subst hb0
       clear hb hno h2
       rw [hr] at hir
       (have kc1:=hir;refine w0 ?_;(repeat' first|refine W2.mk ?_ ?_|refine W1.mk fun hc=>?_);all_goals clear kc1)
       refine aQ ?_
       exact af rfl rfl
     | true=>
       rw [hr] at hir
       by_cases h0:0 < z
       · obtain ⟨q,rfl⟩:∃ q,z = q + 1:=⟨z - 1,by omega⟩
         have hqE:((q + 1:Nat):Int) - 1 = (q:Nat):=by omega
         have hcm:=e7 l[q].key l[q + 1].key (by have:=hk l[q] (List.getElem_mem _);omega)
         by_cases hlt:bG l[q].key l[q + 1].key < 0
         · have hok:um l (q + 1):=fun _=>⟨hr,fun _=>hlt⟩
           clear hb hno
           (have ke1:=Lib.hid (hqE);have kc1:=hir;have kc2:=hcm;refine bq ?_;(repeat' first|refine W2.mk ?_ ?_|refine W1.mk fun hc=>?_);all_goals clear kc2 kc1 ke1)
           refine ⟨q + 1 + 1,⟨by omega,fun i hi=>?_⟩,by omega,?_⟩
           · rcases Nat.lt_or_ge i (q + 1) with q'|q'
             · exact h2 i q'
             · obtain rfl:i = q + 1:=by omega
               exact hok
           · exact ab
         · have hb0:=hno (fun h=>hlt ((h hz).2 h0))
           subst hb0
           clear hb hno h2
           (have ke1:=Lib.hid (hqE);have kc1:=hir;have kc2:=hcm;refine bq ?_;(repeat' first|refine W2.mk ?_ ?_|refine W1.mk fun hc=>?_);all_goals clear kc2 kc1 ke1)
           refine aQ ?_
           exact af rfl rfl
       · have hok:um l z:=fun _=>⟨hr,fun h=>absurd h h0⟩
         clear hb hno
         (have kc1:=hir;refine w0 ?_;(repeat' first|refine W2.mk ?_ ?_|refine W1.mk fun hc=>?_);all_goals clear kc1)
         refine ⟨z + 1,⟨by omega,fun i hi=>?_⟩,by omega,?_⟩
         · rcases Nat.lt_or_ge i z with q|q
           · exact h2 i q
           · obtain rfl:i = z:=by omega
             exact hok
         · exact ab
   · have hb1:b = true:=hb.2 (fun i=>by
       rcases Nat.lt_or_ge i z with q|q
       · exact h2 i q
       · exact fun h=>by omega)
     subst hb1
     clear hb h2
     (refine w0 ?_;(repeat' first|refine W2.mk ?_ ?_|refine W1.mk fun hc=>?_))
     refine aQ ?_
     exact af rfl rfl
theorem wF (l:List It) (hk:jG l) (hl:l.length ≤ 1000000000) (b:Bool) (hb:b = true ↔ qH l):Fn Tryz.prog 38 [di l] (bO b):=by
 refine fi Tryz.func38 Tryz.ntmps38 ?_
 (refine w0 ?_;(repeat' first|refine W2.mk ?_ ?_|refine W1.mk fun hc=>?_))
 refine ah (X:=Nat) (fun z=>z ≤ l.length ∧ ∀ i,i < z → um l i)
   (fun z=>aN [(0,di l),(3,iC .i64 (z:Nat))] []) (fun z=>l.length - z) 0 ⟨Nat.zero_le _,fun i h=>absurd h (Nat.not_lt_zero _)⟩ ?_ ?_
 · exact ab
 · rintro z ⟨h1,h2⟩
   by_cases hz:z < l.length
   · have hir:=ja l[z]
     have hno:¬ um l z → b = false:=fun h=>by rw [← Bool.not_eq_true,hb];exact fun q=>h (q z)
     cases hr:itR l[z] with
     | false=>
       have hb0:=hno (fun h=>by have:=(h hz).1;rw [hr] at this;cases this)
       subst hb0
       clear hb hno h2
       rw [hr] at hir
       (have kc1:=hir;refine w0 ?_;(repeat' first|refine W2.mk ?_ ?_|refine W1.mk fun hc=>?_);all_goals clear kc1)
       refine aQ ?_
       exact af rfl rfl
     | true=>
       rw [hr] at hir
       by_cases h0:0 < z
       · obtain ⟨q,rfl⟩:∃ q,z = q + 1:=⟨z - 1,by omega⟩
         have hqE:((q + 1:Nat):Int) - 1 = (q:Nat):=by omega
         have hcm:=eR l[q].key l[q + 1].key (by have:=hk l[q] (List.getElem_mem _);omega)
         by_cases hlt:bG l[q].key l[q + 1].key < 0
         · have hok:um l (q + 1):=fun _=>⟨hr,fun _=>hlt⟩
           rw [decide_eq_true hlt] at hcm
           clear hb hno
           (have ke1:=Lib.hid (hqE);have kc1:=hir;have kc2:=hcm;refine bq ?_;(repeat' first|refine W2.mk ?_ ?_|refine W1.mk fun hc=>?_);all_goals clear kc2 kc1 ke1)
           refine ⟨q + 1 + 1,⟨by omega,fun i hi=>?_⟩,by omega,?_⟩
           · rcases Nat.lt_or_ge i (q + 1) with q'|q'
             · exact h2 i q'
             · obtain rfl:i = q + 1:=by omega
               exact hok
           · exact ab
         · have hb0:=hno (fun h=>hlt ((h hz).2 h0))
           rw [decide_eq_false hlt] at hcm
           subst hb0
           clear hb hno h2
           (have ke1:=Lib.hid (hqE);have kc1:=hir;have kc2:=hcm;refine bq ?_;(repeat' first|refine W2.mk ?_ ?_|refine W1.mk fun hc=>?_);all_goals clear kc2 kc1 ke1)
           refine aQ ?_
           exact af rfl rfl
       · have hok:um l z:=fun _=>⟨hr,fun h=>absurd h h0⟩
         clear hb hno
         (have kc1:=hir;refine w0 ?_;(repeat' first|refine W2.mk ?_ ?_|refine W1.mk fun hc=>?_);all_goals clear kc1)
         refine ⟨z + 1,⟨by omega,fun i hi=>?_⟩,by omega,?_⟩
         · rcases Nat.lt_or_ge i z with q|q
           · exact h2 i q
           · obtain rfl:i = z:=by omega
             exact hok
         · exact ab
   · have hb1:b = true:=hb.2 (fun i=>by
       rcases Nat.lt_or_ge i z with q|q
       · exact h2 i q
       · exact fun h=>by omega)
     subst hb1
     clear hb h2
     (refine w0 ?_;(repeat' first|refine W2.mk ?_ ?_|refine W1.mk fun hc=>?_))
     refine aQ ?_
     exact af rfl rfl
end
structure Sta where
 id:Int:=0
 flt:List Rg:=[]
 its:List It:=[]
 know:List Pc:=[]
 cnt:Int:=0
def iH (k:List Pc) (f:List Rg) (s:ByteArray):List Kn:=if bg f s then fh k s else []
def kn (k:List Pc) (f:List Rg):List ByteArray:=gF [emB] (bB k ++ f)
def aR (k:List Pc) (f:List Rg):List Pc:=kB (iH k f) (kn k f)
theorem AN (k:List Pc) (f:List Rg) (s:ByteArray):bK (iH k f s):=by
 unfold iH
 split
 · exact oo k s
 · exact eG
theorem oA {k:List Pc} {f:List Rg} {r:Rg} (hr:r ∈ bB k ++ f) {m:ByteArray} (h:jp r m):m ∈ kn k f:=(gG _ _ _).2 (.inr ⟨r,hr,h⟩)
theorem Jc (k:List Pc) (f:List Rg):uL (kn k f):=AB _ _ (by simp)
theorem Jd (k:List Pc) (f:List Rg):emB ∈ kn k f:=(gG _ _ _).2 (.inl (by simp))
theorem uo (k:List Pc) (f:List Rg):l7 (kn k f):=fun m hm=>by
 rcases (gG _ _ _).1 hm with h|⟨r,_,h1,h2⟩
 · have h:m = emB:=by simpa using h
   rw [h];decide
 · have:=(bH r).1 h1
   rcases h2 with h2|⟨_,h2⟩ <;> rw [h2] <;> omega
theorem FQ (k:List Pc) (f:List Rg):Cb (iH k f) (kn k f):=fun e n hen h=>by
 have h1:fh k e = fh k n:=po hen fun p hp m hm=>h m (oA (List.mem_append_left _ (List.mem_map_of_mem hp)) hm)
 have h2:bg f e = bg f n:=by
   unfold bg
   rw [Bool.eq_iff_iff,List.any_eq_true,List.any_eq_true]
   constructor
   · rintro ⟨r,hr,q⟩
     exact ⟨r,hr,by rw [← oq hen fun m hm=>h m (oA (List.mem_append_right _ hr) hm)];exact q⟩
   · rintro ⟨r,hr,q⟩
     exact ⟨r,hr,by rw [oq hen fun m hm=>h m (oA (List.mem_append_right _ hr) hm)];exact q⟩
 unfold iH
 rw [h1,h2]
theorem dp (k:List Pc) (f:List Rg):aO (aR k f) ∧ ∀ s,cH (aR k f) s = iH k f s:=pl (AN k f) (Jc k f) (uo k f) (Jd k f) (FQ k f)
def ko (l:List Rn):Int:=match l.getLast? with|some r=>r.to|none=>0
def ky (l:List Rn):Int:=ko (ofR l)
def gS (s:List Kn) (id:Int):Int:=if 1 ≤ id ∧ id ≤ 16 then ky (aC s (id - 1).toNat) else 0
def ee (k:List Pc) (id:Int):Int:=k.foldl (fun n p=>max n (gS p.set id)) 0
theorem k8 (l:List Rn) (r:Rn):ko (l ++ [r]) = r.to:=by unfold ko;simp
theorem FR (l:List Rn):0 ≤ ky l:=by
 unfold ky
 have h:=mi l
 generalize ofR l = L at *
 rcases List.eq_nil_or_concat L with rfl|⟨a,y,rfl⟩
 · exact Int.le_refl 0
 · rw [List.concat_eq_append,k8]
   have:=(h a.length (by simp) (by simp)).1
   simp at this
   have:=(bu y).1 this
   omega
def l8 (id:Int) (n:Int) (k:Kn):Int:=if k.rep = id then max n (ko k.runs) else n
theorem FS (id:Int):∀ (T:List (List Rn)) (i:Nat) (n:Int),0 ≤ n → (aX ofR i T).foldl (l8 id) n = if h:(i:Int) < id ∧ id ≤ i + T.length then max n (ky (T[(id - 1 - i).toNat]'(by omega))) else n:=by
 intro T
 induction T with
 | nil=>intro i n hn;rw [dif_neg (fun q=>by have:=q.2;simp only [List.length_nil] at this;omega)];rfl
 | cons l T ih=>
   intro i n hn
   rw [aX,List.foldl_append]
   by_cases e:id = (i:Int) + 1
   · have h1:(if (ofR l).length = 0 then [] else [(⟨(i:Int) + 1,ofR l⟩:Kn)]).foldl (l8 id) n = max n (ky l):=by
       split
       · rename_i h0
         have:ofR l = []:=List.eq_nil_of_length_eq_zero h0
         have hm:ky l = 0:=by unfold ky;rw [this];rfl
         rw [hm];exact (Int.max_eq_left hn).symm
       · simp only [List.foldl_cons,List.foldl_nil,l8]
         rw [if_pos e.symm];rfl
     rw [h1,ih (i + 1) _ (by omega),dif_neg (by simp;omega),dif_pos (by simp;omega)]
     have:(id - 1 - (i:Int)).toNat = 0:=by omega
     simp only [this,List.getElem_cons_zero]
   · have h1:(if (ofR l).length = 0 then [] else [(⟨(i:Int) + 1,ofR l⟩:Kn)]).foldl (l8 id) n = n:=by
       split
       · rfl
       · simp only [List.foldl_cons,List.foldl_nil,l8]
         rw [if_neg (fun q=>e q.symm)]
     rw [h1,ih (i + 1) n hn]
     by_cases c:(i:Int) < id ∧ id ≤ (i:Int) + ((l :: T).length:Nat)
     · simp only [List.length_cons] at c
       rw [dif_pos (by omega),dif_pos (by simp only [List.length_cons];omega)]
       obtain ⟨m,hm⟩:∃ m,(id - 1 - (i:Int)).toNat = m + 1:=⟨(id - 1 - (i:Int)).toNat - 1,by omega⟩
       have hm2:(id - 1 - ((i + 1:Nat):Int)).toNat = m:=by omega
       simp only [hm,hm2,List.getElem_cons_succ]
     · rw [dif_neg (by simp only [List.length_cons] at c;omega),dif_neg c]
theorem Ct (s:List Kn) (id n:Int) (hn:0 ≤ n):(em ofR s).foldl (l8 id) n = max n (gS s id):=by
 unfold em
 rw [FS id _ 0 n hn]
 unfold gS
 by_cases c:1 ≤ id ∧ id ≤ 16
 · rw [dif_pos (by rw [aY];omega),if_pos c]
   have h:=bn s (r:=(id - 1).toNat) (by omega)
   have e:(id - 1 - ((0:Nat):Int)).toNat = (id - 1).toNat:=by omega
   simp only [e]
   rw [List.getElem?_eq_getElem (by rw [aY];omega)] at h
   rw [Option.some.inj h]
 · rw [dif_neg (by rw [aY];omega),if_neg c];omega
def verOf (x:It):Int × Int:=(x.rep,x.cnt)
def dF (l:List It):Bool:=decide ((l.map verOf).Nodup)
def fw (s:List Kn) (r c:Int):Bool:=cI r c && cB (aC s (r - 1).toNat) c
def aZ (k:List Pc) (s:ByteArray) (r c:Int):Bool:=k.any fun p=>bL p.rg s && fw p.set r c
def cX (l:List It):Bool:=l.all itR && decide ((l.map It.key).Pairwise (· < ·))
def ef (s:Sta):Bool:=
 decide (1 ≤ s.id ∧ s.id ≤ 16) && decide (0 ≤ s.cnt ∧ s.cnt ≤ 1099511627776) && decide (s.its.length ≤ 4096) && decide (cV s.flt) && cX s.its && decide (aO s.know) &&
 decide (aR s.know s.flt = s.know) && decide (ee s.know s.id ≤ s.cnt) && dF s.its && s.its.all (fun x=>bg s.flt x.key && aZ s.know x.key x.rep x.cnt)
end Go.Proofs.YtembiemaiacdfaaGreat
