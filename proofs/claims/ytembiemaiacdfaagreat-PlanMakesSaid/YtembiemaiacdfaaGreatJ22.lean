/- Texts joined: Wins Law18 Best LawCh Find StP. -/
import Derived.Test.YtembiemaiacdfaaGreatJ21
import Derived.Test.YtembiemaiacdfaaGreatJ05
import Derived.Test.YtembiemaiacdfaaGreatJ07
import Derived.Test.YtembiemaiacdfaaGreatJ16
set_option maxRecDepth 10000
set_option maxHeartbeats 8000000
namespace Go.Proofs.YtembiemaiacdfaaGreat
open Go.RowKit
def Md:It:=⟨⟨#[]⟩,0,0,0,0,false,⟨#[]⟩⟩
theorem tM (s u:ByteArray):s.toList = u.toList ↔ s = u:=by
 rw [← jb,beq_toListBytes,beq_iff_eq]
section
abbrev LS (ls:List (List It)):Cnt:=.bor 1 (ls.map fun l=>[da l])
abbrev Bo (l:List It):Ret:=.own 61 7 (l.map itP)
theorem yn (ls:List (List It)) (hl:(ls.flatten.filter fx).length ≤ 100000000) (hn:ls.length ≤ 1000000000) (hm:∀ l ∈ ls,l.length ≤ 1000000000):Fn Tryz.prog 68 [LS ls] (Bo (j3 ls)):=by
 generalize hT:ls.flatten.filter fx = T at *
 have hTr:∀ x ∈ T,fx x = true:=fun x hx=>by rw [← hT] at hx;exact (List.mem_filter.1 hx).2
 have hs:=oW T (Bj hTr) hl
 generalize hR:j3 ls = R
 unfold j3 at hR
 rw [hT] at hR
 have hql:=gw T
 generalize dK T = Q at *
 refine fi Tryz.func68 Tryz.ntmps68 ?_
 (refine w0 ?_;(repeat' first|refine W2.mk ?_ ?_|refine W1.mk fun hc=>?_))
 refine cc (bv 3 600 61 7 rfl rfl) ?_
 refine ah (X:=Nat × List It) (fun x=>x.1 ≤ ls.length ∧ x.2 ++ (ls.drop x.1).flatten.filter fx = T)
   (fun x=>aJ [(3,.row 600 0),(12,LS ls),(13,iC .i64 (ls.length:Nat)),(14,iC .i64 (x.1:Nat))] [(600,dW x.2)]) (fun x=>ls.length - x.1) (0,[]) ⟨Nat.zero_le _,by simp [hT]⟩ ?_ ?_
 · exact ab
 · rintro ⟨i,acc⟩ ⟨h1,h2⟩
   simp only at h1 h2 ⊢
   by_cases hlt:i < ls.length
   · have hml:=hm _ (List.getElem_mem hlt)
     rw [List.drop_eq_getElem_cons hlt,List.flatten_cons,List.filter_append] at h2
     (refine w0 ?_;(repeat' first|refine W2.mk ?_ ?_|refine W1.mk fun hc=>?_))
     refine ah (X:=Nat × List It) (fun x=>x.1 ≤ ls[i].length ∧ x.2 ++ ((ls[i].drop x.1).filter fx ++ (ls.drop (i + 1)).flatten.filter fx) = T)
       (fun x=>aJ [(3,.row 600 0),(12,LS ls),(13,iC .i64 (ls.length:Nat)),(14,iC .i64 (i:Nat)),(18,.per (da ls[i])),(19,iC .i64 (ls[i].length:Nat)),(20,iC .i64 (x.1:Nat))] [(600,dW x.2)]) (fun x=>ls[i].length - x.1) (0,acc) ⟨Nat.zero_le _,by simpa using h2⟩ ?_ ?_
     · exact ab
     · rintro ⟨k,ac⟩ ⟨g1,g2⟩
       simp only at g1 g2 ⊢
       by_cases hk:k < ls[i].length
       · have hir:=dM ls[i][k]
         have hlen:ac.length ≤ 100000000:=by
           have:=congrArg List.length g2
           simp only [List.length_append] at this;omega
         rw [List.drop_eq_getElem_cons hk,List.filter_cons] at g2
         cases hr:fx ls[i][k] with
         | false=>
           rw [hr] at hir g2
           (have kc1:=hir;refine w0 ?_;(repeat' first|refine W2.mk ?_ ?_|refine W1.mk fun hc=>?_);all_goals clear kc1)
           refine ⟨(k + 1,ac),⟨by simp only;omega,by simpa using g2⟩,by simp only;omega,?_⟩
           exact ab
         | true=>
           rw [hr] at hir g2
           (have kc1:=hir;refine w0 ?_;(repeat' first|refine W2.mk ?_ ?_|refine W1.mk fun hc=>?_);all_goals clear kc1)
           refine ⟨(k + 1,ac ++ [ls[i][k]]),⟨by simp only;omega,by simpa using g2⟩,by simp only;omega,an (aM 600 601) (an (aM 601 600) ?_)⟩
           exact ab
       · have hkl:k = ls[i].length:=by omega
         rw [hkl,List.drop_length,List.filter_nil,List.nil_append] at g2
         (refine w0 ?_;(repeat' first|refine W2.mk ?_ ?_|refine W1.mk fun hc=>?_))
         refine ⟨(i + 1,ac),⟨by simp only;omega,g2⟩,by simp only;omega,?_⟩
         exact ab
   · have hil:i = ls.length:=by omega
     subst hil
     rw [List.drop_length] at h2
     simp at h2
     subst h2
     (have km1:=(show bp [(1000,600)] _ _ _ _ _ _ from hs);refine w0 ?_;(repeat' first|refine W2.mk ?_ ?_|refine W1.mk fun hc=>?_);all_goals clear km1)
     clear hs hTr hT hm hn
     refine cc (bv 8 700 61 7 rfl rfl) ?_
     refine ah (X:=Nat × List It) (fun x=>x.1 ≤ Q.length ∧ x.2.length ≤ x.1 ∧ (Q.drop x.1).foldl qr x.2 = R)
       (fun x=>aJ [(8,.row 700 0),(34,.row 600 0),(35,iC .i64 (Q.length:Nat)),(36,iC .i64 (x.1:Nat))] [(600,dW Q),(700,dW x.2)]) (fun x=>Q.length - x.1) (0,[]) ⟨Nat.zero_le _,Nat.le_refl _,hR⟩ ?_ ?_
     · exact ab
     · rintro ⟨k,out⟩ ⟨g1,g2,g3⟩
       simp only at g1 g2 g3 ⊢
       by_cases hk:k < Q.length
       · have hol:out.length ≤ 100000000:=by omega
         have HQ:(Q.map itP)[k]? = some (itP Q[k]):=by rw [List.getElem?_map,List.getElem?_eq_getElem hk];rfl
         rw [List.drop_eq_getElem_cons hk,List.foldl_cons,qr] at g3
         rcases dQ out with rfl|⟨o,y,rfl⟩
         · simp only [List.reverse_nil] at g3
           (refine w0 ?_;(repeat' (first|refine W2.mk ?_ ?_|refine W1.mk fun hc=>?_|((first|apply aB rfl|apply aC rfl|apply aD rfl|apply aF rfl);(focus (first|((apply ax 5;(focus rfl);exact ae ⟨rfl,rfl,rfl⟩ rfl inferInstance inferInstance rfl rfl rfl HQ rfl rfl rfl))|(apply bt;(focus rfl);apply ag rfl rfl rfl rfl rfl;first|((apply ax 5;(focus rfl);exact ae ⟨rfl,rfl,rfl⟩ rfl inferInstance inferInstance rfl rfl rfl HQ rfl rfl rfl)))));refine w0 ?_))))
           refine ⟨(k + 1,[Q[k]]),⟨by simp only;omega,by simp,g3⟩,by simp only;omega,an (aM 700 701) (an (aM 701 700) ?_)⟩
           exact ab
         · simp only [List.reverse_append,List.reverse_cons,List.reverse_nil,List.nil_append,List.singleton_append,List.reverse_reverse] at g3
           have hcm:=DW Q[k] y
           have hL1:(o ++ [y]).length = o.length + 1:=by simp
           generalize hL:o ++ [y] = L at *
           have HY:(L.map itP)[((L.length:Int) - 1).toNat]? = some (itP y):=by
             rw [List.getElem?_map,← hL,show (((o ++ [y]).length:Int) - 1).toNat = o.length by rw [hL];omega]
             simp
           have HS:(L.map itP).set ((L.length:Int) - 1).toNat (bL (itP y) 0 (itP Q[k])) = (o ++ [Q[k]]).map itP:=by
             rw [show (L.map itP).set ((L.length:Int) - 1).toNat (bL (itP y) 0 (itP Q[k])) = (L.set ((L.length:Int) - 1).toNat Q[k]).map itP from bj itP _ _ _,← hL,dA o y Q[k] [] _ (by rw [hL];omega)]
           by_cases hky:y.key = Q[k].key
           · rw [if_pos hky] at g3
             (have kc1:=hcm;refine w0 ?_;(repeat' (first|refine W2.mk ?_ ?_|refine W1.mk fun hc=>?_|((first|apply aB rfl|apply aC rfl|apply aD rfl|apply aF rfl);(focus (first|((apply ax 5;(focus rfl);first|exact ay ⟨rfl,rfl,rfl⟩ rfl inferInstance rfl rfl rfl HY rfl|exact ae ⟨rfl,rfl,rfl⟩ rfl inferInstance inferInstance rfl rfl rfl HY rfl rfl rfl|exact ae ⟨rfl,rfl,rfl⟩ rfl inferInstance inferInstance rfl rfl rfl HQ rfl rfl rfl))|((apply ax 6;(focus rfl);exact al ⟨rfl,rfl⟩ rfl inferInstance rfl rfl rfl rfl HY rfl (.inl rfl) rfl HS))|(apply bt;(focus rfl);apply ag rfl rfl rfl rfl rfl;first|((apply ax 5;(focus rfl);first|exact ay ⟨rfl,rfl,rfl⟩ rfl inferInstance rfl rfl rfl HY rfl|exact ae ⟨rfl,rfl,rfl⟩ rfl inferInstance inferInstance rfl rfl rfl HY rfl rfl rfl|exact ae ⟨rfl,rfl,rfl⟩ rfl inferInstance inferInstance rfl rfl rfl HQ rfl rfl rfl))|((apply ax 6;(focus rfl);exact al ⟨rfl,rfl⟩ rfl inferInstance rfl rfl rfl rfl HY rfl (.inl rfl) rfl HS)))));refine w0 ?_)));all_goals clear kc1)
             · rw [if_pos (by omega)] at g3
               refine ⟨(k + 1,o ++ [Q[k]]),⟨by simp only;omega,by simp;omega,g3⟩,by simp only;omega,?_⟩
               exact ab
             · rw [if_neg (by omega)] at g3
               refine ⟨(k + 1,L),⟨by simp only;omega,by simp only;omega,g3⟩,by simp only;omega,?_⟩
               exact ab
           · rw [if_neg hky] at g3
             have hne:y.key.toList ≠ Q[k].key.toList:=fun h=>hky ((tM _ _).1 h)
             (have kc1:=hcm;refine w0 ?_;(repeat' (first|refine W2.mk ?_ ?_|refine W1.mk fun hc=>?_|((first|apply aB rfl|apply aC rfl|apply aD rfl|apply aF rfl);(focus (first|((apply ax 5;(focus rfl);first|exact ay ⟨rfl,rfl,rfl⟩ rfl inferInstance rfl rfl rfl HY rfl|exact ae ⟨rfl,rfl,rfl⟩ rfl inferInstance inferInstance rfl rfl rfl HY rfl rfl rfl|exact ae ⟨rfl,rfl,rfl⟩ rfl inferInstance inferInstance rfl rfl rfl HQ rfl rfl rfl))|((apply ax 6;(focus rfl);exact al ⟨rfl,rfl⟩ rfl inferInstance rfl rfl rfl rfl HY rfl (.inl rfl) rfl HS))|(apply bt;(focus rfl);apply ag rfl rfl rfl rfl rfl;first|((apply ax 5;(focus rfl);first|exact ay ⟨rfl,rfl,rfl⟩ rfl inferInstance rfl rfl rfl HY rfl|exact ae ⟨rfl,rfl,rfl⟩ rfl inferInstance inferInstance rfl rfl rfl HY rfl rfl rfl|exact ae ⟨rfl,rfl,rfl⟩ rfl inferInstance inferInstance rfl rfl rfl HQ rfl rfl rfl))|((apply ax 6;(focus rfl);exact al ⟨rfl,rfl⟩ rfl inferInstance rfl rfl rfl rfl HY rfl (.inl rfl) rfl HS)))));refine w0 ?_)));all_goals clear kc1)
             refine ⟨(k + 1,L ++ [Q[k]]),⟨by simp only;omega,by simp;omega,g3⟩,by simp only;omega,an (aM 700 701) (an (aM 701 700) ?_)⟩
             exact ab
       · have hkl:k = Q.length:=by omega
         rw [hkl,List.drop_length,List.foldl_nil] at g3
         (refine w0 ?_;(repeat' first|refine W2.mk ?_ ?_|refine W1.mk fun hc=>?_))
         refine aO ?_
         exact dx rfl rfl rfl (by rw [g3])
end
section
variable {P:Program} {n t:Nat} {ops:Array Oper} {o:Oper} {S:St}
end
section
end
def od:Option It → Option It → Option It
 | none,b=>b
 | some a,none=>some a
 | some a,some b=>if pO b a > 0 then some b else some a
theorem lm (a:Option It):od a none = a:=by cases a <;> rfl
theorem m6 (x y:It):pO x y > 0 ↔ (x.rank > y.rank ∨ x.rank = y.rank ∧ (x.rep > y.rep ∨ x.rep = y.rep ∧ x.cnt > y.cnt)):=by
 unfold pO xH
 split
 · exact ⟨fun _=>.inl (by assumption),fun _=>by decide⟩
 · split
   · exact ⟨fun h=>absurd h (by decide),fun h=>by omega⟩
   · split
     · exact ⟨fun h=>absurd h (by decide),fun h=>by omega⟩
     · split
       · exact ⟨fun h=>absurd h (by decide),fun h=>by omega⟩
       · exact ⟨fun h=>by omega,fun h=>by decide⟩
theorem yq (a b c:Option It):od (od a b) c = od a (od b c):=by
 cases a with
 | none=>rfl
 | some a=>
   cases b with
   | none=>rfl
   | some b=>
     cases c with
     | none=>simp only [lm]
     | some c=>
       simp only [od]
       by_cases h1:pO b a > 0 <;> by_cases h2:pO c b > 0 <;> simp only [h1,h2,if_true,if_false]
       all_goals (rw [m6] at h1 h2)
       · rw [if_pos];rw [m6];omega
       · rw [if_neg];rw [m6];omega
def K4 (b:Option It) (x:It):Option It:=od b (some x)
def dg (k:ByteArray) (l:List It):Option It:=(l.filter fun x=>x.key == k).foldl K4 none
theorem EW (l:List It):∀ b,l.foldl K4 b = od b (l.foldl K4 none):=by
 induction l with
 | nil=>intro b;exact (lm b).symm
 | cons x l ih=>
   intro b
   rw [List.foldl_cons,List.foldl_cons,ih (K4 b x),ih (K4 none x)]
   exact yq b (some x) _
theorem fv (k:ByteArray) (l r:List It):dg k (l ++ r) = od (dg k l) (dg k r):=by
 unfold dg
 rw [List.filter_append,List.foldl_append,EW]
theorem gx (k:ByteArray) (x:It):dg k [x] = if x.key == k then some x else none:=by
 unfold dg
 rw [List.filter_cons]
 split <;> rfl
theorem oe {k:ByteArray} {l:List It} (h:∀ x ∈ l,x.key ≠ k):dg k l = none:=by
 unfold dg
 rw [List.filter_eq_nil_iff.2 (fun x hx=>by simpa [jb] using h x hx)];rfl
theorem si:∀ (a b:List UInt8),ci b a = - ci a b ∧ (ci a b = 0 → a = b):=by
 intro a
 induction a with
 | nil=>intro b;cases b <;> simp [ci]
 | cons x a ih=>
   intro b
   cases b with
   | nil=>simp [ci]
   | cons y b=>
     obtain ⟨h1,h2⟩:=ih b
     simp only [ci]
     refine ⟨?_,?_⟩
     · split
       · split
         · omega
         · rfl
       · split
         · rfl
         · exact h1
     · split
       · intro h;cases h
       · split
         · intro h;cases h
         · intro h
           rw [h2 h,show x = y from UInt8.toNat_inj.1 (by omega)]
theorem j4 (s t:ByteArray):bO s t = 0 ↔ s = t:=by
 constructor
 · intro h
   have:=(si s.data.toList t.data.toList).2 h
   cases s;cases t;simp only at this;rw [Array.toList_inj.1 this]
 · rintro rfl
   exact (pd s.data.toList [] []).1
theorem sj (s t:ByteArray):bO t s = - bO s t:=(si _ _).1
theorem IB (x y:It):pb ltK x y = (y.key == x.key):=by
 have h1:=j4 y.key x.key
 have h2:=sj y.key x.key
 rw [Bool.eq_iff_iff,jb,← h1]
 unfold pb ltK
 simp only [Bool.and_eq_true,Bool.not_eq_true',decide_eq_false_iff_not]
 omega
theorem zQ (x:It):pb ltK x = fun y=>y.key == x.key:=funext (IB x)
theorem EX {M N:List It} (h:eG ltK M N) (k:ByteArray):dg k N = dg k M:=by
 have:=h ⟨k,0,0,0,0,false,⟨#[]⟩⟩
 simp only [zQ] at this
 unfold dg;rw [this]
def Up (l:List It):Prop:=l.Pairwise fun x y=>ltK x y = true
theorem Up.srt {l:List It} (h:Up l):iO ltK l:=h.imp fun h=>de.asym h
theorem EY {x y:It} (h:ltK x y = true):x.key ≠ y.key:=fun e=>by
 rw [gI,e,(j4 _ _).2 rfl] at h;omega
theorem tN {x y:It} (h1:ltK x y = false) (h2:y.key ≠ x.key):ltK y x = true:=by
 rw [v6] at h1
 have h3:=sj x.key y.key
 have h4:bO y.key x.key ≠ 0:=mt (j4 y.key x.key).1 h2
 rw [gI];omega
theorem Up.filter {l:List It} (h:Up l) (k:ByteArray):l.filter (fun x=>x.key == k) = (dg k l).toList:=by
 unfold dg
 suffices hs:∃ o:Option It,l.filter (fun x=>x.key == k) = o.toList by
   obtain ⟨o,ho⟩:=hs
   rw [ho];cases o <;> rfl
 induction l with
 | nil=>exact ⟨none,rfl⟩
 | cons x l ih=>
   have h':=List.pairwise_cons.1 h
   rw [List.filter_cons]
   split
   · rename_i hx
     rw [jb] at hx
     refine ⟨some x,?_⟩
     rw [List.filter_eq_nil_iff.2 (fun y hy e=>by
       rw [jb] at e
       exact EY (h'.1 y hy) (hx.trans e.symm))]
     rfl
   · exact ih h'.2
theorem Up.uniq {M N:List It} (hM:Up M) (hN:Up N) (h:∀ k,dg k M = dg k N):M = N:=
 iO.uniq de hM.srt hN.srt fun x=>by simp only [zQ];rw [hN.filter,hM.filter,h]
theorem EZ:∀ (r P out:List It),iO ltK r → Up out → (∀ z ∈ out,∀ x ∈ r,ltK x z = false) → (∀ z ∈ out,z ∈ P) → (∀ k,dg k out = dg k P) →
   Up (r.foldl qr out) ∧ (∀ z ∈ r.foldl qr out,z ∈ P ++ r) ∧ ∀ k,dg k (r.foldl qr out) = dg k (P ++ r):=by
 intro r
 induction r with
 | nil=>intro P out _ h2 _ h4 h5;simpa using ⟨h2,h4,h5⟩
 | cons x r ih=>
   intro P out h1 h2 h3 h4 h5
   have h1':=List.pairwise_cons.1 h1
   have key:Up (qr out x) ∧ (∀ z ∈ qr out x,z = x ∨ z ∈ out) ∧ ∀ k,dg k (qr out x) = od (dg k out) (dg k [x]):=by
     unfold qr
     rcases dQ out with rfl|⟨o,y,rfl⟩
     · exact ⟨List.pairwise_singleton _ _,fun z hz=>by simp at hz;exact .inl hz,fun k=>rfl⟩
     · simp only [List.reverse_append,List.reverse_cons,List.reverse_nil,List.nil_append,List.singleton_append,List.reverse_reverse]
       have hu:=List.pairwise_append.1 h2
       have hyx:=h3 y (by simp) x (by simp)
       split
       · rename_i hk
         have ho:∀ z ∈ o,z.key ≠ y.key:=fun z hz=>EY (hu.2.2 z hz y (by simp))
         split
         · rename_i hc
           refine ⟨List.pairwise_append.2 ⟨hu.1,List.pairwise_singleton _ _,fun z hz w hw=>?_⟩,fun z hz=>?_,fun k=>?_⟩
           · simp at hw;subst hw
             have:=hu.2.2 z hz y (by simp)
             rw [gI,hk] at this;rw [gI];exact this
           · simp at hz ⊢;rcases hz with q|q
             · exact .inr (.inl q)
             · exact .inl q
           · rw [fv,fv,gx,gx,hk]
             by_cases hkk:(x.key == k) = true
             · simp only [hkk,if_true]
               rw [oe (fun z hz e=>ho z hz (by rw [e,hk,(jb _ _).1 hkk]))]
               simp [od,hc]
             · simp only [hkk];simp [lm]
         · rename_i hc
           refine ⟨h2,fun z hz=>.inr hz,fun k=>?_⟩
           rw [fv,gx,gx,hk]
           by_cases hkk:(x.key == k) = true
           · simp only [hkk,if_true]
             rw [oe (fun z hz e=>ho z hz (by rw [e,hk,(jb _ _).1 hkk]))]
             simp only [od];rw [if_neg hc]
           · simp only [hkk];simp [lm]
       · rename_i hk
         have hlt:=tN hyx hk
         refine ⟨List.pairwise_append.2 ⟨h2,List.pairwise_singleton _ _,fun z hz w hw=>?_⟩,fun z hz=>?_,fun k=>fv k _ _⟩
         · simp at hw;subst hw
           rcases List.mem_append.1 hz with q|q
           · exact de.tr z y _ (hu.2.2 z q y (by simp)) hlt
           · simp at q;subst q;exact hlt
         · rcases List.mem_append.1 hz with q|q
           · exact .inr q
           · simp at q;exact .inl q
   obtain ⟨k1,k2,k3⟩:=key
   have:=ih (P ++ [x]) (qr out x) h1'.2 k1 (fun z hz w hw=>?_) (fun z hz=>?_) (fun k=>by rw [k3,fv,h5])
   · simpa using this
   · rcases k2 z hz with q|q
     · subst q;exact h1'.1 w hw
     · exact h3 z q w (by simp [hw])
   · rcases k2 z hz with q|q
     · subst q;simp
     · exact List.mem_append_left _ (h4 z q)
theorem oE (ls:List (List It)):Up (j3 ls) ∧ (∀ z ∈ j3 ls,z ∈ ls.flatten.filter fx) ∧ ∀ k,dg k (j3 ls) = dg k (ls.flatten.filter fx):=by
 unfold j3
 generalize ls.flatten.filter fx = T
 obtain ⟨h1,h2,h3⟩:=EZ (dK T) [] [] (kR T) List.Pairwise.nil (fun z h=>by simp at h) (fun z h=>by simp at h) (fun _=>rfl)
 exact ⟨h1,fun z hz=>(ju T).mem de (by simpa using h2 z hz),fun k=>by rw [h3,List.nil_append,EX (ju T)]⟩
section
end
def tP (l:List It) (i:Nat):Prop:=∀ h:i < l.length,fx l[i] = true ∧ ∀ h0:0 < i,bO l[i - 1].key l[i].key < 0
def qt (l:List It):Prop:=∀ i,tP l i
theorem og {l:List It} (h:qt l):Up l:=by
 unfold Up
 rw [List.pairwise_iff_getElem]
 intro i j hi hj hij
 induction j with
 | zero=>omega
 | succ j ih=>
   have h1:=(h (j + 1) hj).2 (by omega)
   simp only [Nat.add_sub_cancel] at h1
   rcases Nat.lt_or_ge i j with q|q
   · exact de.tr _ _ _ (ih (by omega) q) (by rw [gI];exact h1)
   · obtain rfl:i = j:=by omega
     rw [gI];exact h1
theorem tQ {l:List It} (h:qt l):∀ x ∈ l,fx x = true:=fun x hx=>by
 obtain ⟨i,hi,rfl⟩:=List.getElem_of_mem hx
 exact (h i hi).1
section
variable {P:Program} {n t:Nat} {ops:Array Oper} {o:Oper} {S:St}
end
section
theorem Bp (l:List It) (hk:mo l) (hl:l.length ≤ 1000000000) (b:Bool) (hb:b = true ↔ qt l):Fn Tryz.prog 65 [dN l] (cU b):=by
 refine fi Tryz.func65 Tryz.ntmps65 ?_
 (refine w0 ?_;(repeat' first|refine W2.mk ?_ ?_|refine W1.mk fun hc=>?_))
 refine ah (X:=Nat) (fun z=>z ≤ l.length ∧ ∀ i,i < z → tP l i)
   (fun z=>aJ [(0,dN l),(5,dN l),(6,iC .i64 (l.length:Nat)),(7,iC .i64 (z:Nat))] []) (fun z=>l.length - z) 0 ⟨Nat.zero_le _,fun i h=>absurd h (Nat.not_lt_zero _)⟩ ?_ ?_
 · exact ab
 · rintro z ⟨h1,h2⟩
   by_cases hz:z < l.length
   · have hir:=dM l[z]
     have hno:¬ tP l z → b = false:=fun h=>by rw [← Bool.not_eq_true,hb];exact fun q=>h (q z)
     cases hr:fx l[z] with
     | false=>
       have hb0:=hno (fun h=>by have:=(h hz).1;rw [hr] at this;cases this)
       subst hb0
       clear hb hno h2
       rw [hr] at hir
       (have kc1:=hir;refine w0 ?_;(repeat' first|refine W2.mk ?_ ?_|refine W1.mk fun hc=>?_);all_goals clear kc1)
       refine aO ?_
       exact af rfl rfl
     | true=>
       rw [hr] at hir
       by_cases h0:0 < z
       · obtain ⟨q,rfl⟩:∃ q,z = q + 1:=⟨z - 1,by omega⟩
         have hqE:((q + 1:Nat):Int) - 1 = (q:Nat):=by omega
         have hcm:=eD l[q].key l[q + 1].key (by have:=hk l[q] (List.getElem_mem _);omega)
         by_cases hlt:bO l[q].key l[q + 1].key < 0
         · have hok:tP l (q + 1):=fun _=>⟨hr,fun _=>hlt⟩
           clear hb hno
           (have ke1:=Lib.hid (hqE);have kc1:=hir;have kc2:=hcm;refine bm ?_;(repeat' first|refine W2.mk ?_ ?_|refine W1.mk fun hc=>?_);all_goals clear kc2 kc1 ke1)
           refine ⟨q + 1 + 1,⟨by omega,fun i hi=>?_⟩,by omega,?_⟩
           · rcases Nat.lt_or_ge i (q + 1) with q'|q'
             · exact h2 i q'
             · obtain rfl:i = q + 1:=by omega
               exact hok
           · exact ab
         · have hb0:=hno (fun h=>hlt ((h hz).2 h0))
           subst hb0
           clear hb hno h2
           (have ke1:=Lib.hid (hqE);have kc1:=hir;have kc2:=hcm;refine bm ?_;(repeat' first|refine W2.mk ?_ ?_|refine W1.mk fun hc=>?_);all_goals clear kc2 kc1 ke1)
           refine aO ?_
           exact af rfl rfl
       · have hok:tP l z:=fun _=>⟨hr,fun h=>absurd h h0⟩
         clear hb hno
         (have kc1:=hir;refine w0 ?_;(repeat' first|refine W2.mk ?_ ?_|refine W1.mk fun hc=>?_);all_goals clear kc1)
         refine ⟨z + 1,⟨by omega,fun i hi=>?_⟩,by omega,?_⟩
         · rcases Nat.lt_or_ge i z with q|q
           · exact h2 i q
           · obtain rfl:i = z:=by omega
             exact hok
         · exact ab
   · have hb1:b = true:=hb.2 (fun i=>by
       rcases Nat.lt_or_ge i z with q|q
       · exact h2 i q
       · exact fun h=>by omega)
     subst hb1
     clear hb h2
     (refine w0 ?_;(repeat' first|refine W2.mk ?_ ?_|refine W1.mk fun hc=>?_))
     refine aO ?_
     exact af rfl rfl
theorem E3 (l:List It) (hk:mo l) (hl:l.length ≤ 1000000000) (b:Bool) (hb:b = true ↔ qt l):Fn Tryz.prog 38 [dN l] (cU b):=by
 refine fi Tryz.func38 Tryz.ntmps38 ?_
 (refine w0 ?_;(repeat' first|refine W2.mk ?_ ?_|refine W1.mk fun hc=>?_))
 refine ah (X:=Nat) (fun z=>z ≤ l.length ∧ ∀ i,i < z → tP l i)
   (fun z=>aJ [(0,dN l),(3,iC .i64 (z:Nat))] []) (fun z=>l.length - z) 0 ⟨Nat.zero_le _,fun i h=>absurd h (Nat.not_lt_zero _)⟩ ?_ ?_
 · exact ab
 · rintro z ⟨h1,h2⟩
   by_cases hz:z < l.length
   · have hir:=gm l[z]
     have hno:¬ tP l z → b = false:=fun h=>by rw [← Bool.not_eq_true,hb];exact fun q=>h (q z)
     cases hr:fx l[z] with
     | false=>
       have hb0:=hno (fun h=>by have:=(h hz).1;rw [hr] at this;cases this)
       subst hb0
       clear hb hno h2
       rw [hr] at hir
       (have kc1:=hir;refine w0 ?_;(repeat' first|refine W2.mk ?_ ?_|refine W1.mk fun hc=>?_);all_goals clear kc1)
       refine aO ?_
       exact af rfl rfl
     | true=>
       rw [hr] at hir
       by_cases h0:0 < z
       · obtain ⟨q,rfl⟩:∃ q,z = q + 1:=⟨z - 1,by omega⟩
         have hqE:((q + 1:Nat):Int) - 1 = (q:Nat):=by omega
         have hcm:=gn l[q].key l[q + 1].key (by have:=hk l[q] (List.getElem_mem _);omega)
         by_cases hlt:bO l[q].key l[q + 1].key < 0
         · have hok:tP l (q + 1):=fun _=>⟨hr,fun _=>hlt⟩
           rw [decide_eq_true hlt] at hcm
           clear hb hno
           (have ke1:=Lib.hid (hqE);have kc1:=hir;have kc2:=hcm;refine bm ?_;(repeat' first|refine W2.mk ?_ ?_|refine W1.mk fun hc=>?_);all_goals clear kc2 kc1 ke1)
           refine ⟨q + 1 + 1,⟨by omega,fun i hi=>?_⟩,by omega,?_⟩
           · rcases Nat.lt_or_ge i (q + 1) with q'|q'
             · exact h2 i q'
             · obtain rfl:i = q + 1:=by omega
               exact hok
           · exact ab
         · have hb0:=hno (fun h=>hlt ((h hz).2 h0))
           rw [decide_eq_false hlt] at hcm
           subst hb0
           clear hb hno h2
           (have ke1:=Lib.hid (hqE);have kc1:=hir;have kc2:=hcm;refine bm ?_;(repeat' first|refine W2.mk ?_ ?_|refine W1.mk fun hc=>?_);all_goals clear kc2 kc1 ke1)
           refine aO ?_
           exact af rfl rfl
       · have hok:tP l z:=fun _=>⟨hr,fun h=>absurd h h0⟩
         clear hb hno
         (have kc1:=hir;refine w0 ?_;(repeat' first|refine W2.mk ?_ ?_|refine W1.mk fun hc=>?_);all_goals clear kc1)
         refine ⟨z + 1,⟨by omega,fun i hi=>?_⟩,by omega,?_⟩
         · rcases Nat.lt_or_ge i z with q|q
           · exact h2 i q
           · obtain rfl:i = z:=by omega
             exact hok
         · exact ab
   · have hb1:b = true:=hb.2 (fun i=>by
       rcases Nat.lt_or_ge i z with q|q
       · exact h2 i q
       · exact fun h=>by omega)
     subst hb1
     clear hb h2
     (refine w0 ?_;(repeat' first|refine W2.mk ?_ ?_|refine W1.mk fun hc=>?_))
     refine aO ?_
     exact af rfl rfl
end
structure Sta where
 id:Int:=0
 flt:List Rg:=[]
 its:List It:=[]
 know:List Pc:=[]
 cnt:Int:=0
def jv (k:List Pc) (f:List Rg) (s:ByteArray):List Kn:=if bn f s then kO k s else []
def j5 (k:List Pc) (f:List Rg):List ByteArray:=gD [emB] (bI k ++ f)
def cY (k:List Pc) (f:List Rg):List Pc:=l5 (jv k f) (j5 k f)
theorem zR (k:List Pc) (f:List Rg) (s:ByteArray):bX (jv k f s):=by
 unfold jv
 split
 · exact nY k s
 · exact gZ
theorem oh {k:List Pc} {f:List Rg} {r:Rg} (hr:r ∈ bI k ++ f) {m:ByteArray} (h:je r m):m ∈ j5 k f:=(gv _ _ _).2 (.inr ⟨r,hr,h⟩)
theorem IC (k:List Pc) (f:List Rg):ui (j5 k f):=zI _ _ (by simp)
theorem IE (k:List Pc) (f:List Rg):emB ∈ j5 k f:=(gv _ _ _).2 (.inl (by simp))
theorem tR (k:List Pc) (f:List Rg):lI (j5 k f):=fun m hm=>by
 rcases (gv _ _ _).1 hm with h|⟨r,_,h1,h2⟩
 · have h:m = emB:=by simpa using h
   rw [h];decide
 · have:=(bH r).1 h1
   rcases h2 with h2|⟨_,h2⟩ <;> rw [h2] <;> omega
theorem E4 (k:List Pc) (f:List Rg):EG (jv k f) (j5 k f):=fun e n hen h=>by
 have h1:kO k e = kO k n:=zL hen fun p hp m hm=>h m (oh (List.mem_append_left _ (List.mem_map_of_mem hp)) hm)
 have h2:bn f e = bn f n:=by
   unfold bn
   rw [Bool.eq_iff_iff,List.any_eq_true,List.any_eq_true]
   constructor
   · rintro ⟨r,hr,q⟩
     exact ⟨r,hr,by rw [← nZ hen fun m hm=>h m (oh (List.mem_append_right _ hr) hm)];exact q⟩
   · rintro ⟨r,hr,q⟩
     exact ⟨r,hr,by rw [nZ hen fun m hm=>h m (oh (List.mem_append_right _ hr) hm)];exact q⟩
 unfold jv
 rw [h1,h2]
theorem m7 (k:List Pc) (f:List Rg):bd (cY k f) ∧ ∀ s,cE (cY k f) s = jv k f s:=tC (zR k f) (IC k f) (tR k f) (IE k f) (E4 k f)
def j6 (l:List Rn):Int:=match l.getLast? with|some r=>r.to|none=>0
def ki (l:List Rn):Int:=j6 (ofR l)
def gJ (s:List Kn) (id:Int):Int:=if 1 ≤ id ∧ id ≤ 16 then ki (aQ s (id - 1).toNat) else 0
def e7 (k:List Pc) (id:Int):Int:=k.foldl (fun n p=>max n (gJ p.set id)) 0
theorem kS (l:List Rn) (r:Rn):j6 (l ++ [r]) = r.to:=by unfold j6;simp
theorem E5 (l:List Rn):0 ≤ ki l:=by
 unfold ki
 have h:=lX l
 generalize ofR l = L at *
 rcases List.eq_nil_or_concat L with rfl|⟨a,y,rfl⟩
 · exact Int.le_refl 0
 · rw [List.concat_eq_append,kS]
   have:=(h a.length (by simp) (by simp)).1
   simp at this
   have:=(br y).1 this
   omega
def lJ (id:Int) (n:Int) (k:Kn):Int:=if k.rep = id then max n (j6 k.runs) else n
theorem E6 (id:Int):∀ (T:List (List Rn)) (i:Nat) (n:Int),0 ≤ n → (aX ofR i T).foldl (lJ id) n = if h:(i:Int) < id ∧ id ≤ i + T.length then max n (ki (T[(id - 1 - i).toNat]'(by omega))) else n:=by
 intro T
 induction T with
 | nil=>intro i n hn;rw [dif_neg (fun q=>by have:=q.2;simp only [List.length_nil] at this;omega)];rfl
 | cons l T ih=>
   intro i n hn
   rw [aX,List.foldl_append]
   by_cases e:id = (i:Int) + 1
   · have h1:(if (ofR l).length = 0 then [] else [(⟨(i:Int) + 1,ofR l⟩:Kn)]).foldl (lJ id) n = max n (ki l):=by
       split
       · rename_i h0
         have:ofR l = []:=List.eq_nil_of_length_eq_zero h0
         have hm:ki l = 0:=by unfold ki;rw [this];rfl
         rw [hm];exact (Int.max_eq_left hn).symm
       · simp only [List.foldl_cons,List.foldl_nil,lJ]
         rw [if_pos e.symm];rfl
     rw [h1,ih (i + 1) _ (by omega),dif_neg (by simp;omega),dif_pos (by simp;omega)]
     have:(id - 1 - (i:Int)).toNat = 0:=by omega
     simp only [this,List.getElem_cons_zero]
   · have h1:(if (ofR l).length = 0 then [] else [(⟨(i:Int) + 1,ofR l⟩:Kn)]).foldl (lJ id) n = n:=by
       split
       · rfl
       · simp only [List.foldl_cons,List.foldl_nil,lJ]
         rw [if_neg (fun q=>e q.symm)]
     rw [h1,ih (i + 1) n hn]
     by_cases c:(i:Int) < id ∧ id ≤ (i:Int) + ((l :: T).length:Nat)
     · simp only [List.length_cons] at c
       rw [dif_pos (by omega),dif_pos (by simp only [List.length_cons];omega)]
       obtain ⟨m,hm⟩:∃ m,(id - 1 - (i:Int)).toNat = m + 1:=⟨(id - 1 - (i:Int)).toNat - 1,by omega⟩
       have hm2:(id - 1 - ((i + 1:Nat):Int)).toNat = m:=by omega
       simp only [hm,hm2,List.getElem_cons_succ]
     · rw [dif_neg (by simp only [List.length_cons] at c;omega),dif_neg c]
theorem Bq (s:List Kn) (id n:Int) (hn:0 ≤ n):(fa ofR s).foldl (lJ id) n = max n (gJ s id):=by
 unfold fa
 rw [E6 id _ 0 n hn]
 unfold gJ
 by_cases c:1 ≤ id ∧ id ≤ 16
 · rw [dif_pos (by rw [bg];omega),if_pos c]
   have h:=bQ s (r:=(id - 1).toNat) (by omega)
   have e:(id - 1 - ((0:Nat):Int)).toNat = (id - 1).toNat:=by omega
   simp only [e]
   rw [List.getElem?_eq_getElem (by rw [bg];omega)] at h
   rw [Option.some.inj h]
 · rw [dif_neg (by rw [bg];omega),if_neg c];omega
def verOf (x:It):Int × Int:=(x.rep,x.cnt)
def er (l:List It):Bool:=decide ((l.map verOf).Nodup)
def fD (s:List Kn) (r c:Int):Bool:=dF r c && cw (aQ s (r - 1).toNat) c
def bZ (k:List Pc) (s:ByteArray) (r c:Int):Bool:=k.any fun p=>bR p.rg s && fD p.set r c
def fE (l:List It):Bool:=l.all fx && decide ((l.map It.key).Pairwise (· < ·))
def ko (s:Sta):Bool:=
 decide (1 ≤ s.id ∧ s.id ≤ 16) && decide (0 ≤ s.cnt ∧ s.cnt ≤ 1099511627776) && decide (s.its.length ≤ 4096) && decide (cG s.flt) && fE s.its && decide (bd s.know) &&
 decide (cY s.know s.flt = s.know) && decide (e7 s.know s.id ≤ s.cnt) && er s.its && s.its.all (fun x=>bn s.flt x.key && bZ s.know x.key x.rep x.cnt)
end Go.Proofs.YtembiemaiacdfaaGreat
