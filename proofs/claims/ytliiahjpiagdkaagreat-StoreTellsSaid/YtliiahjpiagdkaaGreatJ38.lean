/- Texts joined: PlX PlV StW StX Lx24 SxU. -/
import Derived.Test.YtliiahjpiagdkaaGreatJ36
import Derived.Test.YtliiahjpiagdkaaGreatJ05
import Derived.Test.YtliiahjpiagdkaaGreatJ32
import Derived.Test.YtliiahjpiagdkaaGreatJ25
import Derived.Test.YtliiahjpiagdkaaGreatJ19
import Derived.Test.YtliiahjpiagdkaaGreatJ37
import Derived.Test.YtliiahjpiagdkaaGreatJ27
import Derived.Test.YtliiahjpiagdkaaGreatJ29
set_option maxRecDepth 10000
set_option maxHeartbeats 8000000
namespace Go.Proofs.YtliiahjpiagdkaaGreat
open Go.RowKit
theorem zQ {l:List It} {k:ByteArray} {i:Nat} (h:∀ j (hj:j < l.length),j < i → l[j].key ≠ k):bW (l.take i) k = none:=by
 unfold bW
 rw [List.find?_eq_none]
 intro x hx
 obtain ⟨j,hj,rfl⟩:=List.mem_take_iff_getElem.1 hx
 simpa using h j (by omega) (by omega)
section
theorem m9 (s:Sta) (k:ByteArray) (hl:s.its.length ≤ 1000000):(bW s.its k = none ∧ Fn Tryz.prog 11 [dX s,sC k] (gy (-1))) ∨ ∃ (i:Nat) (h:i < s.its.length),bW s.its k = some s.its[i] ∧ Fn Tryz.prog 11 [dX s,sC k] (gy (i:Nat)):=by
 have walk:∀ m:Nat,m ≤ s.its.length → (∀ j (hj:j < s.its.length),j < m → s.its[j].key ≠ k) → (∀ hm:m < s.its.length,s.its[m].key = k) → Fn Tryz.prog 11 [dX s,sC k] (gy (if m < s.its.length then (m:Nat) else -1)):=by
  intro m hm h1 h2
  refine fi Tryz.func11 Tryz.ntmps11 ?_
  (refine w0 ?_;repeat' first|apply ai|refine aj fun hc=>?_)
  refine an (X:=Nat) (fun i=>i ≤ m) (fun i=>ba [(1,sC k),(2,.ptr 2 0 0),(5,iC .i64 (i:Nat))] [(2,.box 26 ((nc s).map Cnt.per))]) (fun i=>m - i) 0 (Nat.zero_le _) ?_ ?_
  ·exact ae
  ·rintro i hi
   by_cases hlt:i < s.its.length
   ·by_cases him:i < m
    ·have hne:¬ s.its[i].key.toList = k.toList:=fun q=>h1 i hlt him ((mY _ _).1 q)
     clear h1 h2
     (refine w0 ?_;repeat' first|apply ai|refine aj fun hc=>?_)
     refine ⟨i + 1,him,by omega,?_⟩
     exact ae
    ·obtain rfl:i = m:=by omega
     have hne:s.its[i].key.toList = k.toList:=(mY _ _).2 (h2 hlt)
     rw [if_pos hlt]
     clear h1 h2
     (refine w0 ?_;repeat' first|apply ai|refine aj fun hc=>?_)
     refine aU ?_
     exact aH rfl rfl
   ·rw [if_neg (by omega)]
    clear h1 h2
    (refine w0 ?_;repeat' first|apply ai|refine aj fun hc=>?_)
    refine aU ?_
    exact aH rfl rfl
 have key:∀ (d m:Nat),d + m = s.its.length → (∀ j (hj:j < s.its.length),j < m → s.its[j].key ≠ k) → (bW s.its k = none ∧ Fn Tryz.prog 11 [dX s,sC k] (gy (-1))) ∨ ∃ (i:Nat) (h:i < s.its.length),bW s.its k = some s.its[i] ∧ Fn Tryz.prog 11 [dX s,sC k] (gy (i:Nat)):=by
  intro d
  induction d with
  | zero=>
   intro m hm h1
   left
   have hw:=walk m (by omega) h1 (fun h=>by omega)
   rw [if_neg (by omega)] at hw
   have hg:=zQ h1
   rw [List.take_of_length_le (by omega)] at hg
   exact ⟨hg,hw⟩
  | succ d ih=>
   intro m hm h1
   have hlt:m < s.its.length:=by omega
   by_cases e:s.its[m].key = k
   ·right
    have hw:=walk m (by omega) h1 (fun _=>e)
    rw [if_pos hlt] at hw
    exact ⟨m,hlt,zA hlt (zQ h1) e,hw⟩
   ·refine ih (m + 1) (by omega) fun j hj hjm=>?_
    rcases Nat.lt_or_ge j m with q|q
    ·exact h1 j hj q
    ·obtain rfl:j = m:=by omega
     exact e
 exact key s.its.length 0 (by omega) (fun j _ h=>by omega)
end
section
theorem Kp (s:ByteArray) (hs:s.size ≤ 16):Fn Tryz.prog 221 [sC s] (.per (bX (rgP ⟨s,s ++ ⟨#[0]⟩,false⟩))):=by
 have hz:(⟨#[0]⟩:ByteArray).size = 1:=rfl
 refine fi Tryz.func221 Tryz.ntmps221 ?_
 (refine w0 ?_;repeat' first|apply ai|refine aj fun hc=>?_|((first|apply aO rfl|apply aP rfl|apply aQ rfl|apply aR rfl);(focus ((try (apply b8;(focus rfl);apply ah rfl rfl rfl rfl rfl));first|((apply bn 10;(focus rfl);exact Nk (l:=[0]) ⟨rfl,rfl,rfl⟩ rfl inferInstance inferInstance inferInstance (nq rfl)))));refine w0 ?_))
 refine aU ?_
 exact bL inferInstance inferInstance rfl rfl rfl rfl rfl rfl
theorem ML (r c:Int):Fn Tryz.prog 247 [qF r c] (.per (Ec [⟨r,[⟨c,c⟩]⟩])):=by
 refine fi Tryz.func247 Tryz.ntmps247 ?_
 (refine w0 ?_;repeat' first|apply ai|refine aj fun hc=>?_)
 refine aU ?_
 exact ct rfl
theorem Kr (l:List Vn) (hl:l.length = 1) (r c:Int) (hr:l[0].1 = r) (hc0:l[0].2 = c) (h:cC r c = true):Fn Tryz.prog 220 [eM [],wN l] (.per (Ec [⟨r,[⟨c,c⟩]⟩])):=by
 have hv:=BX h
 have h1:=(BN [] ⟨by simp,by simp⟩).frz
 rw [show ff ofR [] = [] from kO gd] at h1
 have h2:=eY l[0].1 l[0].2
 rw [hr,hc0,h] at h2
 have h3:=ML r c
 have h4:=(te 1 NQ [] [⟨r,[⟨c,c⟩]⟩] ⟨by simp,by simp⟩ ⟨by simp,by simp⟩ (fun q _=>nX (aK [] q) (aK [⟨r,[⟨c,c⟩]⟩] q) (by simp [aK]) (by have:=d6 [⟨r,[⟨c,c⟩]⟩] q;simp at this;omega))).frz
 rw [uY,List.nil_append,kO ((kN _ _).2 ⟨⟨hv.1,hv.2.1,by simp,wR hv.2.2⟩,fun q hq=>by simp at hq,gd⟩)] at h4
 refine fi Tryz.func220 Tryz.ntmps220 ?_
 (refine az h1 ?_;repeat' first|apply ai|refine aj fun hc=>?_)
 clear h1
 refine an (X:=Nat) (fun i=>i ≤ 1) (fun i=>ba [(1,wN l),(5,.per (Ec (if i = 0 then [] else [⟨r,[⟨c,c⟩]⟩]))),(6,iC .i64 (i:Nat))] []) (fun i=>1 - i) 0 (Nat.zero_le _) ?_ ?_
 ·rw [if_pos rfl]
  exact ae
 ·rintro i hi
  by_cases h0:i = 0
  ·subst h0
   rw [if_pos rfl]
   subst hr;subst hc0
   (refine eX h2 h3 h4 ?_;repeat' first|apply ai|refine aj fun hc=>?_)
   refine ⟨1,by omega,by omega,?_⟩
   rw [if_neg (by omega)]
   exact ae
  ·obtain rfl:i = 1:=by omega
   rw [if_neg (by omega)]
   clear h2 h3 h4
   (refine w0 ?_;repeat' first|apply ai|refine aj fun hc=>?_)
   refine aU ?_
   exact ct rfl
theorem MM (s:ByteArray) (r c:Int) (hs:cY s = true) (h:cC r c = true):Fn Tryz.prog 150 [sC s,qF r c] (.per (iq (ee s r c))):=by
 have h1:=eY r c
 rw [h] at h1
 have h2:=Kr [(r,c)] rfl r c rfl rfl h
 have h3:=fX s
 rw [hs] at h3
 have h4:=Kp s (by unfold cY at hs;simp at hs;omega)
 have h5:Fn Tryz.prog 195 [sC s,wN [(r,c)]] (.per (iq (ee s r c))):=by
  unfold ee
  rw [hs,h,if_pos (by rfl)]
  refine fi Tryz.func195 Tryz.ntmps195 ?_
  (refine eX h2 h3 h4 ?_;repeat' first|apply ai|refine aj fun hc=>?_)
  refine aU ?_
  exact ct rfl
 clear h2 h3 h4
 generalize ee s r c = R at *
 refine fi Tryz.func150 Tryz.ntmps150 ?_
 (refine aL h1 h5 ?_;repeat' first|apply ai|refine aj fun hc=>?_)
 refine aU ?_
 exact ct rfl
end
theorem Fz:∀ (l:List It) (x:It),wF l x true = l.filter fun z=>decide (z.key ≠ x.key):=by
 intro l x
 induction l with
 | nil=>rfl
 | cons y l ih=>
  rw [wF,List.filter_cons]
  simp only [Bool.true_or,if_true,List.nil_append,ih]
  by_cases h:y.key = x.key <;> simp [h]
theorem FA:∀ (l:List It) (x:It),wF l x false = gi x l:=by
 intro l x
 induction l with
 | nil=>rfl
 | cons y l ih=>
  rw [wF,gi]
  by_cases c:bu y.key x.key < 0
  ·have hne:¬ y.key = x.key:=fun q=>by rw [q] at c;have:=(kQ x.key x.key).2 rfl;omega
   rw [if_pos c]
   simp only [c,decide_true,Bool.or_true,if_true,List.nil_append,if_neg hne,Bool.not_true,Bool.or_false,ih]
   rfl
  ·rw [if_neg c]
   simp only [c,decide_false,Bool.or_false,Bool.false_eq_true,if_false,Bool.not_false,Bool.or_true]
   rw [Fz,List.filter_cons]
   by_cases h:y.key = x.key <;> simp [h]
section
theorem tF (s:Sta) (k:ByteArray) (hl:s.its.length ≤ 1000000):Fn Tryz.prog 102 [dX s,sC k] (gy (ec s.its k)):=by
 unfold ec
 rcases m9 s k hl with ⟨h,c⟩|⟨i,hi,h,c⟩
 all_goals
  rw [h]
  refine fi Tryz.func102 Tryz.ntmps102 ?_
  (refine az c ?_;repeat' first|apply ai|refine aj fun hc=>?_)
  refine aU ?_
  exact aH rfl rfl
theorem MN (s:Sta) (x:It) (rk:Int) (O K:List Pc) (hl:s.its.length ≤ 1000000) (hk:∀ x ∈ s.its,x.key.size ≤ 1000000000) (hcc:0 ≤ s.cnt ∧ s.cnt ≤ 1099511627776) (hr:0 ≤ rk ∧ rk ≤ 1099511627776)
 (a1:Fn Tryz.prog 102 [dX s,sC x.key] (gy rk)) (a2:Fn Tryz.prog 150 [sC x.key,qF s.id (s.cnt + 1)] (.per (iq O))) (a3:Fn Tryz.prog 106 [bV s.know,bV O] (.per (iq K))) :
 Fn Tryz.prog 103 [dX s,wV x] (.per (m5 ⟨s.id,s.flt,gi ⟨x.key,s.id,s.cnt + 1,rk + 1,x.prio,x.dead,x.body⟩ s.its,K,s.cnt + 1⟩)):=by
 rw [← FA]
 generalize hT:wF s.its ⟨x.key,s.id,s.cnt + 1,rk + 1,x.prio,x.dead,x.body⟩ false = T
 refine fi Tryz.func103 Tryz.ntmps103 ?_
 (refine az a1 ?_;repeat' first|apply ai|refine aj fun hc=>?_)
 clear a1
 refine bZ (dM 5 2 600 26 41 7 rfl rfl) ?_
 obtain ⟨c,hcn⟩:∃ c,s.cnt + 1 = c:=⟨_,rfl⟩
 obtain ⟨r,hrk⟩:∃ r,rk + 1 = r:=⟨_,rfl⟩
 rw [hcn,hrk] at hT ⊢
 rw [hcn] at a2
 generalize hy:(⟨x.key,s.id,c,r,x.prio,x.dead,x.body⟩:It) = y at hT
 have hyk:y.key = x.key:=by rw [← hy]
 have e0:[sC x.key,iC .i64 s.id,iC .i64 c,iC .i64 r,iC .i64 x.prio,bC x.dead,sC x.body] = Ji y:=by rw [← hy]
 refine an (X:=Nat × List It × Bool) (fun z=>z.1 ≤ s.its.length ∧ z.2.1.length ≤ 2 * z.1 ∧ z.2.1 ++ wF (s.its.drop z.1) y z.2.2 = T)
  (fun z=>ba [(2,.ptr 2 0 0),(3,.ptr 3 0 0),(4,.ptr 4 0 0),(5,.ptr 5 0 0),(6,bC z.2.2),(7,iC .i64 (z.1:Nat))] [(2,.box 26 ((nc s).map Cnt.per)),(3,.box 41 (Ji y)),(4,PY),(5,.box 26 [iC .i64 s.id,.per (fC s.flt),.row 600 0,.per (av (.slice none 0 0)),iC .i64 c]),(600,wD z.2.1)]) (fun z=>s.its.length - z.1) (0,[],false) ⟨Nat.zero_le _,Nat.le_refl _,by simpa using hT⟩ ?_ ?_
 ·rw [← e0]
  exact ae
 ·rintro ⟨i,ac,d⟩ ⟨g1,g0,g2⟩
  simp only at g1 g0 g2 ⊢
  rw [← hyk] at a2
  have hs1:s.id = y.rep:=by rw [← hy]
  have hs2:c = y.cnt:=by rw [← hy]
  clear hT hy e0 hyk
  by_cases hlt:i < s.its.length
  ·have h3:=eZ s.its[i].key y.key (by have:=hk _ (List.getElem_mem hlt);omega)
   clear a2 a3 hs1 hs2
   rw [List.drop_eq_getElem_cons hlt,wF] at g2
   by_cases c1:bu s.its[i].key y.key < 0
   ·rw [decide_eq_true c1] at h3 g2
    simp only [Bool.or_true,if_true,List.nil_append,Bool.not_true,Bool.or_false] at g2
    (refine az h3 ?_;repeat' first|apply ai|refine aj fun hc=>?_)
    all_goals first
     | (rw [if_neg (by grind [qd])] at g2
        refine ⟨(i + 1,ac ++ [s.its[i]],d),⟨hlt,by simp;omega,by simpa using g2⟩,by simp only;omega,?_⟩
        exact ae)
     | (rw [if_pos (by grind [qd])] at g2
        refine ⟨(i + 1,ac,d),⟨hlt,by simp only;omega,by simpa using g2⟩,by simp only;omega,?_⟩
        exact ae)
   ·rw [decide_eq_false c1] at h3 g2
    simp only [Bool.or_false,Bool.not_false,Bool.or_true] at g2
    cases d with
    | true=>
     simp only [if_true,List.nil_append] at g2
     (refine az h3 ?_;repeat' first|apply ai|refine aj fun hc=>?_)
     all_goals first
      | (rw [if_neg (by grind [qd])] at g2
         refine ⟨(i + 1,ac ++ [s.its[i]],true),⟨hlt,by simp;omega,by simpa using g2⟩,by simp only;omega,?_⟩
         exact ae)
      | (rw [if_pos (by grind [qd])] at g2
         refine ⟨(i + 1,ac,true),⟨hlt,by simp only;omega,by simpa using g2⟩,by simp only;omega,?_⟩
         exact ae)
    | false=>
     simp only [Bool.false_eq_true,if_false] at g2
     (refine az h3 ?_;repeat' first|apply ai|refine aj fun hc=>?_)
     all_goals first
      | (rw [if_neg (by grind [qd])] at g2
         refine ⟨(i + 1,ac ++ [y] ++ [s.its[i]],true),⟨hlt,by simp;omega,by simpa using g2⟩,by simp only;omega,?_⟩
         (refine og ?_ ?_;(focus ((repeat (first|exact iO.nil|(refine iO.cons ?_ ?_;rotate_left)));(all_goals try (first|rfl|(refine KO ?_;first|omega|(simp;done)|(simp;omega))|(refine vz ?_;first|(simp;done)|(simp [*];done))))));(focus ((repeat (first|exact iP.nil|(refine iP.cons ?_ ?_;rotate_left)));(all_goals try (first|rfl|(refine vA ?_;(rw [List.map_append] <;> rfl);done)|(refine oq ?_;(rw [List.map_append] <;> rfl);done))))))
         all_goals (show Blk.row _ _ _ = Blk.row _ _ _)
         all_goals (rw [List.map_append,List.map_append];rfl))
      | (rw [if_pos (by grind [qd])] at g2
         refine ⟨(i + 1,ac ++ [y],true),⟨hlt,by simp;omega,by simpa using g2⟩,by simp only;omega,?_⟩
         exact ae)
  ·obtain rfl:i = s.its.length:=by omega
   rw [List.drop_length,wF] at g2
   rw [hs1,hs2] at a2
   cases d with
   | true=>
    rw [if_pos rfl,List.append_nil] at g2
    subst g2
    refine bZ (je 600 _ 41 7 rfl rfl) ?_
    (refine aL a2 a3 ?_;repeat' first|apply ai|refine aj fun hc=>?_)
    refine aU ?_
    exact bL inferInstance inferInstance rfl rfl rfl rfl rfl rfl
   | false=>
    rw [if_neg (by simp)] at g2
    subst g2
    have e:dC (ac ++ [y]) = cD 7 (ac.map itP ++ [itP y]):=by unfold dC;rw [List.map_append];rfl
    rw [show m5 ⟨s.id,s.flt,ac ++ [y],K,c⟩ = bX [av (.int .i64 s.id),fC s.flt,cD 7 (ac.map itP ++ [itP y]),iq K,av (.int .i64 c)] from by rw [← e]]
    (refine aL a2 a3 ?_;repeat' first|apply ai|refine aj fun hc=>?_)
    refine ⟨.inl rfl,mL (je 600 _ 41 7 rfl rfl) (Ah rfl ?_)⟩
    exact bL inferInstance inferInstance rfl rfl rfl rfl rfl rfl
theorem B7 (s:Sta) (k:ByteArray) (prio:Int) (body:ByteArray) (r kr hf:Bool) (S':Sta) (hl:s.its.length ≤ 1000000) (hb:body.size ≤ 1000000000)
 (a1:Fn Tryz.prog 23 [dX s] (cw r)) (a2:Fn Tryz.prog 101 [sC k] (cw kr)) (a3:Fn Tryz.prog 34 [dS s.flt,sC k] (cw hf))
 (a4':r = true → ¬ (kr = false ∨ prio < 0 ∨ prio > 255 ∨ body.size > 64) → s.cnt ≠ 1099511627776 → ec s.its k ≠ 1099511627776 → Fn Tryz.prog 103 [dX s,wV ⟨k,0,0,0,prio,false,body⟩] (.per (m5 S'))) :
 Fn Tryz.prog 55 [dX s,sC k,iC .i64 prio,sC body] (.tup2 (.per (m5 (Ow s prio body (bW s.its k) (ec s.its k) r kr hf S').1)) (gy (Ow s prio body (bW s.its k) (ec s.its k) r kr hf S').2)):=by
 have a5:=tF s k hl
 unfold Ow
 cases r with
 | false=>
  rw [if_pos rfl]
  clear a2 a3 a4' a5
  refine fi Tryz.func55 Tryz.ntmps55 ?_
  (refine az a1 ?_;repeat' first|apply ai|refine aj fun hc=>?_)
  refine im ?_ ?_
  ·exact dE (bL inferInstance inferInstance rfl rfl rfl rfl rfl rfl) aI
  ·exact aH rfl rfl
 | true=>
 have a6':=a4' rfl
 clear a4'
 rw [if_neg (show ¬ true = false by simp)]
 by_cases c2:kr = false ∨ prio < 0 ∨ prio > 255 ∨ body.size > 64
 ·rw [if_pos c2]
  clear a3 a5 a6'
  cases kr
  all_goals
   refine fi Tryz.func55 Tryz.ntmps55 ?_
   (refine aL a1 a2 ?_;repeat' first|apply ai|refine aj fun hc=>?_)
   all_goals first|(exfalso;rcases c2 with h|h|h|h <;> first|cases h|omega)|skip
   all_goals
    refine im ?_ ?_
    ·exact dE (bL inferInstance inferInstance rfl rfl rfl rfl rfl rfl) aI
    ·exact aH rfl rfl
 have a6:=a6' c2
 clear a6'
 rw [if_neg c2]
 obtain ⟨rfl,d1,d2,d3⟩:kr = true ∧ 0 ≤ prio ∧ prio ≤ 255 ∧ body.size ≤ 64:=by
  cases kr with
  | false=>exact absurd (.inl rfl) c2
  | true=>
   have e1:¬ prio < 0:=fun q=>c2 (.inr (.inl q))
   have e2:¬ prio > 255:=fun q=>c2 (.inr (.inr (.inl q)))
   have e3:¬ body.size > 64:=fun q=>c2 (.inr (.inr (.inr q)))
   exact ⟨rfl,by omega,by omega,by omega⟩
 clear c2
 cases hf with
 | false=>
  rw [if_pos rfl]
  clear a6 a5
  refine fi Tryz.func55 Tryz.ntmps55 ?_
  (refine eX a1 a2 a3 ?_;repeat' first|apply ai|refine aj fun hc=>?_)
  refine im ?_ ?_
  ·exact dE (bL inferInstance inferInstance rfl rfl rfl rfl rfl rfl) aI
  ·exact aH rfl rfl
 | true=>
 rw [if_neg (show ¬ true = false by simp)]
 rcases m9 s k hl with ⟨g,c7⟩|⟨i,hi,g,c7⟩
 all_goals
  rw [g]
  generalize ec s.its k = rk at a5 a6 ⊢
  by_cases c4:s.cnt = 1099511627776 ∨ rk = 1099511627776
  ·rw [if_pos c4]
   clear a6 c7
   refine fi Tryz.func55 Tryz.ntmps55 ?_
   (refine rR a1 a2 a3 a5 ?_;repeat' first|apply ai|refine aj fun hc=>?_)
   all_goals first|(exfalso;rcases c4 with h|h <;> omega)|skip
   all_goals
    refine im ?_ ?_
    ·exact dE (bL inferInstance inferInstance rfl rfl rfl rfl rfl rfl) aI
    ·exact aH rfl rfl
  have d4:s.cnt ≠ 1099511627776:=fun q=>c4 (.inl q)
  have d5:rk ≠ 1099511627776:=fun q=>c4 (.inr q)
  have a4:=a6 d4 d5
  clear a6
  rw [if_neg c4]
  clear c4
 ·by_cases c5:s.its.length = 4096
  ·rw [if_pos ⟨rfl,c5⟩]
   clear a4
   refine fi Tryz.func55 Tryz.ntmps55 ?_
   (refine oB a1 a2 a3 a5 c7 ?_;repeat' first|apply ai|refine aj fun hc=>?_)
   refine im ?_ ?_
   ·exact dE (bL inferInstance inferInstance rfl rfl rfl rfl rfl rfl) aI
   ·exact aH rfl rfl
  ·rw [if_neg (fun q=>c5 q.2)]
   refine fi Tryz.func55 Tryz.ntmps55 ?_
   (refine MZ a1 a2 a3 a5 c7 a4 ?_;repeat' first|apply ai|refine aj fun hc=>?_)
   refine im ?_ ?_
   ·exact bL inferInstance inferInstance rfl rfl rfl rfl rfl rfl
   ·exact aH rfl rfl
 ·rw [if_neg (fun q=>by cases q.1)]
  refine fi Tryz.func55 Tryz.ntmps55 ?_
  (refine MZ a1 a2 a3 a5 c7 a4 ?_;repeat' first|apply ai|refine aj fun hc=>?_)
  refine im ?_ ?_
  ·exact bL inferInstance inferInstance rfl rfl rfl rfl rfl rfl
  ·exact aH rfl rfl
end
theorem zR (s:Sta) (k:ByteArray) (prio:Int) (d:Bool) (body:ByteArray) (hB:FH s) (hl:s.its.length ≤ 100000) (hr:f0 s = true) (hk:cY k = true) (h2:s.cnt ≠ 1099511627776) (hj:bS (s.know ++ ee k s.id (s.cnt + 1))) :
 Fn Tryz.prog 103 [dX s,wV ⟨k,0,0,0,prio,d,body⟩] (.per (m5 (nb s (fL s k prio d body)))):=by
 obtain ⟨c1,c2,_⟩:=gx hr
 have hv:cC s.id (s.cnt + 1) = true:=by unfold cC;simp;omega
 have hrk:=m7 (dn hr).1 k
 have h1:bS (ee k s.id (s.cnt + 1)):=by
  have w:qi (ee k s.id (s.cnt + 1)) 1 1:=by
   unfold ee
   rw [hk,hv,if_pos (by rfl)]
   exact ⟨by simp,fun p hp=>by rw [List.mem_singleton.1 hp];simp⟩
  exact w.mid (by decide) (by decide)
 have h3:(ee k s.id (s.cnt + 1)).length ≤ 500000:=by unfold ee;split <;> simp
 exact MN s ⟨k,0,0,0,prio,d,body⟩ (ec s.its k) _ _ (by omega) (fun x hx=>pf (List.all_eq_true.1 (dn hr).1 x hx)) c2 hrk (tF s k (by omega)) (MM k s.id (s.cnt + 1) hk hv)
  (zG s.know (ee k s.id (s.cnt + 1)) hB.kmid h1 hj (by have:=hB.kl;omega) h3).frz
theorem FB (s:Sta) (k:ByteArray) (prio:Int) (body:ByteArray) (hB:FH s) (hl:s.its.length ≤ 100000) (hb:body.size ≤ 1000000000) (hks:k.size ≤ 1000000000) (hj:f0 s = true → cY k = true → bS (s.know ++ ee k s.id (s.cnt + 1))) :
 Fn Tryz.prog 55 [dX s,sC k,iC .i64 prio,sC body] (.tup2 (.per (m5 (gS s k prio body).1)) (gy (gS s k prio body).2)):=by
 refine B7 s k prio body (f0 s) (cY k) (bA s.flt k) (nb s (fL s k prio false body)) (by omega) hb (kg s hB) (fX k) (l7 s.flt k (by have:=hB.flt;omega) hks) fun hr h1 h2 h3=>?_
 have hk:cY k = true:=by
  cases q:cY k with
  | true=>rfl
  | false=>exact absurd (.inl q) h1
 exact zR s k prio false body hB hl hr hk h2 (hj hr hk)
section
theorem B8 (s:Sta) (k:ByteArray) (hB:FH s) (hl:s.its.length ≤ 100000) (hj:f0 s = true → cY k = true → bS (s.know ++ ee k s.id (s.cnt + 1))) :
 Fn Tryz.prog 56 [dX s,sC k] (.tup2 (.per (m5 (fO s k).1)) (gy (fO s k).2)):=by
 have a1:=kg s hB
 have a5:=tF s k (by omega)
 unfold fO
 cases hr:f0 s with
 | false=>
  rw [hr] at a1
  rw [if_pos rfl]
  clear a5
  refine fi Tryz.func56 Tryz.ntmps56 ?_
  (refine az a1 ?_;repeat' first|apply ai|refine aj fun hc=>?_)
  refine im ?_ ?_
  ·exact dE (bL inferInstance inferInstance rfl rfl rfl rfl rfl rfl) aI
  ·exact aH rfl rfl
 | true=>
 rw [hr] at a1
 rw [if_neg (show ¬ true = false by simp)]
 rcases m9 s k (by omega) with ⟨g,c7⟩|⟨i,hi,g,c7⟩
 ·rw [g]
  clear a5
  refine fi Tryz.func56 Tryz.ntmps56 ?_
  (refine aL a1 c7 ?_;repeat' first|apply ai|refine aj fun hc=>?_)
  refine im ?_ ?_
  ·exact dE (bL inferInstance inferInstance rfl rfl rfl rfl rfl rfl) aI
  ·exact aH rfl rfl
 ·have hyk:=zO g
  have hyr:=List.all_eq_true.1 (dn hr).1 _ (List.getElem_mem hi)
  unfold itR at hyr
  simp only [Bool.and_eq_true,decide_eq_true_eq] at hyr
  have hk:cY k = true:=by rw [← hyk];exact hyr.1.1
  have hrk:ec s.its k = s.its[i].rank:=by unfold ec;rw [g]
  have hp:=fun h2=>zR s k s.its[i].prio true ⟨#[]⟩ hB hl hr hk h2 (hj hr hk)
  rw [g]
  rw [hrk] at a5
  clear hj hB hyk hyr hrk g hr hk
  simp only
  cases hd:s.its[i].dead with
  | true=>
   rw [if_pos rfl]
   clear hp
   refine fi Tryz.func56 Tryz.ntmps56 ?_
   (refine aL a1 c7 ?_;repeat' first|apply ai|refine aj fun hc=>?_)
   refine im ?_ ?_
   ·exact dE (bL inferInstance inferInstance rfl rfl rfl rfl rfl rfl) aI
   ·exact aH rfl rfl
  | false=>
   rw [if_neg (by simp)]
   by_cases c4:s.cnt = 1099511627776 ∨ s.its[i].rank = 1099511627776
   ·rw [if_pos c4]
    clear hp
    refine fi Tryz.func56 Tryz.ntmps56 ?_
    (refine eX a1 c7 a5 ?_;repeat' first|apply ai|refine aj fun hc=>?_)
    all_goals first|(exfalso;rcases c4 with h|h <;> omega)|skip
    all_goals
     refine im ?_ ?_
     ·exact dE (bL inferInstance inferInstance rfl rfl rfl rfl rfl rfl) aI
     ·exact aH rfl rfl
   ·have d4:s.cnt ≠ 1099511627776:=fun q=>c4 (.inl q)
    have d5:s.its[i].rank ≠ 1099511627776:=fun q=>c4 (.inr q)
    have a4:=hp d4
    rw [if_neg c4]
    clear c4 hp
    generalize nb s (fL s k s.its[i].prio true ⟨#[]⟩) = S' at a4 ⊢
    refine fi Tryz.func56 Tryz.ntmps56 ?_
    (refine rR a1 c7 a5 a4 ?_;repeat' first|apply ai|refine aj fun hc=>?_)
    refine im ?_ ?_
    ·exact bL inferInstance inferInstance rfl rfl rfl rfl rfl rfl
    ·exact aH rfl rfl
abbrev OH (a:Act):List PV:=[av (.int .i64 a.kind),av (.string a.key),av (.int .i64 a.prio),av (.string a.body),dC a.its,iq a.know]
abbrev P1 (a:Act):Cnt:=.per (bX (OH a))
theorem MO (s:Sta) (a:Act) (o:Sta × Int) (h1:a.kind = 1 → Fn Tryz.prog 55 [dX s,sC a.key,iC .i64 a.prio,sC a.body] (.tup2 (.per (m5 o.1)) (gy o.2))) (h2:a.kind = 2 → Fn Tryz.prog 56 [dX s,sC a.key] (.tup2 (.per (m5 o.1)) (gy o.2)))
 (h3:a.kind = 3 → Fn Tryz.prog 57 [dX s,.per (dC a.its),gr a.know] (.tup2 (.per (m5 o.1)) (gy o.2))) (h0:¬ (a.kind = 1 ∨ a.kind = 2 ∨ a.kind = 3) → o = (s,0)) :
 Fn Tryz.prog 24 [dX s,P1 a] (.tup2 (.per (m5 (if o.2 = 0 then o.1 else s))) (gy o.2)):=by
 obtain ⟨t,e⟩:=o
 simp only at h1 h2 h3 ⊢
 by_cases k1:a.kind = 1
 ·have c:=h1 k1
  clear h1 h2 h3 h0
  by_cases he:e = 0
  all_goals
   first|rw [if_pos he]|rw [if_neg he]
   refine fi Tryz.func24 Tryz.ntmps24 ?_
   (refine az c ?_;repeat' first|apply ai|refine aj fun hc=>?_)
   refine im ?_ ?_
   ·exact bL inferInstance inferInstance rfl rfl rfl rfl rfl rfl
   ·exact aH rfl (by omega)
 ·by_cases k2:a.kind = 2
  ·have c:=h2 k2
   clear h1 h2 h3 h0
   by_cases he:e = 0
   all_goals
    first|rw [if_pos he]|rw [if_neg he]
    refine fi Tryz.func24 Tryz.ntmps24 ?_
    (refine az c ?_;repeat' first|apply ai|refine aj fun hc=>?_)
    refine im ?_ ?_
    ·exact bL inferInstance inferInstance rfl rfl rfl rfl rfl rfl
    ·exact aH rfl (by omega)
  ·by_cases k3:a.kind = 3
   ·have c:=h3 k3
    clear h1 h2 h3 h0
    by_cases he:e = 0
    all_goals
     first|rw [if_pos he]|rw [if_neg he]
     refine fi Tryz.func24 Tryz.ntmps24 ?_
     (refine az c ?_;repeat' first|apply ai|refine aj fun hc=>?_)
     refine im ?_ ?_
     ·exact bL inferInstance inferInstance rfl rfl rfl rfl rfl rfl
     ·exact aH rfl (by omega)
   ·have c:=h0 (by omega)
    cases c
    clear h1 h2 h3 h0
    rw [if_pos rfl]
    refine fi Tryz.func24 Tryz.ntmps24 ?_
    (refine w0 ?_;repeat' first|apply ai|refine aj fun hc=>?_)
    refine im ?_ ?_
    ·exact bL inferInstance inferInstance rfl rfl rfl rfl rfl rfl
    ·exact aH rfl rfl
end
theorem OI {s:Sta} {F:List ByteArray} {i:Nat} (h:zW s F i) {a:Act} (ha:zN a):Fn Tryz.prog 24 [dX s,P1 a] (.tup2 (.per (m5 (vf s a).1)) (gy (vf s a).2)):=by
 have hil:=h.il
 have hi:=h.i12
 have hG:=MO s a (fw s a) (fun k=>by
  unfold fw;rw [if_neg (by omega),if_neg (by omega),if_pos k]
  exact FB s a.key a.prio a.body h.st (by omega) (by have:=ha.body;omega) (by have:=ha.key;omega) fun _ _=>h.one _ _ _) (fun k=>by
  unfold fw;rw [if_neg (by omega),if_pos k]
  exact B8 s a.key h.st (by omega) fun _ _=>h.one _ _ _) (fun k=>by
  unfold fw;rw [if_pos k]
  exact Kd s a.its a.know (h.tk ha.il ha.ik ha.kw)) fun k=>by
  unfold fw;rw [if_neg (by omega),if_neg (by omega),if_neg (by omega)]
 unfold vf
 by_cases e:(fw s a).2 = 0
 ·rw [if_pos e] at hG ⊢
  rw [e] at hG
  exact hG
 ·rw [if_neg e] at hG ⊢
  exact hG
abbrev n7 (l:List Act):PV:=cD 6 (l.map OH)
abbrev Qk (T:Tr × Ix) (s:Sta) (sd b:Int):List (Nat × Blk):=[(700,.box 76 (.ptr 701 0 0 :: .ptr 703 0 0 :: (nc s).map .per)),(701,.box 121 [.row 702 0,iC .u64 sd,iC .i64 b]),(702,.obj (nm T.1)),(703,.box 130 [.row 710 0,.row 711 0,.row 712 0,.row 713 0,.row 714 0,.row 715 0,.row 716 0,.row 717 0,.row 718 0,.row 719 0,.row 720 0,.row 721 0,.row 722 0,.row 723 0,.row 724 0,.row 725 0,iC .i64 T.2.many]),(710,bt (T.2.rows 0)),(711,bt (T.2.rows 1)),(712,bt (T.2.rows 2)),(713,bt (T.2.rows 3)),(714,bt (T.2.rows 4)),(715,bt (T.2.rows 5)),(716,bt (T.2.rows 6)),(717,bt (T.2.rows 7)),(718,bt (T.2.rows 8)),(719,bt (T.2.rows 9)),(720,bt (T.2.rows 10)),(721,bt (T.2.rows 11)),(722,bt (T.2.rows 12)),(723,bt (T.2.rows 13)),(724,bt (T.2.rows 14)),(725,bt (T.2.rows 15))]
abbrev qj:List (Nat × Nat):=[(1000,700),(1001,701),(2100,702),(1002,703),(2000,710),(2001,711),(2002,712),(2003,713),(2004,714),(2005,715),(2006,716),(2007,717),(2008,718),(2009,719),(2010,720),(2011,721),(2012,722),(2013,723),(2014,724),(2015,725)]
abbrev MP:List (Nat × Nat):=[(3000,700),(3001,701),(3002,702),(3003,703),(3010,710),(3011,711),(3012,712),(3013,713),(3014,714),(3015,715),(3016,716),(3017,717),(3018,718),(3019,719),(3020,720),(3021,721),(3022,722),(3023,723),(3024,724),(3025,725)]
abbrev Ql:List (Nat × Nat):=[(700,3000),(701,3001),(702,3002),(703,3003),(710,3010),(711,3011),(712,3012),(713,3013),(714,3014),(715,3015),(716,3016),(717,3017),(718,3018),(719,3019),(720,3020),(721,3021),(722,3022),(723,3023),(724,3024),(725,3025)]
def qk (a:Act):Bool:=decide (a.key.size > 100) || (decide (a.body.size > 200) || (k8 a.its 8 || eA a.know 6))
def i3 (l:List Act):Bool:=decide ((l.length:Int) > 12) || l.any qk
theorem FC {α:Type} {l:List α} {p:α → Bool} {i:Nat} (hi:i < l.length) (h:(l.take i).any p = false):(l.take (i + 1)).any p = p l[i]:=by
 rw [aJ l i hi,List.any_append,h];simp
theorem B9 {l:List Act} (h:i3 l = false):l.length ≤ 12 ∧ ∀ a ∈ l,zN a:=by
 unfold i3 at h
 rw [Bool.or_eq_false_iff,decide_eq_false_iff_not] at h
 refine ⟨by omega,fun a ha=>?_⟩
 have:=List.any_eq_false.1 h.2 a ha
 unfold qk at this
 simp only [Bool.not_eq_true,Bool.or_eq_false_iff,decide_eq_false_iff_not] at this
 obtain ⟨q1,q2,q3,q4⟩:=this
 have q5:=tC q4
 unfold k8 at q3
 rw [Bool.or_eq_false_iff,decide_eq_false_iff_not] at q3
 refine ⟨by omega,by omega,by omega,fun x hx=>?_,q5⟩
 have:=List.any_eq_false.1 q3.2 x hx
 simp [Ls] at this
 omega
theorem de.argsW {P:Program} {f:FuncId} {As Bs:List Cnt} {pre post:List (Nat × Blk)} {r:Cnt} (h:de P f Bs pre r post) (k:CW As Bs):de P f As pre r post:=⟨h.ent,fun C w vs hw hN hd hl ha hp=>by
 refine h.run C w vs hw hN hd (by rw [hl,k.len]) (fun i u c hi hj=>?_) hp
 obtain ⟨c0,q1,q2⟩:=k.get i c hj
 rcases q2 with rfl|⟨A,B,rfl,rfl,q3⟩
 ·exact ha i u c0 hi q1
 ·exact q3 _ _ _ (ha i u (.per A) hi q1)⟩
section
theorem Ca (l:List Act):Fn Tryz.prog 6 [.per (n7 l)] (cw (i3 l)):=by
 refine fi Tryz.func6 Tryz.ntmps6 ?_
 (refine w0 ?_;repeat' first|apply ai|refine aj fun hc=>?_)
 ·refine aU ?_
  exact af rfl (by unfold i3;rw [decide_eq_true hc];rfl)
 refine an (fun k=>k ≤ l.length ∧ (l.take k).any qk = false) (fun k=>ba [(2,bC false),(8,.per (n7 l)),(9,iC .i64 (l.length:Nat)),(10,iC .i64 (k:Nat))] []) (fun k=>l.length - k) 0 ⟨Nat.zero_le _,by simp⟩ ?_ ?_
 ·exact ae
 ·rintro k ⟨hk,hpre⟩
  by_cases hlt:k < l.length
  ·have hsn:=FC hlt hpre
   have hyes:qk l[k] = true → i3 l = true:=fun hq=>by unfold i3;rw [Bool.or_eq_true,List.any_eq_true];exact .inr ⟨l[k],List.getElem_mem hlt,hq⟩
   have c1:=ux l[k].its 8 (by decide)
   have c2:=nM l[k].know 6 (by decide)
   have hE:qk l[k] = (decide (l[k].key.size > 100) || (decide (l[k].body.size > 200) || (k8 l[k].its 8 || eA l[k].know 6))):=rfl
   clear hpre
   generalize k8 l[k].its 8 = b1 at *
   generalize eA l[k].know 6 = b2 at *
   by_cases hq:qk l[k] = true
   ·rw [hyes hq]
    rw [hE,Bool.or_eq_true,Bool.or_eq_true,Bool.or_eq_true,decide_eq_true_eq,decide_eq_true_eq] at hq
    clear hyes hsn hE
    rcases hq with h|h|rfl|rfl
    all_goals
     (refine aL c1 c2 ?_;repeat' first|apply ai|refine aj fun hc=>?_)
     all_goals
      refine aU ?_
      exact af rfl rfl
   ·have hq:=Bool.eq_false_iff.2 hq
    rw [hq] at hsn
    rw [hE] at hq
    simp only [Bool.or_eq_false_iff,decide_eq_false_iff_not] at hq
    obtain ⟨e1,e2,rfl,rfl⟩:=hq
    clear hyes hE
    (refine aL c1 c2 ?_;repeat' first|apply ai|refine aj fun hc=>?_)
    all_goals first|(exfalso;omega)|skip
    refine ⟨k + 1,⟨by omega,hsn⟩,by omega,?_⟩
    exact ae
  ·rw [List.take_of_length_le (by omega)] at hpre
   have hno:i3 l = false:=by unfold i3;rw [hpre,decide_eq_false hc];rfl
   rw [hno]
   (refine w0 ?_;repeat' first|apply ai|refine aj fun hc=>?_)
   refine aU ?_
   exact af rfl rfl
def zS (sd:Int) (T:Tr × Ix) (s:Sta) (a:Act):(Tr × Ix) × Sta:=if a.kind = 1 ∨ a.kind = 2 ∨ a.kind = 3 then iJ sd T s (fw s a) else (T,s)
theorem Ks (T:Tr × Ix) (s:Sta) (sd b:Int) (a:Act) (o:Sta × Int)
 (h1:a.kind = 1 → de Tryz.prog 19 [.ptr 1000 0 0,sC a.key,iC .i64 a.prio,sC a.body] (bH T s sd b) (iC .i64 o.2) (bH (iJ sd T s o).1 (iJ sd T s o).2 sd b))
 (h2:a.kind = 2 → de Tryz.prog 58 [.ptr 1000 0 0,sC a.key] (bH T s sd b) (iC .i64 o.2) (bH (iJ sd T s o).1 (iJ sd T s o).2 sd b))
 (h3:a.kind = 3 → de Tryz.prog 59 [.ptr 1000 0 0,.per (dC a.its),gr a.know] (bH T s sd b) (iC .i64 o.2) (bH (iJ sd T s o).1 (iJ sd T s o).2 sd b))
 (h0:¬ (a.kind = 1 ∨ a.kind = 2 ∨ a.kind = 3) → o.2 = 0) :
 de Tryz.prog 25 [.ptr 1000 0 0,P1 a] (bH T s sd b) (iC .i64 o.2) (if a.kind = 1 ∨ a.kind = 2 ∨ a.kind = 3 then bH (iJ sd T s o).1 (iJ sd T s o).2 sd b else bH T s sd b):=by
 generalize (iJ sd T s o).1 = X at *
 generalize (iJ sd T s o).2 = s' at *
 generalize o.2 = e at *
 by_cases k1:a.kind = 1
 ·have c:=h1 k1
  rw [if_pos (.inl k1)]
  clear h1 h2 h3 h0
  refine eR Tryz.func25 Tryz.ntmps25 ?_
  (refine fB (gj jN c) ?_;repeat' first|apply ai|refine aj fun hc=>?_)
  (refine ⟨(by first|exact .inl rfl|exact .inr rfl),cc (jN) rfl rfl ?_ ?_⟩;(focus (repeat (first|exact aW.nil|(refine aW.cons rfl ?_ ?_;(focus first|rfl|skip))))))
  exact cL rfl rfl
 ·by_cases k2:a.kind = 2
  ·have c:=h2 k2
   rw [if_pos (.inr (.inl k2))]
   clear h1 h2 h3 h0
   refine eR Tryz.func25 Tryz.ntmps25 ?_
   (refine fB (gj jN c) ?_;repeat' first|apply ai|refine aj fun hc=>?_)
   (refine ⟨(by first|exact .inl rfl|exact .inr rfl),cc (jN) rfl rfl ?_ ?_⟩;(focus (repeat (first|exact aW.nil|(refine aW.cons rfl ?_ ?_;(focus first|rfl|skip))))))
   exact cL rfl rfl
  ·by_cases k3:a.kind = 3
   ·have c:=h3 k3
    rw [if_pos (.inr (.inr k3))]
    clear h1 h2 h3 h0
    refine eR Tryz.func25 Tryz.ntmps25 ?_
    (refine fB (gj jN c) ?_;repeat' first|apply ai|refine aj fun hc=>?_)
    (refine ⟨(by first|exact .inl rfl|exact .inr rfl),cc (jN) rfl rfl ?_ ?_⟩;(focus (repeat (first|exact aW.nil|(refine aW.cons rfl ?_ ?_;(focus first|rfl|skip))))))
    exact cL rfl rfl
   ·have c:=h0 (by omega)
    subst c
    rw [if_neg (by omega)]
    clear h1 h2 h3 h0
    refine eR Tryz.func25 Tryz.ntmps25 ?_
    (refine w0 ?_;repeat' first|apply ai|refine aj fun hc=>?_)
    (refine ⟨(by first|exact .inl rfl|exact .inr rfl),cc (jN) rfl rfl ?_ ?_⟩;(focus (repeat (first|exact aW.nil|(refine aW.cons rfl ?_ ?_;(focus first|rfl|skip))))))
    exact cL rfl rfl
end
structure OJ (sd:Int) (T:Tr × Ix) (s:Sta) (F:List ByteArray) (i:Nat):Prop where
 b:zW s F i
 tr:OU sd T s.its
 x:pW T.2 (60 + 300 * i)
theorem OJ.siz {sd:Int} {T:Tr × Ix} {s:Sta} {F:List ByteArray} {i:Nat} (h:OJ sd T s F i):T.1.siz = s.its.length:=by rw [wT,h.tr.lst]
theorem Dr {sd b:Int} {T:Tr × Ix} {s:Sta} {F:List ByteArray} {i:Nat} (h:OJ sd T s F i) (hi:i < 12) {a:Act} (ha:zN a) (hE:∀ m ∈ t6 a,m ∈ F) :
 de Tryz.prog 25 [.ptr 1000 0 0,P1 a] (bH T s sd b) (iC .i64 (vf s a).2) (bH (zS sd T s a).1 (zS sd T s a).2 sd b) ∧ OJ sd (zS sd T s a).1 (vf s a).1 F (i + 1) ∧ (zS sd T s a).2 = (vf s a).1:=by
 have hil:=h.b.il
 have hD:=Qg h.b hi ha hE
 have hD2:=hD.il
 obtain ⟨hI,hS⟩:=Pv h.tr a h.b.right
 have hsz:=h.siz
 have hturn:(fw s a).2 = 0 → de Tryz.prog 46 [.ptr 1000 0 0,dX (fw s a).1] (bH T s sd b) .any (bH ((fw s a).1.its.foldl (dv sd) T) (fw s a).1 sd b):=fun e=>by
  unfold vf at hD hD2
  rw [if_pos e] at hD hD2
  exact Dn T s _ sd b (dn hD.right).1 (by simp only at hD2;omega) (by omega) (h.x.up (by omega))
 have hX:pW (iJ sd T s (fw s a)).1.2 (60 + 300 * (i + 1)):=by
  unfold iJ
  by_cases e:(fw s a).2 = 0
  ·rw [if_pos e]
   unfold vf at hD2
   rw [if_pos e] at hD2
   exact (JY _ _ _ h.x).up (by simp only at hD2;omega)
  ·rw [if_neg e];exact h.x.up (by omega)
 have hG:=Ks T s sd b a (fw s a) (fun k=>by
  have:=zC s a.key a.prio a.body h.b.st (by omega) (by have:=ha.body;omega) (by have:=ha.key;omega) fun _ _=>h.b.one _ _ _
  have e:gS s a.key a.prio a.body = fw s a:=by unfold fw;rw [if_neg (by omega),if_neg (by omega),if_pos k]
  rw [e] at this
  exact zP T s sd b _ _ _ _ this hturn) (fun k=>by
  have:=Fv s a.key h.b.st (by omega) fun _ _=>h.b.one _ _ _
  have e:fO s a.key = fw s a:=by unfold fw;rw [if_neg (by omega),if_pos k]
  rw [e] at this
  exact Fx T s sd b _ _ this hturn) (fun k=>by
  have:=Dm s a.its a.know (h.b.tk ha.il ha.ik ha.kw)
  have e:fK s a.its a.know = fw s a:=by unfold fw;rw [if_pos k]
  rw [e] at this
  exact MK T s sd b _ _ _ this hturn) fun k=>by
  unfold fw;rw [if_neg (by omega),if_neg (by omega),if_neg (by omega)]
 have hd2:(vf s a).2 = (fw s a).2:=by
  unfold vf
  split
  ·rename_i e;exact e.symm
  ·rfl
 rw [hd2]
 unfold zS
 by_cases k:a.kind = 1 ∨ a.kind = 2 ∨ a.kind = 3
 ·rw [if_pos k] at hG ⊢
  exact ⟨hG,⟨hD,hI,hX⟩,hS⟩
 ·rw [if_neg k] at hG ⊢
  have hd:(vf s a).1 = s:=by
   have:fw s a = (s,0):=by unfold fw;rw [if_neg (by omega),if_neg (by omega),if_neg (by omega)]
   unfold vf;rw [this];rfl
  rw [hd] at hD ⊢
  exact ⟨hG,⟨hD,h.tr,h.x.up (by omega)⟩,rfl⟩
theorem OL {sd:Int} {t:Tr} (h:qL sd t) {r:Rg} (hr:eO r = true):(y9 t r).1 = (((t.lst.filter fun x=>aZ r x.key).length:Nat):Int) ∧ (cK t r.lo).1 + (t.lst.filter fun x=>aZ r x.key).length ≤ t.lst.length ∧
 ∀ (j:Nat) (hj:j < (t.lst.filter fun x=>aZ r x.key).length),Mf t ((cK t r.lo).1 + j) = (t.lst.filter fun x=>aZ r x.key)[j]:=by
 have h1:=(Js h r).1
 have h2:=(qe h r.lo).1
 have h3:=Ov hr (wP h)
 rw [← h2] at h3
 generalize hS:t.lst.filter (fun x=>aZ r x.key) = S at h1 h3 ⊢
 generalize (cK t r.lo).1 = A at h2 h3 ⊢
 have hle:A + S.length ≤ t.lst.length ∨ S.length = 0:=by
  have:=congrArg List.length h3
  rw [List.length_take,List.length_drop] at this
  omega
 have hA:A ≤ t.lst.length:=by rw [h2];exact List.length_filter_le _ _
 refine ⟨h1,by omega,fun j hj=>?_⟩
 have hlt:A + j < t.lst.length:=by omega
 have h4:=BD t (A + j) (by rw [wT];exact hlt)
 have h5:S[j]? = t.lst[A + j]?:=by
  conv=>lhs;rw [h3]
  rw [List.getElem?_take_of_lt hj,List.getElem?_drop]
 rw [h4,List.getElem?_eq_getElem hj] at h5
 exact (Option.some.inj h5).symm
section
theorem Cb (T:Tr × Ix) (s:Sta) (sd b:Int) (F:List Rg) (K:List Pc) (hI:qL sd T.1) (hs:T.1.siz ≤ 100000) (hw:∀ x ∈ T.1.lst,x.key.size ≤ 1000000000) (hF:F.length ≤ 12) (hK:fH K) :
 de Tryz.prog 14 [.ptr 1000 0 0,dS F,bV K] (bH T s sd b) (.per (dC (T.1.lst.filter fun x=>bA F x.key && !bv K x.key x.rep x.cnt))) (bH T s sd b):=by
 have c0:=zD T s sd b
 have c1:=(BG F (Nat.le_trans (List.length_filter_le _ _) hF) (by omega)).frz
 have hok:=(mW F).1
 have hln:=sq F
 have hsl:T.1.lst.length = T.1.siz:=(wT _).symm
 have hO:T.1.lst.filter (fun x=>bA F x.key && !bv K x.key x.rep x.cnt) = (sn F).flatMap fun r=>(T.1.lst.filter fun x=>aZ r x.key).filter fun x=>!bv K x.key x.rep x.cnt:=by
  rw [← List.filter_flatMap,JV hok (wP hI),List.filter_filter]
  refine List.filter_congr fun x _=>?_
  rw [(mW F).2,Bool.and_comm]
 have hOl:(T.1.lst.filter (fun x=>bA F x.key && !bv K x.key x.rep x.cnt)).length ≤ 100000:=Nat.le_trans (List.length_filter_le _ _) (by omega)
 rw [hO] at hOl ⊢
 generalize sn F = R at c1 hok hln hOl ⊢
 generalize hG:R.flatMap (fun r=>(T.1.lst.filter fun x=>aZ r x.key).filter fun x=>!bv K x.key x.rep x.cnt) = O at hOl ⊢
 clear hO
 refine eR Tryz.func14 Tryz.ntmps14 ?_
 (refine eW c1 (gj jN c0) ?_;repeat' first|apply ai|refine aj fun hc=>?_)
 clear c0 c1
 refine bZ (b7 7 600 41 7 rfl rfl) ?_
 refine an (X:=Nat × List It) (fun z=>z.1 ≤ R.length ∧ z.2 ++ (R.drop z.1).flatMap (fun r=>(T.1.lst.filter fun x=>aZ r x.key).filter fun x=>!bv K x.key x.rep x.cnt) = O)
  (fun z=>ba [(0,.ptr 1000 0 0),(2,bV K),(7,.row 600 0),(17,.per (fC R)),(18,iC .i64 (R.length:Nat)),(19,iC .i64 (z.1:Nat))] ((600,wD z.2) :: bH T s sd b)) (fun z=>R.length - z.1) (0,[]) ⟨Nat.zero_le _,hG⟩ ?_ ?_
 ·exact ae
 ·clear hG
  rintro ⟨i,ac⟩ ⟨g1,g2⟩
  simp only at g1 g2 ⊢
  by_cases hlt:i < R.length
  ·rw [List.drop_eq_getElem_cons hlt,List.flatMap_cons] at g2
   obtain ⟨f1,f2,f3⟩:=OL hI (vO hok hlt)
   have c2:=BB T.1 sd b R[i].lo (by omega) hw
   have c3:=BC T.1 sd b R[i] (by omega) hw
   rw [f1] at c3
   have hSw:∀ x ∈ T.1.lst.filter (fun x=>aZ R[i] x.key),x.key.size ≤ 1000000000:=fun x hx=>hw x (List.mem_filter.1 hx).1
   rw [hsl] at f2
   generalize (cK T.1 R[i].lo).1 = A at c2 f2 f3
   generalize T.1.lst.filter (fun x=>aZ R[i] x.key) = S at c3 f2 f3 g2 hSw
   generalize hE:(R.drop (i + 1)).flatMap (fun r=>(T.1.lst.filter fun x=>aZ r x.key).filter fun x=>!bv K x.key x.rep x.cnt) = E at g2
   clear f1
   (refine w0 ?_;repeat' first|apply ai|refine aj fun hc=>?_|((first|apply aO rfl|apply aP rfl|apply aQ rfl|apply aR rfl);(focus ((try (apply b8;(focus rfl);apply ah rfl rfl rfl rfl rfl));first|((refine nT (ids:=[1001,2100]) (c2) (hg:=?_);((repeat (first|exact fm.nil|(refine fm.cons ?_ ?_;focus (first|exact bP rfl|exact kV rfl|exact bR rfl rfl rfl (aC _) rfl|(refine bQ rfl rfl rfl rfl ?_;(focus (repeat (first|exact bp.nil|(refine bp.cons ?_ ?_;(focus (first|exact br.per|exact br.obj rfl rfl (aC _) rfl|exact br.row rfl rfl rfl)))))))))));done)))|((refine nT (ids:=[1001,2100]) (c3) (hg:=?_);((repeat (first|exact fm.nil|(refine fm.cons ?_ ?_;focus (first|exact bP rfl|exact kV rfl|exact bR rfl rfl rfl (aC _) rfl|(refine bQ rfl rfl rfl rfl ?_;(focus (repeat (first|exact bp.nil|(refine bp.cons ?_ ?_;(focus (first|exact br.per|exact br.obj rfl rfl (aC _) rfl|exact br.row rfl rfl rfl)))))))))));done)))));refine w0 ?_))
   clear c2 c3
   refine an (X:=Nat × List It) (fun z=>z.1 ≤ S.length ∧ z.2 ++ ((S.drop z.1).filter (fun x=>!bv K x.key x.rep x.cnt) ++ E) = O)
    (fun z=>ba [(0,.ptr 1000 0 0),(2,bV K),(7,.row 600 0),(10,iC .i64 ((A + z.1:Nat):Int)),(17,.per (fC R)),(18,iC .i64 (R.length:Nat)),(19,iC .i64 (i:Nat)),(37,iC .i64 (S.length:Nat)),(38,iC .i64 (z.1:Nat))] ((600,wD z.2) :: bH T s sd b)) (fun z=>S.length - z.1) (0,ac) ⟨Nat.zero_le _,g2⟩ ?_ ?_
   ·exact ae
   ·clear g2
    rintro ⟨j,bc⟩ ⟨k1,k2⟩
    simp only at k1 k2 ⊢
    have hbl:bc.length ≤ 100000:=by
     have:=congrArg List.length k2
     rw [List.length_append] at this
     omega
    by_cases hj:j < S.length
    ·have c4:=Mg T.1 sd b ((A + j:Nat):Int) (by omega)
     rw [if_neg (by omega),Int.toNat_natCast,f3 j hj,decide_eq_true (by omega)] at c4
     have c5:=wK K S[j].key S[j].rep S[j].cnt hK (hSw _ (List.getElem_mem hj))
     rw [List.drop_eq_getElem_cons hj,List.filter_cons] at k2
     have hA:((A + j:Nat):Int) + 1 = ((A + (j + 1):Nat):Int):=by omega
     have hA2:A + j ≤ 100000:=by omega
     generalize S[j] = y at c4 c5 k2
     cases hp:bv K y.key y.rep y.cnt with
     | true=>
      rw [hp] at c5 k2
      rw [if_neg (by decide)] at k2
      clear hw hSw f3 hI hK
      (refine bU hA c5 ?_;repeat' first|apply ai|refine aj fun hc=>?_|((first|apply aO rfl|apply aP rfl|apply aQ rfl|apply aR rfl);(focus ((try (apply b8;(focus rfl);apply ah rfl rfl rfl rfl rfl));first|((refine nT (ids:=[1001,2100]) (c4) (hg:=?_);((repeat (first|exact fm.nil|(refine fm.cons ?_ ?_;focus (first|exact bP rfl|exact kV rfl|exact bR rfl rfl rfl (aC _) rfl|(refine bQ rfl rfl rfl rfl ?_;(focus (repeat (first|exact bp.nil|(refine bp.cons ?_ ?_;(focus (first|exact br.per|exact br.obj rfl rfl (aC _) rfl|exact br.row rfl rfl rfl)))))))))));done)))));refine bU hA c5 ?_))
      refine ⟨(j + 1,bc),⟨by simp only;omega,k2⟩,by simp only;omega,?_⟩
      exact ae
     | false=>
      rw [hp] at c5 k2
      rw [if_pos (by decide)] at k2
      clear hw hSw f3 hI hK
      (refine bU hA c5 ?_;repeat' first|apply ai|refine aj fun hc=>?_|((first|apply aO rfl|apply aP rfl|apply aQ rfl|apply aR rfl);(focus ((try (apply b8;(focus rfl);apply ah rfl rfl rfl rfl rfl));first|((refine nT (ids:=[1001,2100]) (c4) (hg:=?_);((repeat (first|exact fm.nil|(refine fm.cons ?_ ?_;focus (first|exact bP rfl|exact kV rfl|exact bR rfl rfl rfl (aC _) rfl|(refine bQ rfl rfl rfl rfl ?_;(focus (repeat (first|exact bp.nil|(refine bp.cons ?_ ?_;(focus (first|exact br.per|exact br.obj rfl rfl (aC _) rfl|exact br.row rfl rfl rfl)))))))))));done)))));refine bU hA c5 ?_))
      refine ⟨(j + 1,bc ++ [y]),⟨by simp only;omega,by rw [List.append_assoc];exact k2⟩,by simp only;omega,ay (aN 600 601) (ay (aN 601 600) ?_)⟩
      exact ae
    ·rw [List.drop_eq_nil_of_le (by omega)] at k2
     clear hw hSw f3 hI hK
     (refine w0 ?_;repeat' first|apply ai|refine aj fun hc=>?_)
     refine ⟨(i + 1,bc),⟨by simp only;omega,by rw [hE];exact k2⟩,by simp only;omega,?_⟩
     exact ae
  ·rw [List.drop_eq_nil_of_le (by omega)] at g2
   have g2:ac = O:=by simpa using g2
   subst g2
   clear hw hI hK hok
   refine bZ (je 600 _ 41 7 rfl rfl) ?_
   (refine w0 ?_;repeat' first|apply ai|refine aj fun hc=>?_)
   (refine ⟨(by first|exact .inl rfl|exact .inr rfl),cc (jN) rfl rfl ?_ ?_⟩;(focus (repeat (first|exact aW.nil|(refine aW.cons rfl ?_ ?_;(focus first|rfl|skip))))))
   exact vC rfl rfl
end
end Go.Proofs.YtliiahjpiagdkaaGreat
