/- Texts joined: StO. -/
import Derived.Test.YtliiahjpiagdkaaGreatJ33
import Derived.Test.YtliiahjpiagdkaaGreatJ34
import Derived.Test.YtliiahjpiagdkaaGreatJ05
set_option maxRecDepth 10000
set_option maxHeartbeats 8000000
namespace Go.Proofs.YtliiahjpiagdkaaGreat
open Go.RowKit
section
theorem Fj (a:List Pc) (f:List Rg) (s:ByteArray) (ha:bS a) (hf:f.length ≤ 1000000) (hs:s.size ≤ 1000000000):Fn Tryz.prog 148 [iC .i64 3,bV a,bV [],dS f,sC s] (k9 (jq a f s)):=by
 have h1:=BO a s ha hs
 have h2:=l7 f s (by omega) hs
 unfold jq
 clear ha
 cases hr:bA f s with
 | true=>
  rw [hr] at h2
  rw [if_pos rfl]
  generalize iW a s = A at *
  refine fi Tryz.func148 Tryz.ntmps148 ?_
  (refine x8 h2 h1 ?_;repeat' first|apply ai|refine aj fun hc=>?_)
  refine aU ?_
  exact cI rfl rfl rfl
 | false=>
  rw [hr] at h2
  rw [if_neg (by simp)]
  clear h1
  refine fi Tryz.func148 Tryz.ntmps148 ?_
  (refine az h2 ?_;repeat' first|apply ai|refine aj fun hc=>?_)
  refine aU ?_
  exact cI rfl rfl rfl
theorem pe (k:List Pc) (f:List Rg) (hk:bS k) (hl:k.length ≤ 500000) (hf:f.length ≤ 400000):Fn Tryz.prog 52 [bV k,dS f] (l8 (bz k f)):=by
 have e:iw [emB] (bB k ++ (bB [] ++ f)) = jL k f:=rfl
 have h1:=va 3 k [] f (jq k f) hl (by simp) hf (fun s hs=>Fj k f s hk (by omega) (by
  rw [e] at hs
  have:=wm k f s hs;omega)) (fun s _=>(tj hk f s).sz)
 rw [e] at h1
 have h1:Fn Tryz.prog 99 [iC .i64 3,bV k,bV [],dS f] (l8 (bz k f)):=h1
 clear hk
 generalize bz k f = R at *
 refine fi Tryz.func52 Tryz.ntmps52 ?_
 (refine az h1 ?_;repeat' first|apply ai|refine aj fun hc=>?_)
 refine aU ?_
 exact cI rfl rfl rfl
theorem kg (s:Sta) (hB:FH s) :
 Fn Tryz.prog 23 [dX s] (cw (f0 s)):=by
 obtain ⟨b1,b2,b3,b4,b5⟩:=hB
 have a1:=AJ s.flt (by omega) (decide (dr s.flt)) (by simp)
 have a2:=yP s.its b5 (by omega) (du s.its) i9
 have a3:=qv s.know (cS b2) (decide (aY s.know)) (by simp)
 by_cases c1:(1 ≤ s.id ∧ s.id ≤ 16) ∧ (0 ≤ s.cnt ∧ s.cnt ≤ 1099511627776)
 ·by_cases c2:dr s.flt ∧ s.its.length ≤ 4096 ∧ du s.its = true ∧ aY s.know
  ·obtain ⟨d1,d2,d3,d4⟩:=c2
   have hall:s.its.all itR = true:=by unfold du at d3;rw [Bool.and_eq_true] at d3;exact d3.1
   have hT:f0 s = (decide (bz s.know s.flt = s.know) && decide (eG s.know s.id ≤ s.cnt) && dV s.its && s.its.all (fun x=>bA s.flt x.key && bv s.know x.key x.rep x.cnt)):=by
    unfold f0
    rw [decide_eq_true c1.1,decide_eq_true c1.2,decide_eq_true d1,decide_eq_true d2,d3,decide_eq_true d4]
    simp
   rw [hT]
   clear hT
   rw [decide_eq_true d1] at a1
   rw [d3] at a2
   rw [decide_eq_true d4] at a3
   have a4:=(pe s.know s.flt b2 b3 (by omega)).frz
   have hmid:fH (bz s.know s.flt):=zq b2 (by omega)
   have a5:=Bl (bz s.know s.flt) s.know hmid
   have a6:=zF s.know s.id b2
   have a7:=u9 s.its b4
   have a8:∀ x:ByteArray,x.size ≤ 1000000000 → Fn Tryz.prog 34 [dS s.flt,sC x] (cw (bA s.flt x)):=fun x hx=>l7 s.flt x (by omega) hx
   have a9:∀ (x:ByteArray) (r c:Int),x.size ≤ 1000000000 → Fn Tryz.prog 35 [bV s.know,sC x,qF r c] (cw (bv s.know x r c)):=fun x r c hx=>ru s.know x r c (cS b2) hx
   clear hall d1 d3 d4 hmid b2
   generalize bz s.know s.flt = RK at *
   generalize hq1:decide (RK = s.know) = q1 at *
   generalize hq2:eG s.know s.id = mk at *
   generalize dV s.its = q3 at *
   clear hq1 hq2
   by_cases e:q1 = true ∧ mk ≤ s.cnt ∧ q3 = true
   ·obtain ⟨rfl,e2,rfl⟩:=e
    rw [decide_eq_true e2,Bool.true_and,Bool.true_and,Bool.true_and]
    refine fi Tryz.func23 Tryz.ntmps23 ?_
    (refine Cx a1 a2 a3 a4 a5 a6 a7 ?_;repeat' first|apply ai|refine aj fun hc=>?_)
    clear a1 a2 a3 a4 a5 a6 a7
    refine an (X:=Nat) (fun i=>i ≤ s.its.length ∧ (s.its.take i).all (fun x=>bA s.flt x.key && bv s.know x.key x.rep x.cnt) = true) (fun i=>ba [(1,.ptr 1 0 0),(3,iC .i64 (i:Nat))] [(1,.box 26 ((nc s).map Cnt.per))]) (fun i=>s.its.length - i) 0 ⟨Nat.zero_le _,rfl⟩ ?_ ?_
    ·exact ae
    ·rintro i ⟨h1,h2⟩
     by_cases hi:i < s.its.length
     ·have hk:=b5 _ (List.getElem_mem hi)
      have c8:=a8 s.its[i].key hk
      have c9:=a9 s.its[i].key s.its[i].rep s.its[i].cnt hk
      have hsn:(s.its.take (i + 1)).all (fun x=>bA s.flt x.key && bv s.know x.key x.rep x.cnt) = (bA s.flt s.its[i].key && bv s.know s.its[i].key s.its[i].rep s.its[i].cnt):=by
       rw [aJ _ i hi,List.all_append,h2];simp
      have hno:(bA s.flt s.its[i].key && bv s.know s.its[i].key s.its[i].rep s.its[i].cnt) = false → s.its.all (fun x=>bA s.flt x.key && bv s.know x.key x.rep x.cnt) = false:=fun q=>by
       rw [← Bool.not_eq_true,List.all_eq_true]
       exact fun w=>by have:=w _ (List.getElem_mem hi);rw [q] at this;cases this
      clear a8 a9 h2
      generalize bA s.flt s.its[i].key = x1 at *
      generalize bv s.know s.its[i].key s.its[i].rep s.its[i].cnt = x2 at *
      cases x1 with
      | false=>
       rw [hno rfl]
       clear hno hsn
       (refine aL c8 c9 ?_;repeat' first|apply ai|refine aj fun hc=>?_)
       refine aU ?_
       exact af rfl rfl
      | true=>
       cases x2 with
       | false=>
        rw [hno rfl]
        clear hno hsn
        (refine aL c8 c9 ?_;repeat' first|apply ai|refine aj fun hc=>?_)
        refine aU ?_
        exact af rfl rfl
       | true=>
        clear hno
        (refine aL c8 c9 ?_;repeat' first|apply ai|refine aj fun hc=>?_)
        refine ⟨i + 1,⟨by omega,hsn⟩,by omega,?_⟩
        exact ae
     ·rw [List.take_of_length_le (by omega)] at h2
      rw [h2]
      clear a8 a9 b5
      (refine w0 ?_;repeat' first|apply ai|refine aj fun hc=>?_)
      refine aU ?_
      exact af rfl rfl
   ·have hf:(q1 && decide (mk ≤ s.cnt) && q3 && s.its.all (fun x=>bA s.flt x.key && bv s.know x.key x.rep x.cnt)) = false:=by
     rw [← Bool.not_eq_true]
     simp only [Bool.and_eq_true,decide_eq_true_eq]
     exact fun w=>e ⟨w.1.1.1,w.1.1.2,w.1.2⟩
    rw [hf]
    clear hf a8 a9 b5
    refine fi Tryz.func23 Tryz.ntmps23 ?_
    (refine Cx a1 a2 a3 a4 a5 a6 a7 ?_;repeat' first|apply ai|refine aj fun hc=>?_)
    all_goals first|(exfalso;exact e ⟨by assumption,by omega,by assumption⟩)|skip
    all_goals refine aU ?_
    all_goals exact af rfl rfl
  ·have hf:f0 s = false:=by
    rw [← Bool.not_eq_true]
    unfold f0
    simp only [Bool.and_eq_true,decide_eq_true_eq]
    exact fun w=>c2 ⟨w.1.1.1.1.1.1.2,w.1.1.1.1.1.1.1.2,w.1.1.1.1.1.2,w.1.1.1.1.2⟩
   rw [hf]
   have c2':¬ (decide (dr s.flt) = true ∧ s.its.length ≤ 4096 ∧ du s.its = true ∧ decide (aY s.know) = true):=by
    rw [decide_eq_true_eq,decide_eq_true_eq];exact c2
   clear hf c2 b2 b5
   generalize decide (dr s.flt) = d1 at *
   generalize du s.its = d3 at *
   generalize decide (aY s.know) = d4 at *
   refine fi Tryz.func23 Tryz.ntmps23 ?_
   (refine eX a1 a2 a3 ?_;repeat' first|apply ai|refine aj fun hc=>?_)
   all_goals first|(exfalso;exact c2' ⟨by assumption,by omega,by assumption,by assumption⟩)|skip
   all_goals refine aU ?_
   all_goals exact af rfl rfl
 ·have hf:f0 s = false:=by
   rw [← Bool.not_eq_true]
   unfold f0
   simp only [Bool.and_eq_true,decide_eq_true_eq]
   exact fun w=>c1 ⟨w.1.1.1.1.1.1.1.1.1,w.1.1.1.1.1.1.1.1.2⟩
  rw [hf]
  clear hf a1 a2 a3 b2 b5
  refine fi Tryz.func23 Tryz.ntmps23 ?_
  (refine w0 ?_;repeat' first|apply ai|refine aj fun hc=>?_)
  all_goals first|(exfalso;exact c1 ⟨⟨by omega,by omega⟩,by omega,by omega⟩)|skip
  all_goals refine aU ?_
  all_goals exact af rfl rfl
end
end Go.Proofs.YtliiahjpiagdkaaGreat
