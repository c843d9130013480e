/- Texts joined: StO. -/
import Derived.Test.YtembiemaiacdfaaGreatJ36
import Derived.Test.YtembiemaiacdfaaGreatJ37
import Derived.Test.YtembiemaiacdfaaGreatJ05
set_option maxRecDepth 10000
set_option maxHeartbeats 8000000
namespace Go.Proofs.YtembiemaiacdfaaGreat
open Go.RowKit
section
theorem C5 (a:List Pc) (f:List Rg) (s:ByteArray) (ha:b0 a) (hf:f.length ≤ 1000000) (hs:s.size ≤ 1000000000):Fn Tryz.prog 98 [iC .i64 3,bS a,bS [],dg f,sC s] (kx (iH a f s)):=by
 have h1:=zm a s ha hs
 have h2:=k4 f s (by omega) hs
 unfold iH
 clear ha
 cases hr:bg f s with
 | true=>
   rw [hr] at h2
   rw [if_pos rfl]
   generalize fh a s = A at *
   refine fi Tryz.func98 Tryz.ntmps98 ?_
   (have ko1:=h1;have kc1:=h2;refine w0 ?_;(repeat' first|refine W2.mk ?_ ?_|refine W1.mk fun hc=>?_);all_goals clear kc1 ko1)
   refine aQ ?_
   exact cv rfl rfl rfl
 | false=>
   rw [hr] at h2
   rw [if_neg (by simp)]
   clear h1
   refine fi Tryz.func98 Tryz.ntmps98 ?_
   (have kc1:=h2;refine w0 ?_;(repeat' first|refine W2.mk ?_ ?_|refine W1.mk fun hc=>?_);all_goals clear kc1)
   refine aQ ?_
   exact cv rfl rfl rfl
theorem kt (k:List Pc) (f:List Rg) (hk:b0 k) (hl:k.length ≤ 500000) (hf:f.length ≤ 400000):Fn Tryz.prog 40 [bS k,dg f] (k5 (aR k f)):=by
 have e:gF [emB] (bB k ++ (bB [] ++ f)) = kn k f:=rfl
 have h1:=s7 3 k [] f (iH k f) hl (by simp) hf (fun s hs=>C5 k f s hk (by omega) (by
   rw [e] at hs
   have:=uo k f s hs;omega)) (fun s _=>(qN hk f s).sz)
 rw [e] at h1
 have h1:Fn Tryz.prog 51 [iC .i64 3,bS k,bS [],dg f] (k5 (aR k f)):=h1
 clear hk
 generalize aR k f = R at *
 refine fi Tryz.func40 Tryz.ntmps40 ?_
 (have kc1:=h1;refine w0 ?_;(repeat' first|refine W2.mk ?_ ?_|refine W1.mk fun hc=>?_);all_goals clear kc1)
 refine aQ ?_
 exact cv rfl rfl rfl
theorem jS (s:Sta) (hB:Ds s) :
   Fn Tryz.prog 9 [cY s] (bO (ef s)):=by
 obtain ⟨b1,b2,b3,b4,b5⟩:=hB
 have a1:=yD s.flt (by omega) (decide (cV s.flt)) (by simp)
 have a2:=wF s.its b5 (by omega) (cX s.its) im
 have a3:=oV s.know (bM b2) (decide (aO s.know)) (by simp)
 by_cases c1:(1 ≤ s.id ∧ s.id ≤ 16) ∧ (0 ≤ s.cnt ∧ s.cnt ≤ 1099511627776)
 · by_cases c2:cV s.flt ∧ s.its.length ≤ 4096 ∧ cX s.its = true ∧ aO s.know
   · obtain ⟨d1,d2,d3,d4⟩:=c2
     have hall:s.its.all itR = true:=by unfold cX at d3;rw [Bool.and_eq_true] at d3;exact d3.1
     have hT:ef s = (decide (aR s.know s.flt = s.know) && decide (ee s.know s.id ≤ s.cnt) && dF s.its && s.its.all (fun x=>bg s.flt x.key && aZ s.know x.key x.rep x.cnt)):=by
       unfold ef
       rw [decide_eq_true c1.1,decide_eq_true c1.2,decide_eq_true d1,decide_eq_true d2,d3,decide_eq_true d4]
       simp
     rw [hT]
     clear hT
     rw [decide_eq_true d1] at a1
     rw [d3] at a2
     rw [decide_eq_true d4] at a3
     have a4:=(kt s.know s.flt b2 b3 (by omega)).frz
     have hmid:eV (aR s.know s.flt):=wW b2 (by omega)
     have a5:=mw (aR s.know s.flt) s.know hmid
     have a6:=xw s.know s.id b2
     have a7:=sZ s.its b4
     have a8:∀ x:ByteArray,x.size ≤ 1000000000 → Fn Tryz.prog 43 [dg s.flt,sC x] (bO (bg s.flt x)):=fun x hx=>k4 s.flt x (by omega) hx
     have a9:∀ (x:ByteArray) (r c:Int),x.size ≤ 1000000000 → Fn Tryz.prog 44 [bS s.know,sC x,lZ r c] (bO (aZ s.know x r c)):=fun x r c hx=>nl s.know x r c (bM b2) hx
     clear hall d1 d3 d4 hmid b2
     generalize aR s.know s.flt = RK at *
     generalize hq1:decide (RK = s.know) = q1 at *
     generalize hq2:ee s.know s.id = mk at *
     generalize dF s.its = q3 at *
     clear hq1 hq2
     by_cases e:q1 = true ∧ mk ≤ s.cnt ∧ q3 = true
     · obtain ⟨rfl,e2,rfl⟩:=e
       rw [decide_eq_true e2,Bool.true_and,Bool.true_and,Bool.true_and]
       refine fi Tryz.func9 Tryz.ntmps9 ?_
       (have kc1:=a1;have kc2:=a2;have kc3:=a3;have kc4:=a4;have kc5:=a5;have kc6:=a6;have kc7:=a7;refine w0 ?_;(repeat' first|refine W2.mk ?_ ?_|refine W1.mk fun hc=>?_);all_goals clear kc7 kc6 kc5 kc4 kc3 kc2 kc1)
       clear a1 a2 a3 a4 a5 a6 a7
       refine ah (X:=Nat) (fun i=>i ≤ s.its.length ∧ (s.its.take i).all (fun x=>bg s.flt x.key && aZ s.know x.key x.rep x.cnt) = true) (fun i=>aN [(1,.ptr 1 0 0),(3,iC .i64 (i:Nat))] [(1,.box 26 ((o6 s).map Cnt.per))]) (fun i=>s.its.length - i) 0 ⟨Nat.zero_le _,rfl⟩ ?_ ?_
       · exact ab
       · rintro i ⟨h1,h2⟩
         by_cases hi:i < s.its.length
         · have hk:=b5 _ (List.getElem_mem hi)
           have c8:=a8 s.its[i].key hk
           have c9:=a9 s.its[i].key s.its[i].rep s.its[i].cnt hk
           have hsn:(s.its.take (i + 1)).all (fun x=>bg s.flt x.key && aZ s.know x.key x.rep x.cnt) = (bg s.flt s.its[i].key && aZ s.know s.its[i].key s.its[i].rep s.its[i].cnt):=by
             rw [aJ _ i hi,List.all_append,h2];simp
           have hno:(bg s.flt s.its[i].key && aZ s.know s.its[i].key s.its[i].rep s.its[i].cnt) = false → s.its.all (fun x=>bg s.flt x.key && aZ s.know x.key x.rep x.cnt) = false:=fun q=>by
             rw [← Bool.not_eq_true,List.all_eq_true]
             exact fun w=>by have:=w _ (List.getElem_mem hi);rw [q] at this;cases this
           clear a8 a9 h2
           generalize bg s.flt s.its[i].key = x1 at *
           generalize aZ s.know s.its[i].key s.its[i].rep s.its[i].cnt = x2 at *
           cases x1 with
           | false=>
             rw [hno rfl]
             clear hno hsn
             (have kc1:=c8;have kc2:=c9;refine w0 ?_;(repeat' first|refine W2.mk ?_ ?_|refine W1.mk fun hc=>?_);all_goals clear kc2 kc1)
             refine aQ ?_
             exact af rfl rfl
           | true=>
             cases x2 with
             | false=>
               rw [hno rfl]
               clear hno hsn
               (have kc1:=c8;have kc2:=c9;refine w0 ?_;(repeat' first|refine W2.mk ?_ ?_|refine W1.mk fun hc=>?_);all_goals clear kc2 kc1)
               refine aQ ?_
               exact af rfl rfl
             | true=>
               clear hno
               (have kc1:=c8;have kc2:=c9;refine w0 ?_;(repeat' first|refine W2.mk ?_ ?_|refine W1.mk fun hc=>?_);all_goals clear kc2 kc1)
               refine ⟨i + 1,⟨by omega,hsn⟩,by omega,?_⟩
               exact ab
         · rw [List.take_of_length_le (by omega)] at h2
           rw [h2]
           clear a8 a9 b5
           (refine w0 ?_;(repeat' first|refine W2.mk ?_ ?_|refine W1.mk fun hc=>?_))
           refine aQ ?_
           exact af rfl rfl
     · have hf:(q1 && decide (mk ≤ s.cnt) && q3 && s.its.all (fun x=>bg s.flt x.key && aZ s.know x.key x.rep x.cnt)) = false:=by
         rw [← Bool.not_eq_true]
         simp only [Bool.and_eq_true,decide_eq_true_eq]
         exact fun w=>e ⟨w.1.1.1,w.1.1.2,w.1.2⟩
       rw [hf]
       clear hf a8 a9 b5
       refine fi Tryz.func9 Tryz.ntmps9 ?_
       (have kc1:=a1;have kc2:=a2;have kc3:=a3;have kc4:=a4;have kc5:=a5;have kc6:=a6;have kc7:=a7;refine w0 ?_;(repeat' first|refine W2.mk ?_ ?_|refine W1.mk fun hc=>?_);all_goals clear kc7 kc6 kc5 kc4 kc3 kc2 kc1)
       all_goals first|(exfalso;exact e ⟨by assumption,by omega,by assumption⟩)|skip
       all_goals refine aQ ?_
       all_goals exact af rfl rfl
   · have hf:ef s = false:=by
       rw [← Bool.not_eq_true]
       unfold ef
       simp only [Bool.and_eq_true,decide_eq_true_eq]
       exact fun w=>c2 ⟨w.1.1.1.1.1.1.2,w.1.1.1.1.1.1.1.2,w.1.1.1.1.1.2,w.1.1.1.1.2⟩
     rw [hf]
     have c2':¬ (decide (cV s.flt) = true ∧ s.its.length ≤ 4096 ∧ cX s.its = true ∧ decide (aO s.know) = true):=by
       rw [decide_eq_true_eq,decide_eq_true_eq];exact c2
     clear hf c2 b2 b5
     generalize decide (cV s.flt) = d1 at *
     generalize cX s.its = d3 at *
     generalize decide (aO s.know) = d4 at *
     refine fi Tryz.func9 Tryz.ntmps9 ?_
     (have kc1:=a1;have kc2:=a2;have kc3:=a3;refine w0 ?_;(repeat' first|refine W2.mk ?_ ?_|refine W1.mk fun hc=>?_);all_goals clear kc3 kc2 kc1)
     all_goals first|(exfalso;exact c2' ⟨by assumption,by omega,by assumption,by assumption⟩)|skip
     all_goals refine aQ ?_
     all_goals exact af rfl rfl
 · have hf:ef s = false:=by
     rw [← Bool.not_eq_true]
     unfold ef
     simp only [Bool.and_eq_true,decide_eq_true_eq]
     exact fun w=>c1 ⟨w.1.1.1.1.1.1.1.1.1,w.1.1.1.1.1.1.1.1.2⟩
   rw [hf]
   clear hf a1 a2 a3 b2 b5
   refine fi Tryz.func9 Tryz.ntmps9 ?_
   (refine w0 ?_;(repeat' first|refine W2.mk ?_ ?_|refine W1.mk fun hc=>?_))
   all_goals first|(exfalso;exact c1 ⟨⟨by omega,by omega⟩,by omega,by omega⟩)|skip
   all_goals refine aQ ?_
   all_goals exact af rfl rfl
end
end Go.Proofs.YtembiemaiacdfaaGreat
