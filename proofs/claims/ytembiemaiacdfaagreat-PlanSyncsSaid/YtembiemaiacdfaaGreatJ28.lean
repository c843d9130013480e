/- Texts joined: StA. -/
import Derived.Test.YtembiemaiacdfaaGreatJ27
import Derived.Test.YtembiemaiacdfaaGreatJ19
import Derived.Test.YtembiemaiacdfaaGreatJ05
set_option maxRecDepth 10000
set_option maxHeartbeats 8000000
namespace Go.Proofs.YtembiemaiacdfaaGreat
open Go.RowKit
abbrev o6 (s:Sta):List PV:=[aq (.int .i64 s.id),eB s.flt,cG s.its,ff s.know,aq (.int .i64 s.cnt)]
abbrev sL (s:Sta):PV:=bP (o6 s)
abbrev cY (s:Sta):Cnt:=.per (sL s)
theorem im {l:List It}:cX l = true ↔ qH l:=by
 unfold cX
 rw [Bool.and_eq_true,decide_eq_true_eq,List.all_eq_true]
 constructor
 · rintro ⟨h1,h2⟩ i hi
   refine ⟨h1 _ (List.getElem_mem hi),fun h0=>?_⟩
   rw [List.pairwise_iff_getElem] at h2
   have:=h2 (i - 1) i (by simp;omega) (by simpa using hi) (by omega)
   simp only [List.getElem_map] at this
   exact (eM _ _).2 this
 · intro h
   refine ⟨un h,?_⟩
   have hu:=oz h
   unfold Up at hu
   rw [List.pairwise_map]
   refine hu.imp fun {x y} q=>?_
   rw [gR] at q
   exact (eM _ _).1 q
structure Ds (s:Sta):Prop where
 flt:s.flt.length ≤ 100000
 kmid:b0 s.know
 kl:s.know.length ≤ 500000
 its:s.its.length ≤ 1000000
 keys:jG s.its
theorem ld:∀ {l:List Pc},aO l → ∀ p ∈ l,p.set ≠ [] ∧ ∃ s,cH l s = p.set:=by
 intro l
 induction l with
 | nil=>intro _ p hp;cases hp
 | cons q l ih=>
   intro h p hp
   rcases List.mem_cons.1 hp with rfl|hp
   · obtain ⟨h1,h2⟩:=f5 h
     exact ⟨h2,_,h1⟩
   · obtain ⟨h1,s,h2⟩:=ih ((cn q l).1 h).2.2 p hp
     refine ⟨h1,s,?_⟩
     obtain ⟨h3,h4⟩:=jE h (s:=s) (by rw [h2];exact h1)
     rw [dN,h2]
     unfold bL
     rw [h3]
     simp only [Bool.false_or,Bool.and_eq_true,decide_eq_true_eq]
     grind
theorem wW {k:List Pc} {f:List Rg} (hk:b0 k) (hf:f.length ≤ 100000000):eV (aR k f):=by
 refine ⟨?_,fun p hp=>?_⟩
 · have h1:=nc (iH k f) (kn k f)
   have h2:=jC (bB k ++ f) [emB]
   have h3:=hk.1
   have h4:(bB k).length = k.length:=by unfold bB;simp
   rw [List.length_append,h4,List.length_singleton] at h2
   unfold aR
   have h5:(kn k f).length = (gF [emB] (bB k ++ f)).length:=rfl
   omega
 · obtain ⟨h1,h2⟩:=dp k f
   obtain ⟨_,s,h3⟩:=ld h1 p hp
   rw [← h3,h2]
   exact qN hk f s
section
theorem qU (s:Sta) (hB:Ds s) :
   Fn Tryz.prog 64 [cY s] (bO (ef s)):=by
 obtain ⟨b1,b2,b3,b4,b5⟩:=hB
 have a1:=jA s.flt (by omega) (decide (cV s.flt)) (by simp)
 have a2:=sE s.its b5 (by omega) (cX s.its) im
 have a3:=iG s.know (bM b2) (decide (aO s.know)) (by simp)
 by_cases c1:(1 ≤ s.id ∧ s.id ≤ 16) ∧ (0 ≤ s.cnt ∧ s.cnt ≤ 1099511627776)
 · by_cases c2:cV s.flt ∧ s.its.length ≤ 4096 ∧ cX s.its = true ∧ aO s.know
   · obtain ⟨d1,d2,d3,d4⟩:=c2
     have hall:s.its.all itR = true:=by unfold cX at d3;rw [Bool.and_eq_true] at d3;exact d3.1
     have hT:ef s = (decide (aR s.know s.flt = s.know) && decide (ee s.know s.id ≤ s.cnt) && dF s.its && s.its.all (fun x=>bg s.flt x.key && aZ s.know x.key x.rep x.cnt)):=by
       unfold ef
       rw [decide_eq_true c1.1,decide_eq_true c1.2,decide_eq_true d1,decide_eq_true d2,d3,decide_eq_true d4]
       simp
     rw [hT]
     clear hT
     rw [decide_eq_true d1] at a1
     rw [d3] at a2
     rw [decide_eq_true d4] at a3
     have a4:=(lc s.know s.flt b2 d1 b1 b3 (ux s.flt d1 (by omega))).frz
     have hmid:eV (aR s.know s.flt):=wW b2 (by omega)
     have a5:=F8 (aR s.know s.flt) s.know hmid (bM b2) (dp _ _).1 d4
     have a6:=AV s.know s.id (bM b2)
     have a7:=wV s.its hall b4
     have a8:∀ x:ByteArray,x.size ≤ 1000000000 → Fn Tryz.prog 80 [.per (eB s.flt),sC x] (bO (bg s.flt x)):=fun x hx=>qL s.flt x d1 (by omega) hx
     have a9:∀ (x:ByteArray) (r c:Int),x.size ≤ 1000000000 → Fn Tryz.prog 54 [bS s.know,sC x,lZ r c] (bO (aZ s.know x r c)):=fun x r c hx=>uu s.know x r c (bM b2) hx
     clear hall d1 d3 d4 hmid b2
     generalize aR s.know s.flt = RK at *
     generalize hq1:decide (RK = s.know) = q1 at *
     generalize hq2:ee s.know s.id = mk at *
     generalize dF s.its = q3 at *
     clear hq1 hq2
     by_cases e:q1 = true ∧ mk ≤ s.cnt ∧ q3 = true
     · obtain ⟨rfl,e2,rfl⟩:=e
       rw [decide_eq_true e2,Bool.true_and,Bool.true_and,Bool.true_and]
       refine fi Tryz.func64 Tryz.ntmps64 ?_
       (have kc1:=a1;have kc2:=a2;have kc3:=a3;have kc4:=a4;have kc5:=a5;have kc6:=a6;have kc7:=a7;refine w0 ?_;(repeat' first|refine W2.mk ?_ ?_|refine W1.mk fun hc=>?_);all_goals clear kc7 kc6 kc5 kc4 kc3 kc2 kc1)
       clear a1 a2 a3 a4 a5 a6 a7
       refine ah (X:=Nat) (fun i=>i ≤ s.its.length ∧ (s.its.take i).all (fun x=>bg s.flt x.key && aZ s.know x.key x.rep x.cnt) = true) (fun i=>aN [(1,.ptr 1 0 0),(72,.per (cG s.its)),(73,iC .i64 (s.its.length:Nat)),(74,iC .i64 (i:Nat))] [(1,.box 26 ((o6 s).map Cnt.per))]) (fun i=>s.its.length - i) 0 ⟨Nat.zero_le _,rfl⟩ ?_ ?_
       · exact ab
       · rintro i ⟨h1,h2⟩
         by_cases hi:i < s.its.length
         · have hk:=b5 _ (List.getElem_mem hi)
           have c8:=a8 s.its[i].key hk
           have c9:=a9 s.its[i].key s.its[i].rep s.its[i].cnt hk
           have hsn:(s.its.take (i + 1)).all (fun x=>bg s.flt x.key && aZ s.know x.key x.rep x.cnt) = (bg s.flt s.its[i].key && aZ s.know s.its[i].key s.its[i].rep s.its[i].cnt):=by
             rw [aJ _ i hi,List.all_append,h2];simp
           have hno:(bg s.flt s.its[i].key && aZ s.know s.its[i].key s.its[i].rep s.its[i].cnt) = false → s.its.all (fun x=>bg s.flt x.key && aZ s.know x.key x.rep x.cnt) = false:=fun q=>by
             rw [← Bool.not_eq_true,List.all_eq_true]
             exact fun w=>by have:=w _ (List.getElem_mem hi);rw [q] at this;cases this
           clear a8 a9 h2
           generalize bg s.flt s.its[i].key = x1 at *
           generalize aZ s.know s.its[i].key s.its[i].rep s.its[i].cnt = x2 at *
           cases x1 with
           | false=>
             rw [hno rfl]
             clear hno hsn
             (have kc1:=c8;have kc2:=c9;refine w0 ?_;(repeat' first|refine W2.mk ?_ ?_|refine W1.mk fun hc=>?_);all_goals clear kc2 kc1)
             refine aQ ?_
             exact af rfl rfl
           | true=>
             cases x2 with
             | false=>
               rw [hno rfl]
               clear hno hsn
               (have kc1:=c8;have kc2:=c9;refine w0 ?_;(repeat' first|refine W2.mk ?_ ?_|refine W1.mk fun hc=>?_);all_goals clear kc2 kc1)
               refine aQ ?_
               exact af rfl rfl
             | true=>
               clear hno
               (have kc1:=c8;have kc2:=c9;refine w0 ?_;(repeat' first|refine W2.mk ?_ ?_|refine W1.mk fun hc=>?_);all_goals clear kc2 kc1)
               refine ⟨i + 1,⟨by omega,hsn⟩,by omega,?_⟩
               exact ab
         · rw [List.take_of_length_le (by omega)] at h2
           rw [h2]
           clear a8 a9 b5
           (refine w0 ?_;(repeat' first|refine W2.mk ?_ ?_|refine W1.mk fun hc=>?_))
           refine aQ ?_
           exact af rfl rfl
     · have hf:(q1 && decide (mk ≤ s.cnt) && q3 && s.its.all (fun x=>bg s.flt x.key && aZ s.know x.key x.rep x.cnt)) = false:=by
         rw [← Bool.not_eq_true]
         simp only [Bool.and_eq_true,decide_eq_true_eq]
         exact fun w=>e ⟨w.1.1.1,w.1.1.2,w.1.2⟩
       rw [hf]
       clear hf a8 a9 b5
       refine fi Tryz.func64 Tryz.ntmps64 ?_
       (have kc1:=a1;have kc2:=a2;have kc3:=a3;have kc4:=a4;have kc5:=a5;have kc6:=a6;have kc7:=a7;refine w0 ?_;(repeat' first|refine W2.mk ?_ ?_|refine W1.mk fun hc=>?_);all_goals clear kc7 kc6 kc5 kc4 kc3 kc2 kc1)
       all_goals first|(exfalso;exact e ⟨by assumption,by omega,by assumption⟩)|skip
       all_goals refine aQ ?_
       all_goals exact af rfl rfl
   · have hf:ef s = false:=by
       rw [← Bool.not_eq_true]
       unfold ef
       simp only [Bool.and_eq_true,decide_eq_true_eq]
       exact fun w=>c2 ⟨w.1.1.1.1.1.1.2,w.1.1.1.1.1.1.1.2,w.1.1.1.1.1.2,w.1.1.1.1.2⟩
     rw [hf]
     have c2':¬ (decide (cV s.flt) = true ∧ s.its.length ≤ 4096 ∧ cX s.its = true ∧ decide (aO s.know) = true):=by
       rw [decide_eq_true_eq,decide_eq_true_eq];exact c2
     clear hf c2 b2 b5
     generalize decide (cV s.flt) = d1 at *
     generalize cX s.its = d3 at *
     generalize decide (aO s.know) = d4 at *
     refine fi Tryz.func64 Tryz.ntmps64 ?_
     (have kc1:=a1;have kc2:=a2;have kc3:=a3;refine w0 ?_;(repeat' first|refine W2.mk ?_ ?_|refine W1.mk fun hc=>?_);all_goals clear kc3 kc2 kc1)
     all_goals first|(exfalso;exact c2' ⟨by assumption,by omega,by assumption,by assumption⟩)|skip
     all_goals refine aQ ?_
     all_goals exact af rfl rfl
 · have hf:ef s = false:=by
     rw [← Bool.not_eq_true]
     unfold ef
     simp only [Bool.and_eq_true,decide_eq_true_eq]
     exact fun w=>c1 ⟨w.1.1.1.1.1.1.1.1.1,w.1.1.1.1.1.1.1.1.2⟩
   rw [hf]
   clear hf a1 a2 a3 b2 b5
   refine fi Tryz.func64 Tryz.ntmps64 ?_
   (refine w0 ?_;(repeat' first|refine W2.mk ?_ ?_|refine W1.mk fun hc=>?_))
   all_goals first|(exfalso;exact c1 ⟨⟨by omega,by omega⟩,by omega,by omega⟩)|skip
   all_goals refine aQ ?_
   all_goals exact af rfl rfl
end
end Go.Proofs.YtembiemaiacdfaaGreat
