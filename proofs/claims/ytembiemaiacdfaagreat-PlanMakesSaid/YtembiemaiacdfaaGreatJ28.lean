/- Texts joined: StA. -/
import Derived.Test.YtembiemaiacdfaaGreatJ27
import Derived.Test.YtembiemaiacdfaaGreatJ19
import Derived.Test.YtembiemaiacdfaaGreatJ05
set_option maxRecDepth 10000
set_option maxHeartbeats 8000000
namespace Go.Proofs.YtembiemaiacdfaaGreat
open Go.RowKit
abbrev FF (s:Sta):List PV:=[ao (.int .i64 s.id),ef s.flt,da s.its,ip s.know,ao (.int .i64 s.cnt)]
abbrev Lc (s:Sta):PV:=bW (FF s)
abbrev iV (s:Sta):Cnt:=.per (Lc s)
theorem lp {l:List It}:fE l = true ↔ qt l:=by
 unfold fE
 rw [Bool.and_eq_true,decide_eq_true_eq,List.all_eq_true]
 constructor
 · rintro ⟨h1,h2⟩ i hi
   refine ⟨h1 _ (List.getElem_mem hi),fun h0=>?_⟩
   rw [List.pairwise_iff_getElem] at h2
   have:=h2 (i - 1) i (by simp;omega) (by simpa using hi) (by omega)
   simp only [List.getElem_map] at this
   exact (e9 _ _).2 this
 · intro h
   refine ⟨tQ h,?_⟩
   have hu:=og h
   unfold Up at hu
   rw [List.pairwise_map]
   refine hu.imp fun {x y} q=>?_
   rw [gI] at q
   exact (e9 _ _).1 q
structure Kl (s:Sta):Prop where
 flt:s.flt.length ≤ 100000
 kmid:cJ s.know
 kl:s.know.length ≤ 500000
 its:s.its.length ≤ 1000000
 keys:mo s.its
theorem qI:∀ {l:List Pc},bd l → ∀ p ∈ l,p.set ≠ [] ∧ ∃ s,cE l s = p.set:=by
 intro l
 induction l with
 | nil=>intro _ p hp;cases hp
 | cons q l ih=>
   intro h p hp
   rcases List.mem_cons.1 hp with rfl|hp
   · obtain ⟨h1,h2⟩:=fR h
     exact ⟨h2,_,h1⟩
   · obtain ⟨h1,s,h2⟩:=ih ((ce q l).1 h).2.2 p hp
     refine ⟨h1,s,?_⟩
     obtain ⟨h3,h4⟩:=js h (s:=s) (by rw [h2];exact h1)
     rw [dH,h2]
     unfold bR
     rw [h3]
     simp only [Bool.false_or,Bool.and_eq_true,decide_eq_true_eq]
     grind
theorem qJ {k:List Pc} {f:List Rg} (hk:cJ k) (hf:f.length ≤ 100000000):eZ (cY k f):=by
 refine ⟨?_,fun p hp=>?_⟩
 · have h1:=vO (jv k f) (j5 k f)
   have h2:=jr (bI k ++ f) [emB]
   have h3:=hk.1
   have h4:(bI k).length = k.length:=by unfold bI;simp
   rw [List.length_append,h4,List.length_singleton] at h2
   unfold cY
   have h5:(j5 k f).length = (gD [emB] (bI k ++ f)).length:=rfl
   omega
 · obtain ⟨h1,h2⟩:=m7 k f
   obtain ⟨_,s,h3⟩:=qI h1 p hp
   rw [← h3,h2]
   exact qB hk f s
section
theorem wm (s:Sta) (hB:Kl s) :
   Fn Tryz.prog 64 [iV s] (cU (ko s)):=by
 obtain ⟨b1,b2,b3,b4,b5⟩:=hB
 have a1:=jp s.flt (by omega) (decide (cG s.flt)) (by simp)
 have a2:=Bp s.its b5 (by omega) (fE s.its) lp
 have a3:=j2 s.know (cZ b2) (decide (bd s.know)) (by simp)
 by_cases c1:(1 ≤ s.id ∧ s.id ≤ 16) ∧ (0 ≤ s.cnt ∧ s.cnt ≤ 1099511627776)
 · by_cases c2:cG s.flt ∧ s.its.length ≤ 4096 ∧ fE s.its = true ∧ bd s.know
   · obtain ⟨d1,d2,d3,d4⟩:=c2
     have hall:s.its.all fx = true:=by unfold fE at d3;rw [Bool.and_eq_true] at d3;exact d3.1
     have hT:ko s = (decide (cY s.know s.flt = s.know) && decide (e7 s.know s.id ≤ s.cnt) && er s.its && s.its.all (fun x=>bn s.flt x.key && bZ s.know x.key x.rep x.cnt)):=by
       unfold ko
       rw [decide_eq_true c1.1,decide_eq_true c1.2,decide_eq_true d1,decide_eq_true d2,d3,decide_eq_true d4]
       simp
     rw [hT]
     clear hT
     rw [decide_eq_true d1] at a1
     rw [d3] at a2
     rw [decide_eq_true d4] at a3
     have a4:=(oI s.know s.flt b2 d1 b1 b3 (zY s.flt d1 (by omega))).frz
     have hmid:eZ (cY s.know s.flt):=qJ b2 (by omega)
     have a5:=Fr (cY s.know s.flt) s.know hmid (cZ b2) (m7 _ _).1 d4
     have a6:=IU s.know s.id (cZ b2)
     have a7:=FE s.its hall b4
     have a8:∀ x:ByteArray,x.size ≤ 1000000000 → Fn Tryz.prog 80 [.per (ef s.flt),sC x] (cU (bn s.flt x)):=fun x hx=>qx s.flt x d1 (by omega) hx
     have a9:∀ (x:ByteArray) (r c:Int),x.size ≤ 1000000000 → Fn Tryz.prog 54 [cQ s.know,sC x,oQ r c] (cU (bZ s.know x r c)):=fun x r c hx=>Fh s.know x r c (cZ b2) hx
     clear hall d1 d3 d4 hmid b2
     generalize cY s.know s.flt = RK at *
     generalize hq1:decide (RK = s.know) = q1 at *
     generalize hq2:e7 s.know s.id = mk at *
     generalize er s.its = q3 at *
     clear hq1 hq2
     by_cases e:q1 = true ∧ mk ≤ s.cnt ∧ q3 = true
     · obtain ⟨rfl,e2,rfl⟩:=e
       rw [decide_eq_true e2,Bool.true_and,Bool.true_and,Bool.true_and]
       refine fi Tryz.func64 Tryz.ntmps64 ?_
       (have kc1:=a1;have kc2:=a2;have kc3:=a3;have kc4:=a4;have kc5:=a5;have kc6:=a6;have kc7:=a7;refine w0 ?_;(repeat' first|refine W2.mk ?_ ?_|refine W1.mk fun hc=>?_);all_goals clear kc7 kc6 kc5 kc4 kc3 kc2 kc1)
       clear a1 a2 a3 a4 a5 a6 a7
       refine ah (X:=Nat) (fun i=>i ≤ s.its.length ∧ (s.its.take i).all (fun x=>bn s.flt x.key && bZ s.know x.key x.rep x.cnt) = true) (fun i=>aJ [(1,.ptr 1 0 0),(72,.per (da s.its)),(73,iC .i64 (s.its.length:Nat)),(74,iC .i64 (i:Nat))] [(1,.box 26 ((FF s).map Cnt.per))]) (fun i=>s.its.length - i) 0 ⟨Nat.zero_le _,rfl⟩ ?_ ?_
       · exact ab
       · rintro i ⟨h1,h2⟩
         by_cases hi:i < s.its.length
         · have hk:=b5 _ (List.getElem_mem hi)
           have c8:=a8 s.its[i].key hk
           have c9:=a9 s.its[i].key s.its[i].rep s.its[i].cnt hk
           have hsn:(s.its.take (i + 1)).all (fun x=>bn s.flt x.key && bZ s.know x.key x.rep x.cnt) = (bn s.flt s.its[i].key && bZ s.know s.its[i].key s.its[i].rep s.its[i].cnt):=by
             rw [aN _ i hi,List.all_append,h2];simp
           have hno:(bn s.flt s.its[i].key && bZ s.know s.its[i].key s.its[i].rep s.its[i].cnt) = false → s.its.all (fun x=>bn s.flt x.key && bZ s.know x.key x.rep x.cnt) = false:=fun q=>by
             rw [← Bool.not_eq_true,List.all_eq_true]
             exact fun w=>by have:=w _ (List.getElem_mem hi);rw [q] at this;cases this
           clear a8 a9 h2
           generalize bn s.flt s.its[i].key = x1 at *
           generalize bZ s.know s.its[i].key s.its[i].rep s.its[i].cnt = x2 at *
           cases x1 with
           | false=>
             rw [hno rfl]
             clear hno hsn
             (have kc1:=c8;have kc2:=c9;refine w0 ?_;(repeat' first|refine W2.mk ?_ ?_|refine W1.mk fun hc=>?_);all_goals clear kc2 kc1)
             refine aO ?_
             exact af rfl rfl
           | true=>
             cases x2 with
             | false=>
               rw [hno rfl]
               clear hno hsn
               (have kc1:=c8;have kc2:=c9;refine w0 ?_;(repeat' first|refine W2.mk ?_ ?_|refine W1.mk fun hc=>?_);all_goals clear kc2 kc1)
               refine aO ?_
               exact af rfl rfl
             | true=>
               clear hno
               (have kc1:=c8;have kc2:=c9;refine w0 ?_;(repeat' first|refine W2.mk ?_ ?_|refine W1.mk fun hc=>?_);all_goals clear kc2 kc1)
               refine ⟨i + 1,⟨by omega,hsn⟩,by omega,?_⟩
               exact ab
         · rw [List.take_of_length_le (by omega)] at h2
           rw [h2]
           clear a8 a9 b5
           (refine w0 ?_;(repeat' first|refine W2.mk ?_ ?_|refine W1.mk fun hc=>?_))
           refine aO ?_
           exact af rfl rfl
     · have hf:(q1 && decide (mk ≤ s.cnt) && q3 && s.its.all (fun x=>bn s.flt x.key && bZ s.know x.key x.rep x.cnt)) = false:=by
         rw [← Bool.not_eq_true]
         simp only [Bool.and_eq_true,decide_eq_true_eq]
         exact fun w=>e ⟨w.1.1.1,w.1.1.2,w.1.2⟩
       rw [hf]
       clear hf a8 a9 b5
       refine fi Tryz.func64 Tryz.ntmps64 ?_
       (have kc1:=a1;have kc2:=a2;have kc3:=a3;have kc4:=a4;have kc5:=a5;have kc6:=a6;have kc7:=a7;refine w0 ?_;(repeat' first|refine W2.mk ?_ ?_|refine W1.mk fun hc=>?_);all_goals clear kc7 kc6 kc5 kc4 kc3 kc2 kc1)
       all_goals first|(exfalso;exact e ⟨by assumption,by omega,by assumption⟩)|skip
       all_goals refine aO ?_
       all_goals exact af rfl rfl
   · have hf:ko s = false:=by
       rw [← Bool.not_eq_true]
       unfold ko
       simp only [Bool.and_eq_true,decide_eq_true_eq]
       exact fun w=>c2 ⟨w.1.1.1.1.1.1.2,w.1.1.1.1.1.1.1.2,w.1.1.1.1.1.2,w.1.1.1.1.2⟩
     rw [hf]
     have c2':¬ (decide (cG s.flt) = true ∧ s.its.length ≤ 4096 ∧ fE s.its = true ∧ decide (bd s.know) = true):=by
       rw [decide_eq_true_eq,decide_eq_true_eq];exact c2
     clear hf c2 b2 b5
     generalize decide (cG s.flt) = d1 at *
     generalize fE s.its = d3 at *
     generalize decide (bd s.know) = d4 at *
     refine fi Tryz.func64 Tryz.ntmps64 ?_
     (have kc1:=a1;have kc2:=a2;have kc3:=a3;refine w0 ?_;(repeat' first|refine W2.mk ?_ ?_|refine W1.mk fun hc=>?_);all_goals clear kc3 kc2 kc1)
     all_goals first|(exfalso;exact c2' ⟨by assumption,by omega,by assumption,by assumption⟩)|skip
     all_goals refine aO ?_
     all_goals exact af rfl rfl
 · have hf:ko s = false:=by
     rw [← Bool.not_eq_true]
     unfold ko
     simp only [Bool.and_eq_true,decide_eq_true_eq]
     exact fun w=>c1 ⟨w.1.1.1.1.1.1.1.1.1,w.1.1.1.1.1.1.1.1.2⟩
   rw [hf]
   clear hf a1 a2 a3 b2 b5
   refine fi Tryz.func64 Tryz.ntmps64 ?_
   (refine w0 ?_;(repeat' first|refine W2.mk ?_ ?_|refine W1.mk fun hc=>?_))
   all_goals first|(exfalso;exact c1 ⟨⟨by omega,by omega⟩,by omega,by omega⟩)|skip
   all_goals refine aO ?_
   all_goals exact af rfl rfl
end
end Go.Proofs.YtembiemaiacdfaaGreat
