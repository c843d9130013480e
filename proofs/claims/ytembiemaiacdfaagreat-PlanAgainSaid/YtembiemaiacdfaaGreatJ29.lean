/- Texts joined: StA. -/
import Derived.Test.YtembiemaiacdfaaGreatJ28
import Derived.Test.YtembiemaiacdfaaGreatJ20
import Derived.Test.YtembiemaiacdfaaGreatJ05
set_option maxRecDepth 10000
set_option maxHeartbeats 8000000
namespace Go.Proofs.YtembiemaiacdfaaGreat
open Go.RowKit
abbrev stCs (s:Sta):List PV:=[rawP (.int .i64 s.id),rgsP s.flt,itsP s.its,pcsP s.know,rawP (.int .i64 s.cnt)]
abbrev stP (s:Sta):PV:=aggP (stCs s)
abbrev stC (s:Sta):Cnt:=.per (stP s)
theorem listB_iff {l:List It}:listB l = true ↔ listOk l:=by
 unfold listB
 rw [Bool.and_eq_true,decide_eq_true_eq,List.all_eq_true]
 constructor
 · rintro ⟨h1,h2⟩ i hi
   refine ⟨h1 _ (List.getElem_mem hi),fun h0=>?_⟩
   rw [List.pairwise_iff_getElem] at h2
   have:=h2 (i - 1) i (by simp;omega) (by simpa using hi) (by omega)
   simp only [List.getElem_map] at this
   exact (o_lt _ _).2 this
 · intro h
   refine ⟨listOk_right h,?_⟩
   have hu:=listOk_up h
   unfold Up at hu
   rw [List.pairwise_map]
   refine hu.imp fun {x y} q=>?_
   rw [ltK_t] at q
   exact (o_lt _ _).1 q
/-- bounds of a state -/
structure StB (s:Sta):Prop where
 flt:s.flt.length ≤ 100000
 kmid:pcsMid s.know
 kl:s.know.length ≤ 500000
 its:s.its.length ≤ 1000000
 keys:kOk s.its
theorem pcsOk_at:∀ {l:List Pc},pcsOk l → ∀ p ∈ l,p.set ≠ [] ∧ ∃ s,getK l s = p.set:=by
 intro l
 induction l with
 | nil=>intro _ p hp;cases hp
 | cons q l ih=>
   intro h p hp
   rcases List.mem_cons.1 hp with rfl|hp
   · obtain ⟨h1,h2⟩:=getK_first h
     exact ⟨h2,_,h1⟩
   · obtain ⟨h1,s,h2⟩:=ih ((pcsOk_cons q l).1 h).2.2 p hp
     refine ⟨h1,s,?_⟩
     obtain ⟨h3,h4⟩:=pcsOk_low h (s:=s) (by rw [h2];exact h1)
     rw [getK_out,h2]
     unfold rgHas
     rw [h3]
     simp only [Bool.false_or,Bool.and_eq_true,decide_eq_true_eq]
     grind
theorem restK_sz {k:List Pc} {f:List Rg} (hk:pcsMid k) (hf:f.length ≤ 100000000):pcsSz (restK k f):=by
 refine ⟨?_,fun p hp=>?_⟩
 · have h1:=bldK_len (resF k f) (resE k f)
   have h2:=edgT_len (rgsOf k ++ f) [emB]
   have h3:=hk.1
   have h4:(rgsOf k).length = k.length:=by unfold rgsOf;simp
   rw [List.length_append,h4,List.length_singleton] at h2
   unfold restK
   have h5:(resE k f).length = (edgT [emB] (rgsOf k ++ f)).length:=rfl
   omega
 · obtain ⟨h1,h2⟩:=restK_ok k f
   obtain ⟨_,s,h3⟩:=pcsOk_at h1 p hp
   rw [← h3,h2]
   exact resF_tot hk f s
section
theorem st_Right (s:Sta) (hB:StB s) :
   Fn Tryz.prog 64 [stC s] (boR (stR s)):=by
 obtain ⟨b1,b2,b3,b4,b5⟩:=hB
 have a1:=rgs_Right s.flt (by omega) (decide (rgsOk s.flt)) (by simp)
 have a2:=item_List s.its b5 (by omega) (listB s.its) listB_iff
 have a3:=know_Right s.know (pcsMid_sz b2) (decide (pcsOk s.know)) (by simp)
 by_cases c1:(1 ≤ s.id ∧ s.id ≤ 16) ∧ (0 ≤ s.cnt ∧ s.cnt ≤ 1099511627776)
 · by_cases c2:rgsOk s.flt ∧ s.its.length ≤ 4096 ∧ listB s.its = true ∧ pcsOk s.know
   · obtain ⟨d1,d2,d3,d4⟩:=c2
     have hall:s.its.all itR = true:=by unfold listB at d3;rw [Bool.and_eq_true] at d3;exact d3.1
     have hT:stR s = (decide (restK s.know s.flt = s.know) && decide (mostK s.know s.id ≤ s.cnt) && apartB s.its && s.its.all (fun x=>anyR s.flt x.key && hasPb s.know x.key x.rep x.cnt)):=by
       unfold stR
       rw [decide_eq_true c1.1,decide_eq_true c1.2,decide_eq_true d1,decide_eq_true d2,d3,decide_eq_true d4]
       simp
     rw [hT]
     clear hT
     rw [decide_eq_true d1] at a1
     rw [d3] at a2
     rw [decide_eq_true d4] at a3
     have a4:=(kn_Restrict s.know s.flt b2 d1 b1 b3 (rgs_OfR s.flt d1 (by omega))).frz
     have hmid:pcsSz (restK s.know s.flt):=restK_sz b2 (by omega)
     have a5:=kn_SameR (restK s.know s.flt) s.know hmid (pcsMid_sz b2) (restK_ok _ _).1 d4
     have a6:=st_most s.know s.id (pcsMid_sz b2)
     have a7:=st_apart s.its hall b4
     have a8:∀ x:ByteArray,x.size ≤ 1000000000 → Fn Tryz.prog 80 [.per (rgsP s.flt),sC x] (boR (anyR s.flt x)):=fun x hx=>rgs_HasR s.flt x d1 (by omega) hx
     have a9:∀ (x:ByteArray) (r c:Int),x.size ≤ 1000000000 → Fn Tryz.prog 54 [pcsB s.know,sC x,vrC r c] (boR (hasPb s.know x r c)):=fun x r c hx=>kn_Has s.know x r c (pcsMid_sz b2) hx
     clear hall d1 d3 d4 hmid b2
     generalize restK s.know s.flt = RK at *
     generalize hq1:decide (RK = s.know) = q1 at *
     generalize hq2:mostK s.know s.id = mk at *
     generalize apartB s.its = q3 at *
     clear hq1 hq2
     by_cases e:q1 = true ∧ mk ≤ s.cnt ∧ q3 = true
     · obtain ⟨rfl,e2,rfl⟩:=e
       rw [decide_eq_true e2,Bool.true_and,Bool.true_and,Bool.true_and]
       refine fi Tryz.func64 Tryz.ntmps64 ?_
       (have kc1:=a1;have kc2:=a2;have kc3:=a3;have kc4:=a4;have kc5:=a5;have kc6:=a6;have kc7:=a7;refine w0 ?_;(repeat' first|refine W2.mk ?_ ?_|refine W1.mk fun hc=>?_);all_goals clear kc7 kc6 kc5 kc4 kc3 kc2 kc1)
       clear a1 a2 a3 a4 a5 a6 a7
       refine AW_loopP (X:=Nat) (fun i=>i ≤ s.its.length ∧ (s.its.take i).all (fun x=>anyR s.flt x.key && hasPb s.know x.key x.rep x.cnt) = true) (fun i=>mkSt [(1,.ptr 1 0 0),(72,.per (itsP s.its)),(73,iC .i64 (s.its.length:Nat)),(74,iC .i64 (i:Nat))] [(1,.box 26 ((stCs s).map Cnt.per))]) (fun i=>s.its.length - i) 0 ⟨Nat.zero_le _,rfl⟩ ?_ ?_
       · exact le_auto
       · rintro i ⟨h1,h2⟩
         by_cases hi:i < s.its.length
         · have hk:=b5 _ (List.getElem_mem hi)
           have c8:=a8 s.its[i].key hk
           have c9:=a9 s.its[i].key s.its[i].rep s.its[i].cnt hk
           have hsn:(s.its.take (i + 1)).all (fun x=>anyR s.flt x.key && hasPb s.know x.key x.rep x.cnt) = (anyR s.flt s.its[i].key && hasPb s.know s.its[i].key s.its[i].rep s.its[i].cnt):=by
             rw [take_snoc' _ i hi,List.all_append,h2];simp
           have hno:(anyR s.flt s.its[i].key && hasPb s.know s.its[i].key s.its[i].rep s.its[i].cnt) = false → s.its.all (fun x=>anyR s.flt x.key && hasPb s.know x.key x.rep x.cnt) = false:=fun q=>by
             rw [← Bool.not_eq_true,List.all_eq_true]
             exact fun w=>by have:=w _ (List.getElem_mem hi);rw [q] at this;cases this
           clear a8 a9 h2
           generalize anyR s.flt s.its[i].key = x1 at *
           generalize hasPb s.know s.its[i].key s.its[i].rep s.its[i].cnt = x2 at *
           cases x1 with
           | false=>
             rw [hno rfl]
             clear hno hsn
             (have kc1:=c8;have kc2:=c9;refine w0 ?_;(repeat' first|refine W2.mk ?_ ?_|refine W1.mk fun hc=>?_);all_goals clear kc2 kc1)
             refine rt1 ?_
             exact rv_bool rfl rfl
           | true=>
             cases x2 with
             | false=>
               rw [hno rfl]
               clear hno hsn
               (have kc1:=c8;have kc2:=c9;refine w0 ?_;(repeat' first|refine W2.mk ?_ ?_|refine W1.mk fun hc=>?_);all_goals clear kc2 kc1)
               refine rt1 ?_
               exact rv_bool rfl rfl
             | true=>
               clear hno
               (have kc1:=c8;have kc2:=c9;refine w0 ?_;(repeat' first|refine W2.mk ?_ ?_|refine W1.mk fun hc=>?_);all_goals clear kc2 kc1)
               refine ⟨i + 1,⟨by omega,hsn⟩,by omega,?_⟩
               exact le_auto
         · rw [List.take_of_length_le (by omega)] at h2
           rw [h2]
           clear a8 a9 b5
           (refine w0 ?_;(repeat' first|refine W2.mk ?_ ?_|refine W1.mk fun hc=>?_))
           refine rt1 ?_
           exact rv_bool rfl rfl
     · have hf:(q1 && decide (mk ≤ s.cnt) && q3 && s.its.all (fun x=>anyR s.flt x.key && hasPb s.know x.key x.rep x.cnt)) = false:=by
         rw [← Bool.not_eq_true]
         simp only [Bool.and_eq_true,decide_eq_true_eq]
         exact fun w=>e ⟨w.1.1.1,w.1.1.2,w.1.2⟩
       rw [hf]
       clear hf a8 a9 b5
       refine fi Tryz.func64 Tryz.ntmps64 ?_
       (have kc1:=a1;have kc2:=a2;have kc3:=a3;have kc4:=a4;have kc5:=a5;have kc6:=a6;have kc7:=a7;refine w0 ?_;(repeat' first|refine W2.mk ?_ ?_|refine W1.mk fun hc=>?_);all_goals clear kc7 kc6 kc5 kc4 kc3 kc2 kc1)
       all_goals first|(exfalso;exact e ⟨by assumption,by omega,by assumption⟩)|skip
       all_goals refine rt1 ?_
       all_goals exact rv_bool rfl rfl
   · have hf:stR s = false:=by
       rw [← Bool.not_eq_true]
       unfold stR
       simp only [Bool.and_eq_true,decide_eq_true_eq]
       exact fun w=>c2 ⟨w.1.1.1.1.1.1.2,w.1.1.1.1.1.1.1.2,w.1.1.1.1.1.2,w.1.1.1.1.2⟩
     rw [hf]
     have c2':¬ (decide (rgsOk s.flt) = true ∧ s.its.length ≤ 4096 ∧ listB s.its = true ∧ decide (pcsOk s.know) = true):=by
       rw [decide_eq_true_eq,decide_eq_true_eq];exact c2
     clear hf c2 b2 b5
     generalize decide (rgsOk s.flt) = d1 at *
     generalize listB s.its = d3 at *
     generalize decide (pcsOk s.know) = d4 at *
     refine fi Tryz.func64 Tryz.ntmps64 ?_
     (have kc1:=a1;have kc2:=a2;have kc3:=a3;refine w0 ?_;(repeat' first|refine W2.mk ?_ ?_|refine W1.mk fun hc=>?_);all_goals clear kc3 kc2 kc1)
     all_goals first|(exfalso;exact c2' ⟨by assumption,by omega,by assumption,by assumption⟩)|skip
     all_goals refine rt1 ?_
     all_goals exact rv_bool rfl rfl
 · have hf:stR s = false:=by
     rw [← Bool.not_eq_true]
     unfold stR
     simp only [Bool.and_eq_true,decide_eq_true_eq]
     exact fun w=>c1 ⟨w.1.1.1.1.1.1.1.1.1,w.1.1.1.1.1.1.1.1.2⟩
   rw [hf]
   clear hf a1 a2 a3 b2 b5
   refine fi Tryz.func64 Tryz.ntmps64 ?_
   (refine w0 ?_;(repeat' first|refine W2.mk ?_ ?_|refine W1.mk fun hc=>?_))
   all_goals first|(exfalso;exact c1 ⟨⟨by omega,by omega⟩,by omega,by omega⟩)|skip
   all_goals refine rt1 ?_
   all_goals exact rv_bool rfl rfl
end
end Go.Proofs.YtembiemaiacdfaaGreat
