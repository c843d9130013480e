/- Texts joined: Kc KcR Vs VsW. -/
import Derived.Test.YthlffkjpklpkfaaGreatJ13
import Derived.Test.YthlffkjpklpkfaaGreatJ07
set_option maxRecDepth 10000
set_option maxHeartbeats 8000000
namespace Go.Proofs.YthlffkjpklpkfaaGreat
open Go.RowKit
theorem ok2 {a b:Int} (h:okNum a) (h':okNum b):∀ n ∈ [a,b],okNum n:=fun n hn=>by
 simp only [List.mem_cons,List.not_mem_nil,or_false] at hn
 rcases hn with rfl|rfl <;> assumption
theorem fm2 (a b:Int):[a,b].flatMap numI = numI a ++ numI b:=by simp
theorem runs_rise {l:List Rn} (h:rnsOk l) {j:Nat} (hj:j + 1 < l.length):l[j].to ≤ l[j + 1].fr:=by
 have:=(h (j + 1) hj hj).2 (by omega)
 simp only [Nat.add_sub_cancel] at this
 omega
section
theorem kc_put (l:List UInt8) (ns:List Int) (hb:l.length + 9 * ns.length ≤ 1000000000000) (hok:∀ n ∈ ns,okNum n):Fn Tryz.prog 124 [bytesB l,intsB ns] (ownB (l ++ ns.flatMap numI)):=by
 have h:=varint_Put l ns hb hok
 refine fi Tryz.func124 Tryz.ntmps124 ?_
 (have kc1:=h;refine w0 ?_;(repeat' first|refine W2.mk ?_ ?_|refine W1.mk fun hc=>?_);all_goals clear kc1)
 refine rt1 ?_
 exact rv_own rfl rfl rfl
theorem kc_few (s:List Kn) (hs:s.length ≤ 1000000000) (hf:fewS s):Fn Tryz.prog 125 [knsB s] (boR true):=by
 refine fi Tryz.func125 Tryz.ntmps125 ?_
 (refine w0 ?_;(repeat' first|refine W2.mk ?_ ?_|refine W1.mk fun hc=>?_))
 refine AW_loopP (X:=Nat) (fun z=>z ≤ s.length) (fun z=>mkSt [(5,knsB s),(6,iC .i64 (s.length:Nat)),(7,iC .i64 (z:Nat))] []) (fun z=>s.length - z) 0 (Nat.zero_le _) ?_ ?_
 · exact le_auto
 · intro z hz
   by_cases hlt:z < s.length
   · have h1:=hf _ (List.getElem_mem hlt)
     (refine w0 ?_;(repeat' first|refine W2.mk ?_ ?_|refine W1.mk fun hc=>?_))
     refine ⟨z + 1,by omega,by omega,?_⟩
     exact le_auto
   · (refine w0 ?_;(repeat' first|refine W2.mk ?_ ?_|refine W1.mk fun hc=>?_))
     refine rt1 ?_
     exact rv_bool rfl rfl
theorem kc_set (b:List UInt8) (s:List Kn) (hb:b.length ≤ 100000000000) (hok:knsOk s) (hf:fewS s):Fn Tryz.prog 126 [bytesB b,knsB s] (ownB (b ++ setB s)):=by
 have hs16:=knsOk_len hok
 have c0:=kc_put b [(s.length:Int)] (by simp;omega) (ok_small (by omega) (by omega))
 have hn0:=numI_len (s.length:Int) (by omega)
 refine fi Tryz.func126 Tryz.ntmps126 ?_
 (have kc1:=c0;refine w0 ?_;(repeat' first|refine W2.mk ?_ ?_|refine W1.mk fun hc=>?_);all_goals clear kc1)
 refine AW_le (Le_mv 14 600) ?_
 refine AW_loopP (X:=Nat × List UInt8) (fun x=>x.1 ≤ s.length ∧ x.2.length ≤ b.length + 10 + 90000 * x.1 ∧ x.2 ++ (s.drop x.1).flatMap knB = b ++ setB s)
   (fun x=>mkSt [(0,.row 600 0),(15,knsB s),(16,iC .i64 (s.length:Nat)),(17,iC .i64 (x.1:Nat))] [(600,.row 5 1 (x.2.map byteP))]) (fun x=>s.length - x.1) (0,b ++ [(s.length:Int)].flatMap numI) ⟨Nat.zero_le _,by simp;omega,by simp [setB]⟩ ?_ ?_
 · exact le_auto
 · clear c0
   rintro ⟨k,acc⟩ ⟨h1,h2,h3⟩
   simp only at h1 h2 h3 ⊢
   by_cases hlt:k < s.length
   · obtain ⟨a1,a2,a3,a4⟩:=knsOk_get hok hlt
     have hfk:=hf _ (List.getElem_mem hlt)
     rw [List.drop_eq_getElem_cons hlt,List.flatMap_cons] at h3
     have c1:=kc_put acc [s[k].rep,(s[k].runs.length:Int)] (by simp;omega) (ok2 (by unfold okNum;omega) (by unfold okNum;omega))
     have n1:=numI_len s[k].rep (by omega)
     have n2:=numI_len (s[k].runs.length:Int) (by omega)
     clear hok hf
     (have kc1:=c1;refine w0 ?_;(repeat' first|refine W2.mk ?_ ?_|refine W1.mk fun hc=>?_);all_goals clear kc1)
     refine AW_le (Le_mv 28 600) ?_
     refine AW_loopP (X:=Nat × Int × List UInt8) (fun x=>x.1 ≤ s[k].runs.length ∧ 0 ≤ x.2.1 ∧ x.2.1 ≤ 1099511627776 ∧ (∀ h:x.1 < s[k].runs.length,x.2.1 ≤ s[k].runs[x.1].fr) ∧ x.2.2.length ≤ acc.length + 20 + 20 * x.1 ∧ x.2.2 ++ (runsB x.2.1 (s[k].runs.drop x.1) ++ (s.drop (k + 1)).flatMap knB) = b ++ setB s)
       (fun x=>mkSt [(0,.row 600 0),(7,iC .i64 x.2.1),(15,knsB s),(16,iC .i64 (s.length:Nat)),(17,iC .i64 (k:Nat)),(30,.per (rnsP s[k].runs)),(31,iC .i64 (s[k].runs.length:Nat)),(32,iC .i64 (x.1:Nat))] [(600,.row 5 1 (x.2.2.map byteP))])
       (fun x=>s[k].runs.length - x.1) (0,0,acc ++ [s[k].rep,(s[k].runs.length:Int)].flatMap numI) ⟨Nat.zero_le _,by simp,by simp,fun (h:0 < s[k].runs.length)=>show (0:Int) ≤ s[k].runs[0].fr from by have:=(rnsOk_get a4 h).1;omega,by simp only [fm2,List.length_append];omega,by rw [← h3];simp [knB]⟩ ?_ ?_
     · exact le_auto
     · clear h3 c1
       rintro ⟨j,was,acc'⟩ ⟨g1,g2,g3,g4,g5,g6⟩
       simp only at g1 g2 g3 g4 g5 g6 ⊢
       by_cases hj:j < s[k].runs.length
       · have hr:=rnsOk_get a4 hj
         have hw:=g4 hj
         have hrise:∀ h:j + 1 < s[k].runs.length,s[k].runs[j].to ≤ s[k].runs[j + 1].fr:=fun h=>runs_rise a4 h
         rw [List.drop_eq_getElem_cons hj,runsB] at g6
         have c2:=kc_put acc' [s[k].runs[j].fr - was,s[k].runs[j].to - s[k].runs[j].fr] (by simp;omega) (ok2 (by unfold okNum;omega) (by unfold okNum;omega))
         have n3:=numI_len (s[k].runs[j].fr - was) (by omega)
         have n4:=numI_len (s[k].runs[j].to - s[k].runs[j].fr) (by omega)
         clear a4 g4
         (have kc1:=c2;refine w0 ?_;(repeat' first|refine W2.mk ?_ ?_|refine W1.mk fun hc=>?_);all_goals clear kc1)
         refine ⟨(j + 1,s[k].runs[j].to,acc' ++ [s[k].runs[j].fr - was,s[k].runs[j].to - s[k].runs[j].fr].flatMap numI),⟨by simp only;omega,by simp only;omega,by simp only;omega,hrise,by simp only [fm2,List.length_append];omega,by rw [← g6];simp⟩,by simp only;omega,Le_trans (Le_mv 47 600) ?_⟩
         exact le_auto
       · rw [List.drop_of_length_le (by omega),runsB,List.nil_append] at g6
         clear a4 g4
         (refine w0 ?_;(repeat' first|refine W2.mk ?_ ?_|refine W1.mk fun hc=>?_))
         refine ⟨(k + 1,acc'),⟨by simp only;omega,by simp only;omega,g6⟩,by simp only;omega,?_⟩
         exact le_auto
   · rw [List.drop_of_length_le (by omega),List.flatMap_nil,List.append_nil] at h3
     (refine w0 ?_;(repeat' first|refine W2.mk ?_ ?_|refine W1.mk fun hc=>?_))
     refine rt1 ?_
     exact rv_ownM rfl rfl rfl h3
theorem rkc_Set (s:List Kn) (hok:knsOk s) (hf:fewS s):Fn Tryz.prog 96 [knsB s] (ownB (setB s)):=by
 have hs16:=knsOk_len hok
 have c0:=ref_Bytes (s.length:Int) (by unfold okNum;omega)
 have hn0:=numI_len (s.length:Int) (by omega)
 refine fi Tryz.func96 Tryz.ntmps96 ?_
 (have kc1:=c0;refine w0 ?_;(repeat' first|refine W2.mk ?_ ?_|refine W1.mk fun hc=>?_);all_goals clear kc1)
 refine AW_le (Le_mv 10 600) ?_
 refine AW_loopP (X:=Nat × List UInt8) (fun x=>x.1 ≤ s.length ∧ x.2.length ≤ 10 + 90000 * x.1 ∧ x.2 ++ (s.drop x.1).flatMap knB = setB s)
   (fun x=>mkSt [(0,knsB s),(3,.row 600 0),(4,iC .i64 (x.1:Nat))] [(600,.row 5 1 (x.2.map byteP))]) (fun x=>s.length - x.1) (0,numI (s.length:Int)) ⟨Nat.zero_le _,by simp only;omega,by simp [setB]⟩ ?_ ?_
 · exact le_auto
 · clear c0
   rintro ⟨k,acc⟩ ⟨h1,h2,h3⟩
   simp only at h1 h2 h3 ⊢
   by_cases hlt:k < s.length
   · obtain ⟨a1,a2,a3,a4⟩:=knsOk_get hok hlt
     have hfk:=hf _ (List.getElem_mem hlt)
     rw [List.drop_eq_getElem_cons hlt,List.flatMap_cons] at h3
     have c1:=ref_Put [s[k].rep,(s[k].runs.length:Int)] (by simp) (ok2 (by unfold okNum;omega) (by unfold okNum;omega))
     have n1:=numI_len s[k].rep (by omega)
     have n2:=numI_len (s[k].runs.length:Int) (by omega)
     clear hok hf
     (have kc1:=c1;refine w0 ?_;(repeat' first|refine W2.mk ?_ ?_|refine W1.mk fun hc=>?_);all_goals clear kc1)
     refine AW_loopP (X:=Nat × Int × List UInt8) (fun x=>x.1 ≤ s[k].runs.length ∧ 0 ≤ x.2.1 ∧ x.2.1 ≤ 1099511627776 ∧ (∀ h:x.1 < s[k].runs.length,x.2.1 ≤ s[k].runs[x.1].fr) ∧ x.2.2.length ≤ acc.length + 20 + 20 * x.1 ∧ x.2.2 ++ (runsB x.2.1 (s[k].runs.drop x.1) ++ (s.drop (k + 1)).flatMap knB) = setB s)
       (fun x=>mkSt [(0,knsB s),(3,.row 600 0),(4,iC .i64 (k:Nat)),(5,iC .i64 x.2.1),(6,iC .i64 (x.1:Nat))] [(600,.row 5 1 (x.2.2.map byteP))])
       (fun x=>s[k].runs.length - x.1) (0,0,acc ++ [s[k].rep,(s[k].runs.length:Int)].flatMap numI) ⟨Nat.zero_le _,by simp,by simp,fun (h:0 < s[k].runs.length)=>show (0:Int) ≤ s[k].runs[0].fr from by have:=(rnsOk_get a4 h).1;omega,by simp only [fm2,List.length_append];omega,by rw [← h3];simp [knB]⟩ ?_ ?_
     · exact le_auto
     · clear h3 c1
       rintro ⟨j,was,acc'⟩ ⟨g1,g2,g3,g4,g5,g6⟩
       simp only at g1 g2 g3 g4 g5 g6 ⊢
       by_cases hj:j < s[k].runs.length
       · have hr:=rnsOk_get a4 hj
         have hw:=g4 hj
         have hrise:∀ h:j + 1 < s[k].runs.length,s[k].runs[j].to ≤ s[k].runs[j + 1].fr:=fun h=>runs_rise a4 h
         rw [List.drop_eq_getElem_cons hj,runsB] at g6
         have c2:=ref_Put [s[k].runs[j].fr - was,s[k].runs[j].to - s[k].runs[j].fr] (by simp) (ok2 (by unfold okNum;omega) (by unfold okNum;omega))
         have n3:=numI_len (s[k].runs[j].fr - was) (by omega)
         have n4:=numI_len (s[k].runs[j].to - s[k].runs[j].fr) (by omega)
         clear a4 g4
         (have kc1:=c2;refine w0 ?_;(repeat' first|refine W2.mk ?_ ?_|refine W1.mk fun hc=>?_);all_goals clear kc1)
         refine ⟨(j + 1,s[k].runs[j].to,acc' ++ [s[k].runs[j].fr - was,s[k].runs[j].to - s[k].runs[j].fr].flatMap numI),⟨by simp only;omega,by simp only;omega,by simp only;omega,hrise,by simp only [fm2,List.length_append];omega,by rw [← g6];simp⟩,by simp only;omega,?_⟩
         exact le_auto
       · rw [List.drop_of_length_le (by omega),runsB,List.nil_append] at g6
         clear a4 g4
         (refine w0 ?_;(repeat' first|refine W2.mk ?_ ?_|refine W1.mk fun hc=>?_))
         refine ⟨(k + 1,acc'),⟨by simp only;omega,by simp only;omega,g6⟩,by simp only;omega,?_⟩
         exact le_auto
   · rw [List.drop_of_length_le (by omega),List.flatMap_nil,List.append_nil] at h3
     (refine w0 ?_;(repeat' first|refine W2.mk ?_ ?_|refine W1.mk fun hc=>?_))
     refine rt1 ?_
     exact rv_ownM rfl rfl rfl h3
end
theorem lsSt_all {α:Type} {st:List UInt8 → Int → α × List UInt8 × Int} {p:α → Prop} (h:∀ l e,p (st l e).1):∀ (n:Nat) (acc:List α) (l:List UInt8) (e:Int),(∀ x ∈ acc,p x) → ∀ x ∈ (lsSt st n acc l e).1,p x:=by
 intro n
 induction n with
 | zero=>intro acc l e ha;exact ha
 | succ n ih=>
   intro acc l e ha
   unfold lsSt
   split
   · exact ha
   · refine ih _ _ _ (fun x hx=>?_)
     rcases List.mem_append.1 hx with q|q
     · exact ha x q
     · simp at q;subst q;exact h l e
theorem lisSt_all {α:Type} {st:List UInt8 → Int → α × List UInt8 × Int} {p:α → Prop} (h:∀ l e,p (st l e).1) (most:Int) (l:List UInt8) (e:Int):∀ x ∈ (lisSt st most l e).1,p x:=lsSt_all h _ _ _ _ (by simp)
theorem knSt_few (l:List UInt8) (e:Int):(knSt l e).1.runs.length ≤ 4096:=by
 dsimp only [knSt]
 have h1:=rnsSt_len (withinSt 0 4096 (withinSt 1 16 l e).2.1 (withinSt 1 16 l e).2.2).1.toNat [] 0 (withinSt 0 4096 (withinSt 1 16 l e).2.1 (withinSt 1 16 l e).2.2).2.1 (withinSt 0 4096 (withinSt 1 16 l e).2.1 (withinSt 1 16 l e).2.2).2.2
 have h2:=within_rng0 (most:=4096) (by omega) (withinSt 1 16 l e).2.1 (withinSt 1 16 l e).2.2
 simp at h1
 omega
theorem lis_knSz (l:List UInt8) (e:Int):knsSz (lisSt knSt 16 l e).1 ∧ fewS (lisSt knSt 16 l e).1:=by
 have h1:=lisSt_len (st:=knSt) (most:=16) (by omega) l e
 have h2:=lisSt_all (p:=fun k:Kn=>k.runs.length ≤ 4096) knSt_few 16 l e
 exact ⟨⟨by omega,fun k hk=>by have:=h2 k hk;omega⟩,h2⟩
section
theorem kc_known (l:List UInt8) (e:Int):FnM Tryz.prog 179 [.aggK rdC .aggN] [(1000,rdBox l e)] (knC (knSt l e).1) [(1000,rdBox (knSt l e).2.1 (knSt l e).2.2)]:=by
 dsimp only [knSt]
 have h1:=r_Within l e 1 16
 generalize withinSt 1 16 l e = a at *
 obtain ⟨rep,l1,e1⟩:=a
 simp only at h1 ⊢
 have h2:=r_Within l1 e1 0 4096
 have hn:=within_rng0 (most:=4096) (by omega) l1 e1
 generalize withinSt 0 4096 l1 e1 = s at *
 obtain ⟨n,l2,e2⟩:=s
 simp only at h2 hn ⊢
 obtain ⟨hn0,hn1⟩:=hn
 obtain ⟨n,rfl⟩:=Int.eq_ofNat_of_zero_le hn0
 rw [Int.toNat_natCast]
 generalize hR:rnsSt n [] 0 l2 e2 = R at *
 refine fmi Tryz.func179 Tryz.ntmps179 ?_
 (have kr1:=h1;have kr2:=h2;refine w0 ?_;(repeat' first|refine W2.mk ?_ ?_|refine W1.mk fun hc=>?_);all_goals clear kr2 kr1)
 refine AW_le (Le_nilB 3 1 600 149 200 2 rfl rfl) ?_
 refine AW_loopP (X:=Nat × List Rn × Int × List UInt8 × Int) (fun x=>x.1 ≤ n ∧ x.2.1.length ≤ x.1 ∧ 0 ≤ x.2.2.1 ∧ x.2.2.1 ≤ 562949953421312 * (x.1:Int) ∧ rnsSt (n - x.1) x.2.1 x.2.2.1 x.2.2.2.1 x.2.2.2.2 = R)
   (fun x=>mkSt [(1,.ptr 1 0 0),(2,.ptr 2 0 0),(3,.ptr 3 0 0),(4,iC .i64 (n:Nat)),(5,iC .i64 x.2.2.1),(6,iC .i64 (x.1:Nat))]
     [(1,.box 213 [rdC]),(2,.box 149 [iC .i64 0,.per (rawP (.slice none 0 0))]),(3,.box 149 [iC .i64 rep,.row 600 0]),(1000,rdBox x.2.2.2.1 x.2.2.2.2),(600,.row 200 2 (x.2.1.map rnP))]) (fun x=>n - x.1) (0,[],0,l2,e2) ⟨Nat.zero_le _,Nat.le_refl _,by simp,by simp,hR⟩ ?_ ?_
 · exact le_auto
 · clear h1 h2 hR
   rintro ⟨i,acc,was,l,e⟩ ⟨hi,hacc,hw0,hw1,hR⟩
   simp only at hi hacc hw0 hw1 hR ⊢
   have hE:=r_Err l e
   by_cases hst:i < n ∧ e = 0
   · obtain ⟨hlt,he⟩:=hst
     subst he
     obtain ⟨m,hm⟩:∃ m,n - i = m + 1:=⟨n - i - 1,by omega⟩
     rw [hm,rnsSt,if_neg (by simp)] at hR
     dsimp only at hR
     have h3:=r_Number l 0
     have q3:=numSt_rng l 0
     generalize numSt l 0 = x at *
     have h4:=r_Number x.2.1 x.2.2
     have q4:=numSt_rng x.2.1 x.2.2
     generalize numSt x.2.1 x.2.2 = y at *
     (have kr1:=hE;have kr2:=h3;have kr3:=h4;refine w0 ?_;(repeat' first|refine W2.mk ?_ ?_|refine W1.mk fun hc=>?_);all_goals clear kr3 kr2 kr1)
     refine ⟨(i + 1,acc ++ [⟨was + x.1,was + x.1 + y.1⟩],was + x.1 + y.1,y.2.1,y.2.2),⟨by simp only;omega,by simp;omega,by simp only;omega,by simp only;omega,by simp only;rw [show n - (i + 1) = m by omega];exact hR⟩,by simp only;omega,?_⟩
     exact le_auto
   · have hR2:R = (acc,l,e):=by
       rw [← hR]
       by_cases he:e = 0
       · rw [show n - i = 0 by omega];rfl
       · cases n - i with
         | zero=>rfl
         | succ m=>rw [rnsSt,if_pos he]
     subst hR2
     refine AW_le (Le_fz 600 _ 200 2 rfl rfl) ?_
     by_cases hlt:i < n
     · have he:e ≠ 0:=fun q=>hst ⟨hlt,q⟩
       clear hst
       (have kr1:=hE;refine w0 ?_;(repeat' first|refine W2.mk ?_ ?_|refine W1.mk fun hc=>?_);all_goals clear kr1)
       (refine ⟨(by first|exact .inl rfl|exact .inr rfl),resM1 [(1000,1000)] rfl rfl ?_ ?_⟩;(focus (repeat (first|exact AllX.nil|(refine AllX.cons rfl ?_ ?_;(focus first|rfl|skip))))))
       exact rvm_cellA inferInstance inferInstance rfl rfl rfl rfl rfl rfl
     · clear hst
       (have kr1:=hE;refine w0 ?_;(repeat' first|refine W2.mk ?_ ?_|refine W1.mk fun hc=>?_);all_goals clear kr1)
       (refine ⟨(by first|exact .inl rfl|exact .inr rfl),resM1 [(1000,1000)] rfl rfl ?_ ?_⟩;(focus (repeat (first|exact AllX.nil|(refine AllX.cons rfl ?_ ?_;(focus first|rfl|skip))))))
       exact rvm_cellA inferInstance inferInstance rfl rfl rfl rfl rfl rfl
theorem kc_rset (l:List UInt8) (e:Int):FnM Tryz.prog 164 [.aggK rdC .aggN] [(1000,rdBox l e)] (.row 3000 0) [(1000,rdBox (lisSt knSt 16 l e).2.1 (lisSt knSt 16 l e).2.2),(3000,.row 149 2 ((lisSt knSt 16 l e).1.map knP))]:=by
 dsimp only [lisSt]
 have h1:=r_Within l e 0 16
 have hn:=within_rng0 (most:=16) (by omega) l e
 generalize withinSt 0 16 l e = s at *
 obtain ⟨n,l0,e0⟩:=s
 simp only at h1 hn ⊢
 obtain ⟨hn0,hn1⟩:=hn
 obtain ⟨n,rfl⟩:=Int.eq_ofNat_of_zero_le hn0
 rw [Int.toNat_natCast]
 generalize hR:lsSt knSt n [] l0 e0 = R at *
 refine fmi Tryz.func164 Tryz.ntmps164 ?_
 (have kr1:=h1;refine w0 ?_;(repeat' first|refine W2.mk ?_ ?_|refine W1.mk fun hc=>?_);all_goals clear kr1)
 refine AW_le (Le_nil 4 600 149 2 rfl rfl) ?_
 refine AW_loopP (X:=Nat × List Kn × List UInt8 × Int) (fun x=>x.1 ≤ n ∧ x.2.1.length ≤ x.1 ∧ lsSt knSt (n - x.1) x.2.1 x.2.2.1 x.2.2.2 = R)
   (fun x=>mkSt [(1,.ptr 1 0 0),(3,iC .i64 (n:Nat)),(4,.row 600 0),(5,iC .i64 (x.1:Nat))] [(1,.box 213 [rdC]),(1000,rdBox x.2.2.1 x.2.2.2),(600,.row 149 2 (x.2.1.map knP))]) (fun x=>n - x.1) (0,[],l0,e0) ⟨Nat.zero_le _,Nat.le_refl _,hR⟩ ?_ ?_
 · exact le_auto
 · clear h1 hR
   rintro ⟨i,acc,l,e⟩ ⟨hi,hacc,hR⟩
   simp only at hi hacc hR ⊢
   have hE:=r_Err l e
   by_cases hst:i < n ∧ e = 0
   · obtain ⟨hlt,he⟩:=hst
     subst he
     obtain ⟨m,hm⟩:∃ m,n - i = m + 1:=⟨n - i - 1,by omega⟩
     rw [hm,lsSt,if_neg (by simp)] at hR
     have h2:=kc_known l 0
     generalize knSt l 0 = q at *
     (have kr1:=hE;have km1:=(show FnMs [(1000,1000)] _ _ _ _ _ _ from h2);refine w0 ?_;(repeat' first|refine W2.mk ?_ ?_|refine W1.mk fun hc=>?_);all_goals clear km1 kr1)
     refine ⟨(i + 1,acc ++ [q.1],q.2.1,q.2.2),⟨by simp only;omega,by simp;omega,by simp only;rw [show n - (i + 1) = m by omega];exact hR⟩,by simp only;omega,?_⟩
     exact le_auto
   · have hR2:R = (acc,l,e):=by
       rw [← hR]
       by_cases he:e = 0
       · rw [show n - i = 0 by omega];rfl
       · cases n - i with
         | zero=>rfl
         | succ m=>rw [lsSt,if_pos he]
     subst hR2
     by_cases hlt:i < n
     · have he:e ≠ 0:=fun q=>hst ⟨hlt,q⟩
       clear hst
       (have kr1:=hE;refine w0 ?_;(repeat' first|refine W2.mk ?_ ?_|refine W1.mk fun hc=>?_);all_goals clear kr1)
       refine ⟨.inl rfl,resM1 [(1000,1000),(600,3000)] rfl rfl ?_ (rvm rfl rfl)⟩
       (repeat (first|exact AllX.nil|(refine AllX.cons rfl ?_ ?_;(focus first|rfl|skip))))
     · clear hst
       (have kr1:=hE;refine w0 ?_;(repeat' first|refine W2.mk ?_ ?_|refine W1.mk fun hc=>?_);all_goals clear kr1)
       refine ⟨.inl rfl,resM1 [(1000,1000),(600,3000)] rfl rfl ?_ (rvm rfl rfl)⟩
       (repeat (first|exact AllX.nil|(refine AllX.cons rfl ?_ ?_;(focus first|rfl|skip))))
theorem rr_Number (b l:List UInt8) (e:Int) (hs:l <:+ b) (hb:b.length ≤ 1000000000000):FnM Tryz.prog 59 [rdC] [(1000,rrBox b l e)] (iC .i64 (numSt l e).1) [(1000,rrBox b (numSt l e).2.1 (numSt l e).2.2)]:=by
 have h:=rr_Within b l e hs hb 0 281474976710656
 rw [numSt_within] at h
 refine fmi Tryz.func59 Tryz.ntmps59 ?_
 (have kr1:=h;refine w0 ?_;(repeat' first|refine W2.mk ?_ ?_|refine W1.mk fun hc=>?_);all_goals clear kr1)
 (refine ⟨(by first|exact .inl rfl|exact .inr rfl),resM1 [(1000,1000)] rfl rfl ?_ ?_⟩;(focus (repeat (first|exact AllX.nil|(refine AllX.cons rfl ?_ ?_;(focus first|rfl|skip))))))
 exact rvm_int rfl rfl
theorem rkc_ReadIn (b l:List UInt8) (e:Int) (hs:l <:+ b) (hb:b.length ≤ 1000000000000):FnM Tryz.prog 102 [rdC] [(1000,rrBox b l e)] (.row 3000 0) [(1000,rrBox b (lisSt knSt 16 l e).2.1 (lisSt knSt 16 l e).2.2),(3000,.row 149 2 ((lisSt knSt 16 l e).1.map knP))]:=by
 dsimp only [lisSt]
 have h1:=rr_Within b l e hs hb 0 16
 have hn:=within_rng0 (most:=16) (by omega) l e
 replace hs:=(withinSt_suf 0 16 l e).trans hs
 generalize withinSt 0 16 l e = s at *
 obtain ⟨n,l0,e0'⟩:=s
 simp only at h1 hn hs ⊢
 obtain ⟨hn0,hn1⟩:=hn
 obtain ⟨n,rfl⟩:=Int.eq_ofNat_of_zero_le hn0
 rw [Int.toNat_natCast]
 generalize hR:lsSt knSt n [] l0 e0' = R at *
 refine fmi Tryz.func102 Tryz.ntmps102 ?_
 (have kr1:=h1;refine w0 ?_;(repeat' first|refine W2.mk ?_ ?_|refine W1.mk fun hc=>?_);all_goals clear kr1)
 refine AW_le (Le_nil 3 600 149 2 rfl rfl) ?_
 refine AW_loopP (X:=Nat × List Kn × List UInt8 × Int) (fun x=>x.1 ≤ n ∧ x.2.1.length ≤ x.1 ∧ x.2.2.1 <:+ b ∧ lsSt knSt (n - x.1) x.2.1 x.2.2.1 x.2.2.2 = R)
   (fun x=>mkSt [(0,.ptr 1000 0 0),(3,.row 600 0),(4,iC .i64 (n:Nat)),(5,iC .i64 (x.1:Nat))] [(1000,rrBox b x.2.2.1 x.2.2.2),(600,.row 149 2 (x.2.1.map knP))]) (fun x=>n - x.1) (0,[],l0,e0') ⟨Nat.zero_le _,Nat.le_refl _,hs,hR⟩ ?_ ?_
 · exact le_auto
 · clear h1 hR hs
   rintro ⟨i,acc,l,e⟩ ⟨hi,hacc,hs,hR⟩
   simp only at hi hacc hs hR ⊢
   by_cases hst:i < n ∧ e = 0
   · obtain ⟨hlt,he⟩:=hst
     subst he
     obtain ⟨m,hm⟩:∃ m,n - i = m + 1:=⟨n - i - 1,by omega⟩
     rw [hm,lsSt,if_neg (by simp)] at hR
     dsimp only [knSt] at hR
     have h2:=rr_Within b l 0 hs hb 1 16
     replace hs:=(withinSt_suf 1 16 l 0).trans hs
     generalize withinSt 1 16 l 0 = a at *
     obtain ⟨rep,l1,e1⟩:=a
     simp only at h2 hs hR
     have h3:=rr_Within b l1 e1 hs hb 0 4096
     have hk:=within_rng0 (most:=4096) (by omega) l1 e1
     replace hs:=(withinSt_suf 0 4096 l1 e1).trans hs
     generalize withinSt 0 4096 l1 e1 = s at *
     obtain ⟨k,l2,e2⟩:=s
     simp only at h3 hk hs hR
     obtain ⟨hk0,hk1⟩:=hk
     obtain ⟨k,rfl⟩:=Int.eq_ofNat_of_zero_le hk0
     rw [Int.toNat_natCast] at hR
     generalize hR2:rnsSt k [] 0 l2 e2 = R2 at *
     (have kr1:=h2;have kr2:=h3;refine w0 ?_;(repeat' first|refine W2.mk ?_ ?_|refine W1.mk fun hc=>?_);all_goals clear kr2 kr1)
     refine AW_le (Le_nilB 6 1 601 149 200 2 rfl rfl) ?_
     refine AW_loopP (X:=Nat × List Rn × Int × List UInt8 × Int) (fun x=>x.1 ≤ k ∧ x.2.1.length ≤ x.1 ∧ 0 ≤ x.2.2.1 ∧ x.2.2.1 ≤ 562949953421312 * (x.1:Int) ∧ x.2.2.2.1 <:+ b ∧ rnsSt (k - x.1) x.2.1 x.2.2.1 x.2.2.2.1 x.2.2.2.2 = R2)
       (fun x=>mkSt [(0,.ptr 1000 0 0),(3,.row 600 0),(4,iC .i64 (n:Nat)),(5,iC .i64 (i:Nat)),(6,.ptr 6 0 0),(7,iC .i64 (k:Nat)),(8,iC .i64 x.2.2.1),(9,iC .i64 (x.1:Nat))]
         [(1000,rrBox b x.2.2.2.1 x.2.2.2.2),(600,.row 149 2 (acc.map knP)),(6,.box 149 [iC .i64 rep,.row 601 0]),(601,.row 200 2 (x.2.1.map rnP))]) (fun x=>k - x.1) (0,[],0,l2,e2) ⟨Nat.zero_le _,Nat.le_refl _,by simp,by simp,hs,hR2⟩ ?_ ?_
     · exact le_auto
     · clear h2 h3 hR2 hs
       rintro ⟨j,acc2,was,l,e⟩ ⟨hj,hacc2,hw0,hw1,hs,hR2⟩
       simp only at hj hacc2 hw0 hw1 hs hR2 ⊢
       by_cases hst:j < k ∧ e = 0
       · obtain ⟨hltj,he⟩:=hst
         subst he
         obtain ⟨m2,hm2⟩:∃ m,k - j = m + 1:=⟨k - j - 1,by omega⟩
         rw [hm2,rnsSt,if_neg (by simp)] at hR2
         dsimp only at hR2
         have h4:=rr_Number b l 0 hs hb
         have q4:=numSt_rng l 0
         replace hs:=(numSt_suf l 0).trans hs
         generalize numSt l 0 = x at *
         have h5:=rr_Number b x.2.1 x.2.2 hs hb
         have q5:=numSt_rng x.2.1 x.2.2
         replace hs:=(numSt_suf x.2.1 x.2.2).trans hs
         generalize numSt x.2.1 x.2.2 = y at *
         (have kr1:=h4;have kr2:=h5;refine w0 ?_;(repeat' first|refine W2.mk ?_ ?_|refine W1.mk fun hc=>?_);all_goals clear kr2 kr1)
         refine ⟨(j + 1,acc2 ++ [⟨was + x.1,was + x.1 + y.1⟩],was + x.1 + y.1,y.2.1,y.2.2),⟨by simp only;omega,by simp;omega,by simp only;omega,by simp only;omega,hs,by simp only;rw [show k - (j + 1) = m2 by omega];exact hR2⟩,by simp only;omega,?_⟩
         exact le_auto
       · have hR3:R2 = (acc2,l,e):=by
           rw [← hR2]
           by_cases he:e = 0
           · rw [show k - j = 0 by omega];rfl
           · cases k - j with
             | zero=>rfl
             | succ m=>rw [rnsSt,if_pos he]
         subst hR3
         simp only at hR
         refine AW_le (Le_fz 601 _ 200 2 rfl rfl) ?_
         by_cases hltj:j < k
         · have he:e ≠ 0:=fun q=>hst ⟨hltj,q⟩
           clear hst
           (refine w0 ?_;(repeat' first|refine W2.mk ?_ ?_|refine W1.mk fun hc=>?_))
           refine ⟨(i + 1,acc ++ [⟨rep,acc2⟩],l,e),⟨by simp only;omega,by simp;omega,hs,by simp only;rw [show n - (i + 1) = m by omega];exact hR⟩,by simp only;omega,?_⟩
           exact le_auto
         · clear hst
           (refine w0 ?_;(repeat' first|refine W2.mk ?_ ?_|refine W1.mk fun hc=>?_))
           refine ⟨(i + 1,acc ++ [⟨rep,acc2⟩],l,e),⟨by simp only;omega,by simp;omega,hs,by simp only;rw [show n - (i + 1) = m by omega];exact hR⟩,by simp only;omega,?_⟩
           exact le_auto
   · have hR2:R = (acc,l,e):=by
       rw [← hR]
       by_cases he:e = 0
       · rw [show n - i = 0 by omega];rfl
       · cases n - i with
         | zero=>rfl
         | succ m=>rw [lsSt,if_pos he]
     subst hR2
     by_cases hlt:i < n
     · have he:e ≠ 0:=fun q=>hst ⟨hlt,q⟩
       clear hst
       (refine w0 ?_;(repeat' first|refine W2.mk ?_ ?_|refine W1.mk fun hc=>?_))
       refine ⟨.inl rfl,resM1 [(1000,1000),(600,3000)] rfl rfl ?_ (rvm rfl rfl)⟩
       (repeat (first|exact AllX.nil|(refine AllX.cons rfl ?_ ?_;(focus first|rfl|skip))))
     · clear hst
       (refine w0 ?_;(repeat' first|refine W2.mk ?_ ?_|refine W1.mk fun hc=>?_))
       refine ⟨.inl rfl,resM1 [(1000,1000),(600,3000)] rfl rfl ?_ (rvm rfl rfl)⟩
       (repeat (first|exact AllX.nil|(refine AllX.cons rfl ?_ ?_;(focus first|rfl|skip))))
end
/-! ### plainly -/
def tabAt (s:List Kn) (r:Nat):List Rn:=s.flatMap fun k=>if k.rep = (r:Int) + 1 then k.runs else []
def tabOf (s:List Kn):List (List Rn):=(List.range 16).map (tabAt s)
def setFrom (cOf:List Rn → List Rn):Nat → List (List Rn) → List Kn
 | _,[]=>[]
 | i,l :: T=>(if (cOf l).length = 0 then [] else [⟨(i:Int) + 1,cOf l⟩]) ++ setFrom cOf (i + 1) T
def vsOf (cOf:List Rn → List Rn) (s:List Kn):List Kn:=setFrom cOf 0 (tabOf s)
theorem tabOf_len (s:List Kn):(tabOf s).length = 16:=by simp [tabOf]
theorem tabAt_snoc (l:List Kn) (k:Kn) (r:Nat):tabAt (l ++ [k]) r = tabAt l r ++ (if k.rep = (r:Int) + 1 then k.runs else []):=by simp [tabAt]
theorem tabOf_get (s:List Kn) {r:Nat} (h:r < 16):(tabOf s)[r]? = some (tabAt s r):=by simp [tabOf,h]
theorem tabOf_in (l:List Kn) (k:Kn) {r:Nat} (h:r < 16) (hk:k.rep = (r:Int) + 1):tabOf (l ++ [k]) = (tabOf l).set r (tabAt l r ++ k.runs):=by
 apply List.ext_getElem?
 intro i
 rw [List.getElem?_set,tabOf_len]
 by_cases hi:i < 16
 · rw [tabOf_get _ hi,tabAt_snoc]
   by_cases h1:r = i
   · subst h1;rw [if_pos rfl,if_pos h,if_pos hk]
   · rw [if_neg h1,tabOf_get _ hi,if_neg (by omega),List.append_nil]
 · rw [List.getElem?_eq_none (by rw [tabOf_len];omega)]
   rw [if_neg (by omega),List.getElem?_eq_none (by rw [tabOf_len];omega)]
theorem tabOf_out (l:List Kn) (k:Kn) (hk:¬ (1 ≤ k.rep ∧ k.rep ≤ 16)):tabOf (l ++ [k]) = tabOf l:=by
 apply List.ext_getElem?
 intro i
 by_cases hi:i < 16
 · rw [tabOf_get _ hi,tabOf_get _ hi,tabAt_snoc,if_neg (by omega),List.append_nil]
 · rw [List.getElem?_eq_none (by rw [tabOf_len];omega),List.getElem?_eq_none (by rw [tabOf_len];omega)]
theorem tabAt_len:∀ (s:List Kn) (r:Nat),(tabAt s r).length ≤ (s.flatMap Kn.runs).length:=by
 intro s
 induction s with
 | nil=>intro r;simp [tabAt]
 | cons k s ih=>
   intro r
   have:=ih r
   unfold tabAt at this ⊢
   rw [List.flatMap_cons,List.flatMap_cons,List.length_append,List.length_append]
   have h2:(if k.rep = (r:Int) + 1 then k.runs else []).length ≤ k.runs.length:=by split <;> simp
   omega
theorem mem_flat_len {s:List Kn} {k:Kn} (h:k ∈ s):k.runs.length ≤ (s.flatMap Kn.runs).length:=by
 induction s with
 | nil=>cases h
 | cons x s ih=>
   rw [List.flatMap_cons,List.length_append]
   rcases List.mem_cons.1 h with q|q
   · subst q;omega
   · have:=ih q;omega
/-- not too much in all -/
def knsTot (s:List Kn):Prop:=s.length ≤ 1000000000 ∧ (s.flatMap Kn.runs).length ≤ 1000000000
theorem knsTot.sz {s:List Kn} (h:knsTot s):knsSz s:=⟨h.1,fun k hk=>by
 have h2:=h.2
 have:=mem_flat_len hk
 omega⟩
theorem setFrom_app (cOf:List Rn → List Rn):∀ (T U:List (List Rn)) (i:Nat),setFrom cOf i (T ++ U) = setFrom cOf i T ++ setFrom cOf (i + T.length) U:=by
 intro T
 induction T with
 | nil=>intro U i;rfl
 | cons l T ih=>intro U i;simp only [List.cons_append,setFrom,ih,List.length_cons,List.append_assoc];rw [show i + 1 + T.length = i + (T.length + 1) by omega]
/-- a right set is what its table says -/
theorem tabAt_right {s:List Kn} (h:knsOk s):∀ r,tabAt s r = [] ∨ ∃ k ∈ s,k.rep = (r:Int) + 1 ∧ tabAt s r = k.runs:=by
 intro r
 induction s using snoc_ind with
 | h0=>exact .inl rfl
 | h1 l k ih=>
   have hl:knsOk l:=fun i hi hi'=>by
     have h1:=h i (by simp;omega) (by simp;omega)
     have e1:(l ++ [k])[i]'(by simp;omega) = l[i]:=List.getElem_append_left hi
     rw [e1] at h1
     refine ⟨h1.1,h1.2.1,h1.2.2.1,h1.2.2.2.1,fun q=>?_⟩
     have:=h1.2.2.2.2 q
     rw [List.getElem_append_left (by omega)] at this
     exact this
   rw [tabAt_snoc]
   by_cases hk:k.rep = (r:Int) + 1
   · rw [if_pos hk]
     have hz:tabAt l r = []:=by
       rcases ih hl with q|⟨k',hk',e1,e2⟩
       · exact q
       · exfalso
         obtain ⟨i,hi,rfl⟩:=List.getElem_of_mem hk'
         have hlt:∀ (d i:Nat) (hi:i < l.length) (hd:i + d + 1 = l.length),l[i].rep < k.rep:=by
           intro d
           induction d with
           | zero=>
             intro i hi hd
             have:=(h (i + 1) (by simp;omega) (by simp;omega)).2.2.2.2 (by omega)
             simp only [Nat.add_sub_cancel] at this
             rw [List.getElem_append_left hi,List.getElem_append_right (by omega)] at this
             simpa using this
           | succ d ihd=>
             intro i hi hd
             have:=(h (i + 1) (by simp;omega) (by simp;omega)).2.2.2.2 (by omega)
             simp only [Nat.add_sub_cancel] at this
             rw [List.getElem_append_left hi,List.getElem_append_left (by omega)] at this
             have:=ihd (i + 1) (by omega) (by omega)
             omega
         have:=hlt (l.length - 1 - i) i hi (by omega)
         omega
     rw [hz,List.nil_append]
     exact .inr ⟨k,by simp,hk,rfl⟩
   · rw [if_neg hk,List.append_nil]
     rcases ih hl with q|⟨k',hk',e1,e2⟩
     · exact .inl q
     · exact .inr ⟨k',by simp [hk'],e1,e2⟩
theorem tab_rnsOk {s:List Kn} (h:knsOk s):∀ l ∈ tabOf s,rnsOk l:=by
 intro l hl
 obtain ⟨r,_,rfl⟩:=List.mem_map.1 hl
 rcases tabAt_right h r with q|⟨k,hk,_,q⟩
 · rw [q];intro i hi;simp at hi
 · rw [q]
   obtain ⟨i,hi,rfl⟩:=List.getElem_of_mem hk
   exact (knsOk_get h hi).2.2.2
theorem take_snocK {α:Type} (l:List α) (k:Nat) (h:k < l.length):l.take (k + 1) = l.take k ++ [l[k]]:=by rw [List.take_succ_eq_append_getElem h]
theorem tabAt_take (s:List Kn) (z r:Nat):(tabAt (s.take z) r).length ≤ (tabAt s r).length:=by
 have:tabAt s r = tabAt (s.take z) r ++ tabAt (s.drop z) r:=by
   unfold tabAt
   rw [← List.flatMap_append,List.take_append_drop]
 rw [this,List.length_append];omega
abbrev tabP (T:List (List Rn)):PV:=aggP (T.map rnsP)
abbrev tabC (T:List (List Rn)):List Cnt:=T.map fun l=>Cnt.per (rnsP l)
theorem perL_tab (T:List (List Rn)):perL (tabC T) = some (T.map rnsP):=by
 induction T with
 | nil=>rfl
 | cons l T ih=>
   show perL (Cnt.per (rnsP l) :: tabC T) = _
   unfold perL
   rw [ih];rfl
theorem tabC_map (T:List (List Rn)):(T.map rnsP).map Cnt.per = tabC T:=by simp [tabC]
theorem tabC_full {T:List (List Rn)} (h:T.length = 16):perL (((tabC T).drop 0).take 16) = some (T.map rnsP):=by
 rw [List.drop_zero,List.take_of_length_le (by simp;omega)];exact perL_tab T
theorem tabC_ble {T:List (List Rn)} (h:T.length = 16):Nat.ble (0 + 16) (tabC T).length = true:=by
 apply Nat.ble_eq_true_of_le;simp;omega
theorem setL_full {cells l:List Cnt} (h:l.length = cells.length):setL cells 0 l = l:=by
 unfold setL
 rw [List.take_zero,List.nil_append,List.drop_of_length_le (by omega),List.append_nil]
section
theorem sl_CloneRn (l:List Rn) (hl:l.length ≤ 1000000000):Fn Tryz.prog 185 [rnsB l] (.own 200 2 (l.map rnP)):=by
 by_cases h0:0 < l.length
 · refine fi Tryz.func185 Tryz.ntmps185 ?_
   (refine w0 ?_;(repeat' first|refine W2.mk ?_ ?_|refine W1.mk fun hc=>?_))
   refine rt1 ?_
   exact rv_own rfl rfl rfl
 · obtain rfl:l = []:=List.eq_nil_of_length_eq_zero (by omega)
   refine fi Tryz.func185 Tryz.ntmps185 ?_
   (refine w0 ?_;(repeat' first|refine W2.mk ?_ ?_|refine W1.mk fun hc=>?_))
   · refine rt1 ?_
     exact rv_nil rfl
   · refine rt1 ?_
     exact rv_own rfl rfl rfl
theorem cnt_Of_ok (l:List Rn) (hl:l.length ≤ 1000000000) (h:rnsOk l):Fn Tryz.prog 186 [rnsB l] (.own 200 2 (l.map rnP)):=by
 have h1:=cnt_Right l hl true (by simp [h])
 have h2:=sl_CloneRn l hl
 refine fi Tryz.func186 Tryz.ntmps186 ?_
 (have kc1:=h1;have kc2:=h2;refine w0 ?_;(repeat' first|refine W2.mk ?_ ?_|refine W1.mk fun hc=>?_);all_goals clear kc2 kc1)
 refine rt1 ?_
 exact rv_own rfl rfl rfl
theorem sl_EqualRn (l m:List Rn) (hl:l.length ≤ 1000000000):Fn Tryz.prog 177 [rnsB l,rnsB m] (boR (decide (l = m))):=by
 refine fi Tryz.func177 Tryz.ntmps177 ?_
 (repeat' (first|refine AW_seq ?_|refine AW_block ?_|refine AW_skip ?_|refine AW_exit ?_|refine AW_ret ?_|refine AW_region ?_|refine AW_draw mixed0 ?_|refine AL_nil ?_|refine AD_nil (by kernel_rfl) ?_|refine thenA_n ?_|refine thenA_r ?_|refine thenA_e ?_|refine inB_n ?_|refine inB_r ?_|refine inB_hit ?_|refine inB_miss rfl ?_|(refine AW_cond_per rfl rfl (fun hc=>?_) (fun hc=>?_) <;> (try rw [Bool.not_eq_true'] at hc) <;> (try rw [Bool.not_eq_false'] at hc) <;> (try first|rw [decide_eq_true_eq] at hc|rw [decide_eq_false_iff_not] at hc|rw [beq_iff_eq] at hc|rw [beq_eq_false_iff_ne] at hc|rw [bne_iff_ne] at hc|rw [bne_eq_false_iff_eq] at hc) <;> (repeat rw [List.length_map] at hc) <;> (try first|contradiction|(exfalso;omega)|(exfalso;simp [*] at hc;done)))|((first|apply AL_t rfl|apply AL_0 rfl|apply AD_t rfl|apply AD_0 rfl);focus (first|exact o_auto))))
 · refine rt1 ?_
   exact rv_bool rfl (by symm;rw [decide_eq_false_iff_not];intro h;subst h;omega)
 have hlm:l.length = m.length:=by omega
 refine AW_loopP (fun k=>k ≤ l.length ∧ l.take k = m.take k) (fun k=>mkSt [(0,rnsB l),(1,rnsB m),(12,iC .i64 (l.length:Nat)),(13,iC .i64 (k:Nat))] []) (fun k=>l.length - k) 0 ⟨Nat.zero_le _,rfl⟩ ?_ ?_
 · exact le_auto
 · rintro k ⟨hk,hpre⟩
   by_cases hlt:k < l.length
   · have hltm:k < m.length:=by omega
     (repeat' (first|refine AW_seq ?_|refine AW_block ?_|refine AW_skip ?_|refine AW_exit ?_|refine AW_ret ?_|refine AW_region ?_|refine AW_draw mixed0 ?_|refine AL_nil ?_|refine AD_nil (by kernel_rfl) ?_|refine thenA_n ?_|refine thenA_r ?_|refine thenA_e ?_|refine inB_n ?_|refine inB_r ?_|refine inB_hit ?_|refine inB_miss rfl ?_|(refine AW_cond_per rfl rfl (fun hc=>?_) (fun hc=>?_) <;> (try rw [Bool.not_eq_true'] at hc) <;> (try rw [Bool.not_eq_false'] at hc) <;> (try first|rw [decide_eq_true_eq] at hc|rw [decide_eq_false_iff_not] at hc|rw [beq_iff_eq] at hc|rw [beq_eq_false_iff_ne] at hc|rw [bne_iff_ne] at hc|rw [bne_eq_false_iff_eq] at hc) <;> (repeat rw [List.length_map] at hc) <;> (try first|contradiction|(exfalso;omega)|(exfalso;simp [*] at hc;done)))|((first|apply AL_t rfl|apply AL_0 rfl|apply AD_t rfl|apply AD_0 rfl);focus (first|exact o_auto|(exact op_eqA (us:=encRn l[k]) (vs:=encRn m[k]) ⟨rfl,rfl,rfl⟩ rfl rfl rfl (.inr ⟨rfl,rfl⟩) rnG rfl (rnE_o l[k] m[k]))))))
     · refine rt1 ?_
       exact rv_bool rfl (by symm;rw [decide_eq_false_iff_not];intro h;subst h;simp [(rnE_iff l[k] l[k]).2 rfl] at *)
     · refine ⟨k + 1,⟨by omega,?_⟩,by omega,?_⟩
       · rw [take_snoc' l k hlt,take_snoc' m k hltm,hpre,(rnE_iff l[k] m[k]).1 (by simpa using hc)]
       · exact le_auto
   · (repeat' (first|refine AW_seq ?_|refine AW_block ?_|refine AW_skip ?_|refine AW_exit ?_|refine AW_ret ?_|refine AW_region ?_|refine AW_draw mixed0 ?_|refine AL_nil ?_|refine AD_nil (by kernel_rfl) ?_|refine thenA_n ?_|refine thenA_r ?_|refine thenA_e ?_|refine inB_n ?_|refine inB_r ?_|refine inB_hit ?_|refine inB_miss rfl ?_|(refine AW_cond_per rfl rfl (fun hc=>?_) (fun hc=>?_) <;> (try rw [Bool.not_eq_true'] at hc) <;> (try rw [Bool.not_eq_false'] at hc) <;> (try first|rw [decide_eq_true_eq] at hc|rw [decide_eq_false_iff_not] at hc|rw [beq_iff_eq] at hc|rw [beq_eq_false_iff_ne] at hc|rw [bne_iff_ne] at hc|rw [bne_eq_false_iff_eq] at hc) <;> (repeat rw [List.length_map] at hc) <;> (try first|contradiction|(exfalso;omega)|(exfalso;simp [*] at hc;done)))|((first|apply AL_t rfl|apply AL_0 rfl|apply AD_t rfl|apply AD_0 rfl);focus (first|exact o_auto))))
     refine rt1 ?_
     exact rv_bool rfl (by symm;rw [decide_eq_true_eq,← List.take_of_length_le (show l.length ≤ k by omega),hpre,List.take_of_length_le (by omega)])
theorem vs_fill (s:List Kn) (hs:knsTot s):Fn Tryz.prog 183 [knsB s] (.per (tabP (tabOf s))):=by
 have hl0:=hs.1
 have htot:=hs.2
 refine fi Tryz.func183 Tryz.ntmps183 ?_
 (refine w0 ?_;(repeat' first|refine W2.mk ?_ ?_|refine W1.mk fun hc=>?_))
 refine AW_le (Le_cells 3 236 (cells':=tabC (tabOf [])) rfl rfl (fun j c c' h h'=>?_)) ?_
 · have h1:c = .per (rawP (.slice none 0 0)):=List.eq_of_mem_replicate (n:=16) (List.mem_of_getElem? h)
   have h2:c' = .per (rnsP []):=List.eq_of_mem_replicate (n:=16) (List.mem_of_getElem? h')
   rw [h1,h2];exact imp_nil
 refine AW_loopP (X:=Nat) (fun z=>z ≤ s.length)
   (fun z=>mkSt [(2,.ptr 2 0 0),(3,.ptr 3 0 0),(7,knsB s),(8,iC .i64 (s.length:Nat)),(9,iC .i64 (z:Nat))] [(2,.box 236 (List.replicate 16 (.per (rawP (.slice none 0 0))))),(3,.box 236 (tabC (tabOf (s.take z))))]) (fun z=>s.length - z) 0 (Nat.zero_le _) ?_ ?_
 · exact le_auto
 · intro z hz
   by_cases hlt:z < s.length
   · have c1:=vs_replica s[z].rep
     have hT:=tabOf_len (s.take z)
     have hsn:=take_snocK s z hlt
     by_cases hr:1 ≤ s[z].rep ∧ s[z].rep ≤ 16
     · rw [decide_eq_true hr] at c1
       obtain ⟨r,hq⟩:∃ r:Nat,s[z].rep - 1 = (r:Nat):=⟨(s[z].rep - 1).toNat,by omega⟩
       have hr16:r < 16:=by omega
       have hin:=tabOf_in (s.take z) s[z] hr16 (by omega)
       rw [← hsn] at hin
       have hg:=tabOf_get (s.take z) hr16
       have hb1:=tabAt_take s z r
       have hb2:=tabAt_len s r
       have hb3:=hs.sz.at hlt
       generalize tabAt (s.take z) r = Tr at *
       generalize tabOf (s.take z) = T at *
       have HJ:(tabC T)[0 + r * 1]? = some (.per (rnsP Tr)):=by
         rw [Nat.zero_add,Nat.mul_one,List.getElem?_map,hg];rfl
       have HB:Nat.ble (0 + r * 1 + 1) (tabC T).length = true:=Nat.ble_eq_true_of_le (by simp;omega)
       have hTr:Tr.length ≤ 1000000000:=by omega
       have c2:=sl_CloneRn Tr (by omega)
       have HF:∀ (F:Cnt → Cnt) (c:Cnt),(∀ A,F (.per A) = .per A) → F c = .per (lstP 2 (Tr.map rnP ++ s[z].runs.map rnP)) → (setL (tabC T) (0 + r * 1) [c]).map F = tabC (T.set r (Tr ++ s[z].runs)):=fun F c h1 h2=>by
         rw [Nat.zero_add,Nat.mul_one,setL_set _ _ _ (by simp;omega),List.map_set,h2,← List.map_append]
         have e:(tabC T).map F = tabC T:=by
           unfold tabC
           rw [List.map_map]
           exact List.map_congr_left fun x _=>h1 _
         rw [e]
         unfold tabC
         rw [List.map_set]
       clear hs htot hg
       (repeat' (first|refine AW_seq ?_|refine AW_block ?_|refine AW_skip ?_|refine AW_exit ?_|refine AW_ret ?_|refine AW_region ?_|refine AW_draw mixed0 ?_|refine AL_nil ?_|refine AD_nil (by kernel_rfl) ?_|(refine AW_cl rfl rfl ⟨fun hc=>?_,fun hc=>?_⟩ <;> (repeat rw [List.length_map] at hc) <;> (try exact absd hc))|((first|apply AL_t rfl|apply AL_0 rfl|apply AD_t rfl|apply AD_0 rfl);focus (first|((apply u_k 8;(focus rfl);exact op_num ⟨rfl,rfl,rfl⟩ rfl rfl rfl rfl ((wrap_id64 (by omega) (by omega)).trans hq)))|(apply u_g;(focus rfl);apply op_gyes rfl rfl rfl rfl rfl;((apply u_k 8;(focus rfl);exact op_num ⟨rfl,rfl,rfl⟩ rfl rfl rfl rfl ((wrap_id64 (by omega) (by omega)).trans hq))))|((apply u_k 5;(focus rfl);exact u_load1 ⟨rfl,rfl,rfl⟩ rfl inferInstance rfl rfl rfl HJ))|(apply u_g;(focus rfl);apply op_gyes rfl rfl rfl rfl rfl;((apply u_k 5;(focus rfl);exact u_load1 ⟨rfl,rfl,rfl⟩ rfl inferInstance rfl rfl rfl HJ)))|((apply u_k 6;(focus rfl);exact u_store_c (c:=.row _ _) ⟨rfl,rfl⟩ rfl inferInstance rfl rfl rfl HB rfl (by first|exact oneQ_per (by first|exact oneP_raw rfl rfl|exact oneP_lst|exact oneP_rp)|exact oneQ_ptr rfl|exact oneQ_row rfl rfl|exact oneQ_obj rfl rfl|exact oneQ_clo1|exact oneQ_clo2|exact oneQ_clo3)))|(apply u_g;(focus rfl);apply op_gyes rfl rfl rfl rfl rfl;((apply u_k 6;(focus rfl);exact u_store_c (c:=.row _ _) ⟨rfl,rfl⟩ rfl inferInstance rfl rfl rfl HB rfl (by first|exact oneQ_per (by first|exact oneP_raw rfl rfl|exact oneP_lst|exact oneP_rp)|exact oneQ_ptr rfl|exact oneQ_row rfl rfl|exact oneQ_obj rfl rfl|exact oneQ_clo1|exact oneQ_clo2|exact oneQ_clo3))))|exact z_auto|exact c_A (c1)|exact c_A (c2)|fail))|refine thenA_n ?_|refine thenA_r ?_|refine thenA_e ?_|refine inB_n ?_|refine inB_r ?_|refine inB_hit ?_|refine inB_miss rfl ?_|((first|refine AL_cl rfl rfl rfl ⟨fun hc=>?_,fun hc=>?_⟩|refine AD_cl rfl rfl rfl ⟨fun hc=>?_,fun hc=>?_⟩) <;> (fail_if_success (have q:(true = true):=hc)) <;> (fail_if_success (have q:(false = false):=hc)) <;> (repeat rw [List.length_map] at hc) <;> (try exact absd hc))|refine AW_cond_nil rfl rfl (fun hc=>?_) ?_))
       refine ⟨z + 1,by omega,by omega,Le_trans (Le_fz 23 _ 200 2 rfl rfl) ?_⟩
       (refine Le_mk ?_ ?_;(focus ((repeat (first|exact AllG.nil|(refine AllG.cons ?_ ?_;rotate_left)));(all_goals try (first|rfl|(refine eqI ?_;first|omega|(simp;done)|(simp;omega))|(refine eqBo ?_;first|(simp;done)|(simp [*];done))))));(focus ((repeat (first|exact AllB.nil|(refine AllB.cons ?_ ?_;rotate_left)));(all_goals try (first|rfl|(refine eqRw ?_;(rw [List.map_append] <;> rfl);done)|(refine eqMix ?_;(rw [List.map_append] <;> rfl);done))))))
       rw [hin]
       show Blk.box _ (List.map _ (List.map _ _)) = _
       rw [List.map_map]
       exact congrArg (Blk.box _) (HF _ _ (fun _=>rfl) rfl)
     · rw [decide_eq_false hr] at c1
       have hout:=tabOf_out (s.take z) s[z] hr
       rw [← hsn] at hout
       clear hs htot hsn hr
       (have kc1:=c1;refine w0 ?_;(repeat' first|refine W2.mk ?_ ?_|refine W1.mk fun hc=>?_);all_goals clear kc1)
       refine ⟨z + 1,by omega,by omega,?_⟩
       (refine Le_mk ?_ ?_;(focus ((repeat (first|exact AllG.nil|(refine AllG.cons ?_ ?_;rotate_left)));(all_goals try (first|rfl|(refine eqI ?_;first|omega|(simp;done)|(simp;omega))|(refine eqBo ?_;first|(simp;done)|(simp [*];done))))));(focus ((repeat (first|exact AllB.nil|(refine AllB.cons ?_ ?_;rotate_left)));(all_goals try (first|rfl|(refine eqRw ?_;(rw [List.map_append] <;> rfl);done)|(refine eqMix ?_;(rw [List.map_append] <;> rfl);done))))))
       rw [hout];rfl
   · have e:s.take z = s:=List.take_of_length_le (by omega)
     rw [e]
     have hT:=tabOf_len s
     generalize tabOf s = T at *
     have HP:=tabC_full hT
     have HB:=tabC_ble hT
     clear hs htot
     (repeat' (first|refine AW_seq ?_|refine AW_block ?_|refine AW_skip ?_|refine AW_exit ?_|refine AW_ret ?_|refine AW_region ?_|refine AW_draw mixed0 ?_|refine AL_nil ?_|refine AD_nil (by kernel_rfl) ?_|(refine AW_cl rfl rfl ⟨fun hc=>?_,fun hc=>?_⟩ <;> (repeat rw [List.length_map] at hc) <;> (try exact absd hc))|((first|apply AL_t rfl|apply AL_0 rfl|apply AD_t rfl|apply AD_0 rfl);focus (first|((apply u_k 5;(focus rfl);exact u_loadA ⟨rfl,rfl,rfl⟩ rfl inferInstance inferInstance rfl rfl rfl rfl HB HP))|(apply u_g;(focus rfl);apply op_gyes rfl rfl rfl rfl rfl;((apply u_k 5;(focus rfl);exact u_loadA ⟨rfl,rfl,rfl⟩ rfl inferInstance inferInstance rfl rfl rfl rfl HB HP)))|((apply u_k 6;(focus rfl);exact u_storeA ⟨rfl,rfl⟩ rfl inferInstance rfl rfl rfl rfl rfl rfl (by simp [hT])))|(apply u_g;(focus rfl);apply op_gyes rfl rfl rfl rfl rfl;((apply u_k 6;(focus rfl);exact u_storeA ⟨rfl,rfl⟩ rfl inferInstance rfl rfl rfl rfl rfl rfl (by simp [hT]))))|exact z_auto|fail))|refine thenA_n ?_|refine thenA_r ?_|refine thenA_e ?_|refine inB_n ?_|refine inB_r ?_|refine inB_hit ?_|refine inB_miss rfl ?_|((first|refine AL_cl rfl rfl rfl ⟨fun hc=>?_,fun hc=>?_⟩|refine AD_cl rfl rfl rfl ⟨fun hc=>?_,fun hc=>?_⟩) <;> (fail_if_success (have q:(true = true):=hc)) <;> (fail_if_success (have q:(false = false):=hc)) <;> (repeat rw [List.length_map] at hc) <;> (try exact absd hc))|refine AW_cond_nil rfl rfl (fun hc=>?_) ?_))
     refine rt1 ?_
     have e2:setL (List.replicate 16 (Cnt.per (rawP (.slice none 0 0)))) 0 ((T.map rnsP).map .per) = (T.map rnsP).map .per:=setL_full (by simp [hT])
     exact rv_cA inferInstance inferInstance rfl rfl rfl rfl (by rw [e2];simp [hT]) (by rw [e2,tabC_map];exact perL_tab T)
theorem vs_tset (cOf:List Rn → List Rn) (T:List (List Rn)) (hT:T.length = 16) (hOf:∀ l ∈ T,Fn Tryz.prog 186 [rnsB l] (.own 200 2 ((cOf l).map rnP))) :
   Fn Tryz.prog 184 [.per (tabP T)] (.own 149 2 ((setFrom cOf 0 T).map knP)):=by
 have HP:=tabC_full hT
 have HB:=tabC_ble hT
 have HE:=tabC_map T
 refine fi Tryz.func184 Tryz.ntmps184 ?_
 have hstep:∀ z (h:z < T.length),setFrom cOf z (T.drop z) = (if (cOf T[z]).length = 0 then [] else [⟨(z:Int) + 1,cOf T[z]⟩]) ++ setFrom cOf (z + 1) (T.drop (z + 1)):=fun z h=>by
   rw [List.drop_eq_getElem_cons h];rfl
 (repeat' (first|refine AW_seq ?_|refine AW_block ?_|refine AW_skip ?_|refine AW_exit ?_|refine AW_ret ?_|refine AW_region ?_|refine AW_draw mixed0 ?_|refine AL_nil ?_|refine AD_nil (by kernel_rfl) ?_|(refine AW_cl rfl rfl ⟨fun hc=>?_,fun hc=>?_⟩ <;> (repeat rw [List.length_map] at hc) <;> (try exact absd hc))|((first|apply AL_t rfl|apply AL_0 rfl|apply AD_t rfl|apply AD_0 rfl);focus (first|((apply u_k 5;(focus rfl);exact u_loadA ⟨rfl,rfl,rfl⟩ rfl inferInstance inferInstance rfl rfl rfl rfl (HE ▸ HB) (HE ▸ HP)))|(apply u_g;(focus rfl);apply op_gyes rfl rfl rfl rfl rfl;((apply u_k 5;(focus rfl);exact u_loadA ⟨rfl,rfl,rfl⟩ rfl inferInstance inferInstance rfl rfl rfl rfl (HE ▸ HB) (HE ▸ HP))))|exact z_auto|fail))|refine thenA_n ?_|refine thenA_r ?_|refine thenA_e ?_|refine inB_n ?_|refine inB_r ?_|refine inB_hit ?_|refine inB_miss rfl ?_|((first|refine AL_cl rfl rfl rfl ⟨fun hc=>?_,fun hc=>?_⟩|refine AD_cl rfl rfl rfl ⟨fun hc=>?_,fun hc=>?_⟩) <;> (fail_if_success (have q:(true = true):=hc)) <;> (fail_if_success (have q:(false = false):=hc)) <;> (repeat rw [List.length_map] at hc) <;> (try exact absd hc))|refine AW_cond_nil rfl rfl (fun hc=>?_) ?_))
 refine AW_le (Le_nil 3 600 149 2 rfl rfl) ?_
 generalize hQ:setFrom cOf 0 T = Q
 refine AW_loopP (X:=Nat × List Kn) (fun z=>z.1 ≤ 16 ∧ z.2.length ≤ z.1 ∧ z.2 ++ setFrom cOf z.1 (T.drop z.1) = Q)
   (fun z=>mkSt [(3,.row 600 0),(6,.per (tabP T)),(7,iC .i64 (z.1:Nat))] [(600,.row 149 2 (z.2.map knP))]) (fun z=>16 - z.1) (0,[]) ⟨Nat.zero_le _,Nat.le_refl _,by simpa using hQ⟩ ?_ ?_
 · exact le_auto
 · rintro ⟨z,acc⟩ ⟨h1,h2,h3⟩
   simp only at h1 h2 h3 ⊢
   by_cases hz:z < 16
   · have hzT:z < T.length:=by omega
     have c1:=(hOf T[z] (List.getElem_mem hzT)).frz
     rw [hstep z hzT] at h3
     have HJ:(T.map rnsP)[z]? = some (rnsP T[z]):=by rw [List.getElem?_map,List.getElem?_eq_getElem hzT];rfl
     generalize cOf T[z] = L at *
     clear hOf hstep HP HB HE
     by_cases hL:L.length = 0
     · rw [if_pos hL,List.nil_append] at h3
       (repeat' (first|refine AW_seq ?_|refine AW_block ?_|refine AW_skip ?_|refine AW_exit ?_|refine AW_ret ?_|refine AW_region ?_|refine AW_draw mixed0 ?_|refine AL_nil ?_|refine AD_nil (by kernel_rfl) ?_|(refine AW_cl rfl rfl ⟨fun hc=>?_,fun hc=>?_⟩ <;> (repeat rw [List.length_map] at hc) <;> (try exact absd hc))|((first|apply AL_t rfl|apply AL_0 rfl|apply AD_t rfl|apply AD_0 rfl);focus (first|((apply u_k 13;(focus rfl);exact u_idxAgg ⟨rfl,rfl,rfl⟩ rfl inferInstance inferInstance inferInstance rfl rfl rfl (by omega) HJ))|(apply u_g;(focus rfl);apply op_gyes rfl rfl rfl rfl rfl;((apply u_k 13;(focus rfl);exact u_idxAgg ⟨rfl,rfl,rfl⟩ rfl inferInstance inferInstance inferInstance rfl rfl rfl (by omega) HJ)))|exact z_auto|exact c_A (c1)|fail))|refine thenA_n ?_|refine thenA_r ?_|refine thenA_e ?_|refine inB_n ?_|refine inB_r ?_|refine inB_hit ?_|refine inB_miss rfl ?_|((first|refine AL_cl rfl rfl rfl ⟨fun hc=>?_,fun hc=>?_⟩|refine AD_cl rfl rfl rfl ⟨fun hc=>?_,fun hc=>?_⟩) <;> (fail_if_success (have q:(true = true):=hc)) <;> (fail_if_success (have q:(false = false):=hc)) <;> (repeat rw [List.length_map] at hc) <;> (try exact absd hc))|refine AW_cond_nil rfl rfl (fun hc=>?_) ?_))
       refine ⟨(z + 1,acc),⟨by simp only;omega,by simp only;omega,h3⟩,by simp only;omega,?_⟩
       exact le_auto
     · rw [if_neg hL] at h3
       (repeat' (first|refine AW_seq ?_|refine AW_block ?_|refine AW_skip ?_|refine AW_exit ?_|refine AW_ret ?_|refine AW_region ?_|refine AW_draw mixed0 ?_|refine AL_nil ?_|refine AD_nil (by kernel_rfl) ?_|(refine AW_cl rfl rfl ⟨fun hc=>?_,fun hc=>?_⟩ <;> (repeat rw [List.length_map] at hc) <;> (try exact absd hc))|((first|apply AL_t rfl|apply AL_0 rfl|apply AD_t rfl|apply AD_0 rfl);focus (first|((apply u_k 13;(focus rfl);exact u_idxAgg ⟨rfl,rfl,rfl⟩ rfl inferInstance inferInstance inferInstance rfl rfl rfl (by omega) HJ))|(apply u_g;(focus rfl);apply op_gyes rfl rfl rfl rfl rfl;((apply u_k 13;(focus rfl);exact u_idxAgg ⟨rfl,rfl,rfl⟩ rfl inferInstance inferInstance inferInstance rfl rfl rfl (by omega) HJ)))|exact z_auto|exact c_A (c1)|fail))|refine thenA_n ?_|refine thenA_r ?_|refine thenA_e ?_|refine inB_n ?_|refine inB_r ?_|refine inB_hit ?_|refine inB_miss rfl ?_|((first|refine AL_cl rfl rfl rfl ⟨fun hc=>?_,fun hc=>?_⟩|refine AD_cl rfl rfl rfl ⟨fun hc=>?_,fun hc=>?_⟩) <;> (fail_if_success (have q:(true = true):=hc)) <;> (fail_if_success (have q:(false = false):=hc)) <;> (repeat rw [List.length_map] at hc) <;> (try exact absd hc))|refine AW_cond_nil rfl rfl (fun hc=>?_) ?_))
       refine ⟨(z + 1,acc ++ [⟨(z:Int) + 1,L⟩]),⟨by simp only;omega,by simp;omega,by simp only;rw [List.append_assoc];exact h3⟩,by simp only;omega,?_⟩
       exact le_auto
   · have h3':acc = Q:=by rw [← h3,List.drop_of_length_le (by omega)];simp [setFrom]
     clear hOf hstep HP HB HE h3
     (refine w0 ?_;(repeat' first|refine W2.mk ?_ ?_|refine W1.mk fun hc=>?_))
     refine rt1 ?_
     exact rv_ownM rfl rfl rfl h3'
theorem vs_Of (cOf:List Rn → List Rn) (s:List Kn) (hs:knsTot s) (hOf:∀ l ∈ tabOf s,Fn Tryz.prog 186 [rnsB l] (.own 200 2 ((cOf l).map rnP))) :
   Fn Tryz.prog 175 [knsB s] (.own 149 2 ((vsOf cOf s).map knP)):=by
 have h1:=vs_fill s hs
 have h2:=vs_tset cOf (tabOf s) (tabOf_len s) hOf
 refine fi Tryz.func175 Tryz.ntmps175 ?_
 (have kc1:=h1;have kc2:=h2;refine w0 ?_;(repeat' first|refine W2.mk ?_ ?_|refine W1.mk fun hc=>?_);all_goals clear kc2 kc1)
 refine rt1 ?_
 exact rv_own rfl rfl rfl
theorem vs_Same1 (x y:Kn) (hx:x.runs.length ≤ 1000000000):FnM Tryz.prog 176 [knC x,knC y] [] (bC (decide (x = y))) []:=by
 have h1:=sl_EqualRn x.runs y.runs hx
 have hE:x = y ↔ x.rep = y.rep ∧ x.runs = y.runs:=by cases x;cases y;simp
 obtain ⟨r,l⟩:=x
 obtain ⟨r',l'⟩:=y
 simp only at h1 hE hx
 show FnM Tryz.prog _ [.per (aggP [rawP (.int .i64 r),rnsP l]),.per (aggP [rawP (.int .i64 r'),rnsP l'])] [] _ []
 by_cases e1:r = r'
 · by_cases e2:l = l'
   · rw [decide_eq_true (hE.2 ⟨e1,e2⟩)]
     rw [decide_eq_true e2] at h1
     clear hE e2
     refine fmi Tryz.func176 Tryz.ntmps176 ?_
     (have kc1:=h1;refine w0 ?_;(repeat' first|refine W2.mk ?_ ?_|refine W1.mk fun hc=>?_);all_goals clear kc1)
     (refine ⟨(by first|exact .inl rfl|exact .inr rfl),resM1 [] rfl rfl .nil ?_⟩)
     exact rvm_bool rfl (by first|rfl|(simp [e1];done))
   · rw [decide_eq_false (fun h=>e2 (hE.1 h).2)]
     rw [decide_eq_false e2] at h1
     clear hE e2
     refine fmi Tryz.func176 Tryz.ntmps176 ?_
     (have kc1:=h1;refine w0 ?_;(repeat' first|refine W2.mk ?_ ?_|refine W1.mk fun hc=>?_);all_goals clear kc1)
     (refine ⟨(by first|exact .inl rfl|exact .inr rfl),resM1 [] rfl rfl .nil ?_⟩)
     exact rvm_bool rfl (by first|rfl|(simp [e1];done))
 · rw [decide_eq_false (fun h=>e1 (hE.1 h).1)]
   clear hE
   refine fmi Tryz.func176 Tryz.ntmps176 ?_
   (have kc1:=h1;refine w0 ?_;(repeat' first|refine W2.mk ?_ ?_|refine W1.mk fun hc=>?_);all_goals clear kc1)
   (refine ⟨(by first|exact .inl rfl|exact .inr rfl),resM1 [] rfl rfl .nil ?_⟩)
   exact rvm_bool rfl (by first|rfl|(simp [e1];done))
abbrev sm1C:Cnt:=.per (rawP (.func (.func 176) #[] #[]))
theorem sl_EqualFuncKn (l m:List Kn) (hl:knsSz l):Fn Tryz.prog 174 [knsB l,knsB m,sm1C] (boR (decide (l = m))):=by
 have hl0:=hl.1
 refine fi Tryz.func174 Tryz.ntmps174 ?_
 (refine w0 ?_;(repeat' first|refine W2.mk ?_ ?_|refine W1.mk fun hc=>?_))
 · refine rt1 ?_
   exact rv_bool rfl (by symm;rw [decide_eq_false_iff_not];intro h;subst h;omega)
 have hlm:l.length = m.length:=by omega
 refine AW_loopP (fun k=>k ≤ l.length ∧ l.take k = m.take k) (fun k=>mkSt [(1,knsB m),(2,sm1C),(15,knsB l),(16,iC .i64 (l.length:Nat)),(17,iC .i64 (k:Nat))] []) (fun k=>l.length - k) 0 ⟨Nat.zero_le _,rfl⟩ ?_ ?_
 · exact le_auto
 · rintro k ⟨hk,hpre⟩
   by_cases hlt:k < l.length
   · have hltm:k < m.length:=by omega
     have c1:=vs_Same1 l[k] m[k] (hl.at hlt)
     by_cases he:l[k] = m[k]
     · rw [decide_eq_true he] at c1
       (refine w0 ?_;(repeat' (first|refine W2.mk ?_ ?_|refine W1.mk fun hc=>?_|((first|apply AL_t rfl|apply AL_0 rfl|apply AD_t rfl|apply AD_0 rfl);(focus (first|(exact c_Vx [] c1)|(apply u_g;(focus rfl);apply op_gyes rfl rfl rfl rfl rfl;first|(exact c_Vx [] c1))));refine w0 ?_))))
       refine ⟨k + 1,⟨by omega,?_⟩,by omega,?_⟩
       · rw [take_snoc' l k hlt,take_snoc' m k hltm,hpre,he]
       · exact le_auto
     · rw [decide_eq_false he] at c1
       have hd:¬ l = m:=fun h=>he (by subst h;rfl)
       rw [decide_eq_false hd]
       clear hd he
       (refine w0 ?_;(repeat' (first|refine W2.mk ?_ ?_|refine W1.mk fun hc=>?_|((first|apply AL_t rfl|apply AL_0 rfl|apply AD_t rfl|apply AD_0 rfl);(focus (first|(exact c_Vx [] c1)|(apply u_g;(focus rfl);apply op_gyes rfl rfl rfl rfl rfl;first|(exact c_Vx [] c1))));refine w0 ?_))))
       refine rt1 ?_
       exact rv_bool rfl rfl
   · rw [List.take_of_length_le (by omega),List.take_of_length_le (by omega)] at hpre
     rw [decide_eq_true hpre]
     clear hpre
     (refine w0 ?_;(repeat' first|refine W2.mk ?_ ?_|refine W1.mk fun hc=>?_))
     refine rt1 ?_
     exact rv_bool rfl rfl
theorem vs_Same (a b A B:List Kn) (hA:Fn Tryz.prog 175 [knsB a] (.own 149 2 (A.map knP))) (hB:Fn Tryz.prog 175 [knsB b] (.own 149 2 (B.map knP))) (hsz:knsSz A) :
   Fn Tryz.prog 159 [knsB a,knsB b] (boR (decide (A = B))):=by
 have h1:=sl_EqualFuncKn A B hsz
 refine fi Tryz.func159 Tryz.ntmps159 ?_
 (have ko1:=hA;have ko2:=hB;have kc1:=h1;refine w0 ?_;(repeat' first|refine W2.mk ?_ ?_|refine W1.mk fun hc=>?_);all_goals clear kc1 ko2 ko1)
 refine rt1 ?_
 exact rv_bool rfl rfl
end
end Go.Proofs.YthlffkjpklpkfaaGreat
