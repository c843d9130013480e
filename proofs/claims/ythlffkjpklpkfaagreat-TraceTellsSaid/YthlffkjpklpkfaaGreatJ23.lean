/- Texts joined: MsX MsY MsZ MsF. -/
import Derived.Test.YthlffkjpklpkfaaGreatJ22
import Derived.Test.YthlffkjpklpkfaaGreatJ07
set_option maxRecDepth 10000
set_option maxHeartbeats 8000000
namespace Go.Proofs.YthlffkjpklpkfaaGreat
open Go.RowKit
/-- how big a message may be -/
structure MsB (m:Msg):Prop where
 flt:m.flt.length ≤ 4096
 ksz:pcsSz m.know
 kfew:fewK m.know
 kln:m.know.length ≤ 4096
 thr:m.there.length ≤ 1000000
 its:m.its.length ≤ 4096
 prt:∀ p ∈ (prtP m).1,p.length ≤ 100000000
theorem prtP_len (m:Msg):(prtP m).1.length ≤ 3:=by
 unfold prtP
 split
 · simp
 split
 · simp
 split
 · simp
 · simp
theorem nums_len2 (m:Msg) (h:∀ n ∈ msNums m,okNum n):((msNums m).flatMap numI).length ≤ 63:=by
 have h1:=msNums_len m
 have key:∀ l:List Int,(∀ n ∈ l,okNum n) → (l.flatMap numI).length ≤ 9 * l.length:=by
   intro l
   induction l with
   | nil=>intro _;simp
   | cons n l ih=>
     intro h
     have h2:=h n (by simp)
     have h3:=numI_le n h2
     have h4:=ih (fun k hk=>h k (List.mem_cons_of_mem _ hk))
     rw [List.flatMap_cons,List.length_append,List.length_cons];omega
 have:=key _ h
 omega
theorem nil_len {α:Type} (l:List α):decide (l = []) = decide ((l.length:Int) = 0):=by
 cases l with
 | nil=>rfl
 | cons x l=>rw [decide_eq_false (by simp),decide_eq_false (by simp;omega)]
section
theorem ms_parts (m:Msg) (hB:MsB m):Fn Tryz.prog 37 [msC m] (.tup2 (.per (lstP 1 ((prtP m).1.map bysQ'))) (boR (prtP m).2)):=by
 obtain ⟨b1,b2,b3,b4,b5,b6,b7⟩:=hB
 clear b7
 unfold prtP
 by_cases c1:m.kind = 1
 · simp only [if_pos c1]
   have a1:=(fcode_Ranges m.flt b1 (decide (rgsOk m.flt)) (by simp)).frz
   have a2:=(kc_Know m.know b2 b3 b4 (decide (pcsOk m.know)) (by simp)).frz
   clear b2 b3
   generalize decide (rgsOk m.flt) = d1 at *
   generalize decide (pcsOk m.know) = d2 at *
   cases d1 <;> cases d2
   all_goals
     simp only [if_true,Bool.false_eq_true,if_false,Bool.and_true,Bool.and_false] at a1 a2 ⊢
     refine fi Tryz.func37 Tryz.ntmps37 ?_
     (have kc1:=a1;have kc2:=a2;refine w0 ?_;(repeat' first|refine W2.mk ?_ ?_|refine W1.mk fun hc=>?_);all_goals clear kc2 kc1)
     refine rt2 ?_ ?_
     · exact rv_per rfl
     · exact rv_bool rfl rfl
 simp only [if_neg c1]
 by_cases c4:m.kind = 4
 · simp only [if_pos c4]
   have a1:=(fcode_Ranges [m.rg] (by simp) (decide (rgsOk [m.rg])) (by simp)).frz
   have a2:=(ms_sum m.sum).frz
   clear b2 b3
   generalize decide (rgsOk [m.rg]) = d1 at *
   cases d1
   all_goals
     simp only [if_true,Bool.false_eq_true,if_false] at a1 ⊢
     refine fi Tryz.func37 Tryz.ntmps37 ?_
     (have kc1:=a1;have kc2:=a2;refine w0 ?_;(repeat' first|refine W2.mk ?_ ?_|refine W1.mk fun hc=>?_);all_goals clear kc2 kc1)
     refine rt2 ?_ ?_
     · exact rv_per rfl
     · exact rv_bool rfl rfl
 simp only [if_neg c4]
 by_cases c5:m.kind = 5
 · simp only [if_pos c5]
   have a1:=(icode_Items m.its b6).frz
   have a2:=(kc_Know m.know b2 b3 b4 (decide (pcsOk m.know)) (by simp)).frz
   clear b2 b3
   generalize m.its.all itR = d1 at *
   generalize decide (pcsOk m.know) = d2 at *
   cases d1 <;> cases d2
   all_goals
     simp only [if_true,Bool.false_eq_true,if_false,Bool.and_true,Bool.and_false] at a1 a2 ⊢
     refine fi Tryz.func37 Tryz.ntmps37 ?_
     (have kc1:=a1;have kc2:=a2;refine w0 ?_;(repeat' first|refine W2.mk ?_ ?_|refine W1.mk fun hc=>?_);all_goals clear kc2 kc1)
     refine rt2 ?_ ?_
     · exact rv_per rfl
     · exact rv_bool rfl rfl
 simp only [if_neg c5]
 clear b2 b3
 refine fi Tryz.func37 Tryz.ntmps37 ?_
 (refine w0 ?_;(repeat' first|refine W2.mk ?_ ?_|refine W1.mk fun hc=>?_))
 refine rt2 ?_ ?_
 · exact rv_nill rfl
 · exact rv_bool rfl rfl
theorem ms_right (m:Msg) (h1:m.there.length ≤ 1000000) (h2:m.its.length ≤ 4096):Fn Tryz.prog 38 [msC m] (boR (rgtP m)):=by
 unfold rgtP
 by_cases c1:m.kind = 1
 · rw [if_pos c1,nil_len]
   obtain ⟨q,hq⟩:∃ q,rdBl m.there = q:=⟨_,rfl⟩
   obtain ⟨x,e⟩:=q
   rw [hq]
   simp only
   by_cases he:e = 0
   · subst he
     obtain ⟨bits,probes,row⟩:=x
     have a1:=(bl_Read_ok m.there h1 0 hq).2
     clear hq
     refine fi Tryz.func38 Tryz.ntmps38 ?_
     (have kc1:=a1;refine w0 ?_;(repeat' first|refine W2.mk ?_ ?_|refine W1.mk fun hc=>?_);all_goals clear kc1)
     all_goals
       refine rt1 ?_
       refine rv_bool rfl ?_
       first|(simp [*];done)|(simp [*];omega)|(rw [Bool.eq_iff_iff];simp [*];done)|(rw [Bool.eq_iff_iff];simp [*];omega)
   · have a1:=bl_Read_no m.there h1 0 hq he
     clear hq
     refine fi Tryz.func38 Tryz.ntmps38 ?_
     (have kc1:=a1;refine w0 ?_;(repeat' first|refine W2.mk ?_ ?_|refine W1.mk fun hc=>?_);all_goals clear kc1)
     all_goals
       refine rt1 ?_
       refine rv_bool rfl ?_
       first|(simp [*];done)|(rw [show (e == 0) = false by simpa using he,decide_eq_false he,decide_eq_false hc,Bool.or_self,Bool.and_false])|(simp [*];omega)|(rw [Bool.eq_iff_iff];simp [*];done)|(rw [Bool.eq_iff_iff];simp [*];omega)
 rw [if_neg c1]
 by_cases c2:m.kind = 2 ∨ m.kind = 3 ∨ m.kind = 4
 · rw [if_pos c2]
   rcases c2 with c2|c2|c2
   all_goals
     refine fi Tryz.func38 Tryz.ntmps38 ?_
     (refine w0 ?_;(repeat' first|refine W2.mk ?_ ?_|refine W1.mk fun hc=>?_))
     refine rt1 ?_
     exact rv_bool rfl rfl
 rw [if_neg c2]
 by_cases c5:m.kind = 5
 · rw [if_pos c5,nil_len]
   refine fi Tryz.func38 Tryz.ntmps38 ?_
   (refine w0 ?_;(repeat' first|refine W2.mk ?_ ?_|refine W1.mk fun hc=>?_))
   refine AW_loopP (X:=Nat) (fun i=>i ≤ m.its.length ∧ (m.its.take i).all itR = true)
     (fun i=>mkSt [(1,.ptr 1 0 0),(37,.per (itsP m.its)),(38,iC .i64 (m.its.length:Nat)),(39,iC .i64 (i:Nat))] [(1,.box 50 ((msCs m).map Cnt.per))]) (fun i=>m.its.length - i) 0 ⟨Nat.zero_le _,rfl⟩ ?_ ?_
   · exact le_auto
   · rintro i ⟨g1,g2⟩
     by_cases hi:i < m.its.length
     · have a1:=item_Right m.its[i]
       cases hr:itR m.its[i] with
       | false=>
         rw [hr] at a1
         have hu:ulk m.its = false:=by
           rw [← Bool.not_eq_true,ulk_iff,List.all_eq_true]
           exact fun q=>by have:=q.1 _ (List.getElem_mem hi);rw [hr] at this;cases this
         rw [hu,Bool.false_and]
         (have kc1:=a1;refine w0 ?_;(repeat' first|refine W2.mk ?_ ?_|refine W1.mk fun hc=>?_);all_goals clear kc1)
         refine rt1 ?_
         exact rv_bool rfl rfl
       | true=>
         rw [hr] at a1
         have g3:(m.its.take (i + 1)).all itR = true:=by rw [take_snoc' _ i hi,List.all_append,g2];simp [hr]
         clear g2
         (have kc1:=a1;refine w0 ?_;(repeat' first|refine W2.mk ?_ ?_|refine W1.mk fun hc=>?_);all_goals clear kc1)
         refine ⟨i + 1,⟨by omega,g3⟩,by omega,?_⟩
         exact le_auto
     · rw [List.take_of_length_le (by omega)] at g2
       have a1:=ms_unlike m.its (by omega) g2
       cases hu:ulk m.its with
       | false=>
         rw [hu] at a1
         rw [Bool.false_and]
         (have kc1:=a1;refine w0 ?_;(repeat' first|refine W2.mk ?_ ?_|refine W1.mk fun hc=>?_);all_goals clear kc1)
         refine rt1 ?_
         exact rv_bool rfl rfl
       | true=>
         rw [hu] at a1
         rw [Bool.true_and]
         (have kc1:=a1;refine w0 ?_;(repeat' first|refine W2.mk ?_ ?_|refine W1.mk fun hc=>?_);all_goals clear kc1)
         all_goals
           refine rt1 ?_
           refine rv_bool rfl ?_
           first|(simp [*];done)|(simp [*];omega)|(rw [Bool.eq_iff_iff];simp [*];done)|(rw [Bool.eq_iff_iff];simp [*];omega)
 rw [if_neg c5]
 by_cases c6:m.kind = 6
 · rw [decide_eq_true c6,Bool.true_and]
   refine fi Tryz.func38 Tryz.ntmps38 ?_
   (refine w0 ?_;(repeat' first|refine W2.mk ?_ ?_|refine W1.mk fun hc=>?_))
   refine rt1 ?_
   exact rv_bool rfl (by simp)
 · rw [decide_eq_false c6,Bool.false_and]
   refine fi Tryz.func38 Tryz.ntmps38 ?_
   (refine w0 ?_;(repeat' first|refine W2.mk ?_ ?_|refine W1.mk fun hc=>?_))
   refine rt1 ?_
   exact rv_bool rfl rfl
theorem ms_Put (m:Msg) (hB:MsB m):Fn Tryz.prog 14 [msC m] (.tup2 (.per (bysP (putM m).1)) (inR (putM m).2)):=by
 have a1:=ms_numbers m
 have a2:=ms_parts m hB
 have a3:=ms_right m hB.thr hB.its
 have hI:=msR_iff m hB.its
 have hl:=msNums_len m
 unfold putM
 by_cases n1:(msNums m).all isNum = true
 · have ok:=nums_ok.1 n1
   have a4:=(varint_Put [] (msNums m) (by simp;omega) ok).frz
   rw [List.nil_append] at a4
   rw [n1,Bool.true_and] at hI
   have hlen:=nums_len2 m ok
   cases n2:(prtP m).2 with
   | false=>
     rw [n2] at hI a2
     have hI:msR m = false:=hI
     rw [hI]
     simp only [Bool.false_eq_true,if_false]
     clear hB hI ok
     refine fi Tryz.func14 Tryz.ntmps14 ?_
     (have kc1:=a1;have kc2:=a2;have kc3:=a3;have kc4:=a4;refine w0 ?_;(repeat' first|refine W2.mk ?_ ?_|refine W1.mk fun hc=>?_);all_goals clear kc4 kc3 kc2 kc1)
     all_goals refine rt2 ?_ ?_
     all_goals first|exact rv_nill rfl|exact rv_int rfl rfl
   | true=>
     rw [n2] at hI a2
     by_cases n3:1 ≤ m.ses
     · rw [decide_eq_true n3] at hI
       have hI:msR m = rgtP m:=by simpa using hI
       rw [hI]
       cases n4:rgtP m with
       | false=>
         rw [n4] at a3
         simp only [Bool.false_eq_true,if_false]
         clear hB hI ok
         refine fi Tryz.func14 Tryz.ntmps14 ?_
         (have kc1:=a1;have kc2:=a2;have kc3:=a3;have kc4:=a4;refine w0 ?_;(repeat' first|refine W2.mk ?_ ?_|refine W1.mk fun hc=>?_);all_goals clear kc4 kc3 kc2 kc1)
         all_goals refine rt2 ?_ ?_
         all_goals first|exact rv_nill rfl|exact rv_int rfl rfl
       | true=>
         rw [n4] at a3
         simp only [if_true]
         have hp:=hB.prt
         have hpl:=prtP_len m
         have a5:=ms_put ((msNums m).flatMap numI) (prtP m).1 (by omega) (by omega) hp
         have e:(msNums m).flatMap numI ++ (prtP m).1.flatMap txB = loadB m:=by rw [prt_ok n2];rfl
         have hll:(loadB m).length ≤ 1000000000:=by
           rw [← e,List.length_append]
           have key:∀ l:List (List UInt8),(∀ p ∈ l,p.length ≤ 100000000) → (l.flatMap txB).length ≤ 100000009 * l.length:=by
             intro l
             induction l with
             | nil=>intro _;simp
             | cons n l ih=>
               intro h
               have h2:=h n (by simp)
               have h3:=txB_len n h2
               have h4:=ih (fun k hk=>h k (List.mem_cons_of_mem _ hk))
               rw [List.flatMap_cons,List.length_append,List.length_cons];omega
           have:=key _ hp
           omega
         rw [e] at a5
         have a6:=(fr_Make [loadB m] (by simp) (fun p hp=>by rw [List.mem_singleton] at hp;subst hp;exact hll)).frz
         rw [show [loadB m].flatten = loadB m by simp] at a6
         clear hB hI ok e hp
         generalize loadB m = L at *
         generalize (prtP m).1 = ps at *
         by_cases hL:L.length ≤ 32768
         · rw [if_pos hL,if_pos hL] at a6
           simp only [if_pos hL]
           refine fi Tryz.func14 Tryz.ntmps14 ?_
           (have kc1:=a1;have kc2:=a2;have kc3:=a3;have kc4:=a4;have kc5:=a5;have kc6:=a6;refine w0 ?_;(repeat' first|refine W2.mk ?_ ?_|refine W1.mk fun hc=>?_);all_goals clear kc6 kc5 kc4 kc3 kc2 kc1)
           all_goals refine rt2 ?_ ?_
           all_goals first|exact rv_lstM rfl rfl|exact rv_int rfl rfl
         · rw [if_neg hL,if_neg hL] at a6
           simp only [if_neg hL]
           refine fi Tryz.func14 Tryz.ntmps14 ?_
           (have kc1:=a1;have kc2:=a2;have kc3:=a3;have kc4:=a4;have kc5:=a5;have kc6:=a6;refine w0 ?_;(repeat' first|refine W2.mk ?_ ?_|refine W1.mk fun hc=>?_);all_goals clear kc6 kc5 kc4 kc3 kc2 kc1)
           all_goals refine rt2 ?_ ?_
           all_goals first|exact rv_lstM rfl rfl|exact rv_int rfl rfl
     · rw [decide_eq_false n3] at hI
       have hI:msR m = false:=by simpa using hI
       rw [hI]
       simp only [Bool.false_eq_true,if_false]
       clear hB hI ok
       refine fi Tryz.func14 Tryz.ntmps14 ?_
       (have kc1:=a1;have kc2:=a2;have kc3:=a3;have kc4:=a4;refine w0 ?_;(repeat' first|refine W2.mk ?_ ?_|refine W1.mk fun hc=>?_);all_goals clear kc4 kc3 kc2 kc1)
       all_goals refine rt2 ?_ ?_
       all_goals first|exact rv_nill rfl|exact rv_int rfl rfl
 · have ok:¬ ∀ n ∈ msNums m,okNum n:=fun q=>n1 (nums_ok.2 q)
   have a4:=(varint_PutBad [] (msNums m) ok).frz
   have hI:msR m = false:=by rw [hI,Bool.eq_false_iff.2 n1];rfl
   rw [hI]
   simp only [Bool.false_eq_true,if_false]
   clear hB hI ok
   refine fi Tryz.func14 Tryz.ntmps14 ?_
   (have kc1:=a1;have kc2:=a2;have kc3:=a3;have kc4:=a4;refine w0 ?_;(repeat' first|refine W2.mk ?_ ?_|refine W1.mk fun hc=>?_);all_goals clear kc4 kc3 kc2 kc1)
   all_goals refine rt2 ?_ ?_
   all_goals first|exact rv_nill rfl|exact rv_int rfl rfl
end
theorem textSt_len (most:Int) (l:List UInt8) (e:Int):(textSt most l e).1.length ≤ l.length:=by
 have h:=(textSt_suf most l e).length_le
 unfold textSt
 split
 · simp
 · split
   · simp
   · simp only [List.length_take]
     have:=(withinSt_suf 0 most l e).length_le
     omega
abbrev ptsC (ps:List (List UInt8)):Cnt:=.per (lstP 1 (ps.map bysQ'))
abbrev msBox (m:Msg):Blk:=.box 50 ((msCs m).map Cnt.per)
section
theorem mr_texts (n:Nat) (hn:n ≤ 10) (l:List UInt8) (e:Int) (hl:l.length ≤ 1000000000):FnM Tryz.prog 107 [.aggK rdC .aggN,iC .i64 (n:Nat)] [(1000,rdBox l e)] (ptsC (rdTs n l e).1) [(1000,rdBox (rdTs n l e).2.1 (rdTs n l e).2.2)]:=by
 generalize hR:rdTs n l e = R
 refine fmi Tryz.func107 Tryz.ntmps107 ?_
 (refine w0 ?_;(repeat' first|refine W2.mk ?_ ?_|refine W1.mk fun hc=>?_))
 refine AW_le (Le_nil 5 600 27 1 rfl rfl) ?_
 refine AW_loopP (X:=Nat × List (List UInt8) × List UInt8 × Int) (fun x=>x.1 ≤ n ∧ x.2.1.length = x.1 ∧ x.2.2.1.length ≤ 1000000000 ∧ (x.2.1 ++ (rdTs (n - x.1) x.2.2.1 x.2.2.2).1,(rdTs (n - x.1) x.2.2.1 x.2.2.2).2) = R)
   (fun x=>mkSt [(2,.ptr 2 0 0),(5,.row 600 0),(6,iC .i64 (n:Nat)),(7,iC .i64 (x.1:Nat))] [(1000,rdBox x.2.2.1 x.2.2.2),(2,.box 123 [rdC]),(600,.row 27 1 (x.2.1.map bysQ'))]) (fun x=>n - x.1) (0,[],l,e) ⟨Nat.zero_le _,rfl,hl,hR⟩ ?_ ?_
 · exact le_auto
 · rintro ⟨k,ps,l,e⟩ ⟨h1,h2,h3,h4⟩
   simp only at h1 h2 h3 h4 ⊢
   by_cases hk:k < n
   · obtain ⟨m,hm⟩:∃ m,n - k = m + 1:=⟨n - k - 1,by omega⟩
     rw [hm,rdTs] at h4
     dsimp only at h4
     have a1:=r_Text l e 281474976710656
     have hs:=(textSt_suf 281474976710656 l e).length_le
     have ht:=textSt_len 281474976710656 l e
     generalize textSt maxN l e = q at *
     obtain ⟨x,l',e'⟩:=q
     simp only at a1 hs ht h4
     have hx:(⟨x.toArray⟩:ByteArray).size ≤ 1000000000000:=by show x.toArray.size ≤ _;rw [List.size_toArray];omega
     clear hR
     (have kr1:=a1;refine w0 ?_;(repeat' (first|refine W2.mk ?_ ?_|refine W1.mk fun hc=>?_|((first|apply AL_t rfl|apply AL_0 rfl|apply AD_t rfl|apply AD_0 rfl);(focus (first|((apply u_k 10;(focus rfl);exact op_bs ⟨rfl,rfl,rfl⟩ rfl inferInstance inferInstance inferInstance rfl hx))|(apply u_g;(focus rfl);apply op_gyes rfl rfl rfl rfl rfl;first|((apply u_k 10;(focus rfl);exact op_bs ⟨rfl,rfl,rfl⟩ rfl inferInstance inferInstance inferInstance rfl hx)))));refine w0 ?_)));all_goals clear kr1)
     refine ⟨(k + 1,ps ++ [x],l',e'),⟨by simp only;omega,by simp [h2],by simp only;omega,?_⟩,by simp only;omega,?_⟩
     · rw [← h4,show n - (k + 1) = m by omega];simp
     · exact le_auto
   · rw [show n - k = 0 by omega] at h4
     have h4:(ps ++ [],l,e) = R:=h4
     rw [List.append_nil] at h4
     subst h4
     refine AW_le (Le_fz 600 _ 27 1 rfl rfl) ?_
     (refine w0 ?_;(repeat' first|refine W2.mk ?_ ?_|refine W1.mk fun hc=>?_))
     (refine ⟨(by first|exact .inl rfl|exact .inr rfl),resM1 [(1000,1000)] rfl rfl ?_ ?_⟩;(focus (repeat (first|exact AllX.nil|(refine AllX.cons rfl ?_ ?_;(focus first|rfl|skip))))))
     exact rvm rfl rfl
end
/-- a message's numbers and its parts, read -/
def rdHL (l:List UInt8):Msg × List (List UInt8) × List UInt8 × Int:=
 let a:=rdHd l
 let b:=rdNs a.1 a.2.1 a.2.2
 let c:=rdTs (ptsN b.1.kind) b.2.1 b.2.2
 (b.1,c.1,c.2.1,c.2.2)
theorem wrap_u64_byte (c:UInt8):IntKind.u64.wrap (c.toNat:Int) = (c.toNat:Int):=by
 have:=c.toNat_lt
 rw [IntKind.wrap_u64];omega
/-- a number with bytes laid behind its own -/
def orS:List UInt8 → Nat → Int → Int
 | [],_,s=>s
 | c :: l,i,s=>orS l (i + 1) (bits .or .u64 s (IntKind.u64.wrap ((c.toNat:Int) * 2 ^ min (8 * (i:Int)).toNat IntKind.u64.bits)))
theorem orS_nn:∀ (l:List UInt8) (i:Nat) (s:Int),0 ≤ s → 0 ≤ orS l i s:=by
 intro l
 induction l with
 | nil=>intro i s h;exact h
 | cons c l ih=>intro i s h;exact ih _ _ (wrapu_nn _)
theorem or_step {i a:Nat} (h:i < 8) (ha:a < 256 ^ i) (c:UInt8):bits .or .u64 (a:Int) (IntKind.u64.wrap ((c.toNat:Int) * 2 ^ min (8 * (i:Int)).toNat IntKind.u64.bits)) = ((a + 256 ^ i * c.toNat:Nat):Int):=by
 have hc:=c.toNat_lt
 have e:min (8 * (i:Int)).toNat IntKind.u64.bits = 8 * i:=by
   show min (8 * (i:Int)).toNat 64 = 8 * i
   omega
 have e2:(2:Int) ^ (8 * i) = ((256 ^ i:Nat):Int):=by
   rw [show (256:Nat) ^ i = 2 ^ (8 * i) from (Nat.pow_mul 2 8 i).symm];simp
 have hp:256 ^ i * 256 ≤ 256 ^ 8:=by rw [← Nat.pow_succ];exact Nat.pow_le_pow_right (by decide) h
 have h8:(256:Nat) ^ 8 = 18446744073709551616:=by decide
 have hm:256 ^ i * c.toNat ≤ 256 ^ i * 255:=Nat.mul_le_mul_left _ (by omega)
 have hm2:256 ^ i * 256 = 256 ^ i * 255 + 256 ^ i:=by omega
 rw [e,e2]
 have e3:IntKind.u64.wrap ((c.toNat:Int) * ((256 ^ i:Nat):Int)) = ((256 ^ i * c.toNat:Nat):Int):=by
   rw [← Int.natCast_mul,Nat.mul_comm c.toNat,IntKind.wrap_u64]
   generalize 256 ^ i * c.toNat = q at *
   omega
 rw [e3,u64_or_nat _ _ (by omega) (by omega)]
 have:=Nat.two_pow_add_eq_or_of_lt (i:=8 * i) (b:=a) (by rw [Nat.pow_mul];exact ha) c.toNat
 rw [Nat.pow_mul] at this
 have this:256 ^ i * c.toNat + a = 256 ^ i * c.toNat ||| a:=this
 rw [Nat.or_comm,← this,Nat.add_comm]
theorem numL_take {l:List UInt8} {i:Nat} (h:i < l.length):numL (l.take (i + 1)) = numL (l.take i) + 256 ^ i * l[i].toNat:=by
 rw [List.take_add_one,List.getElem?_eq_getElem h,Option.toList_some,numL_app,List.length_take,show min i l.length = i by omega,Nat.pow_mul]
 simp [numL]
section
theorem mr_message (l:List UInt8) (hl:l.length ≤ 1000000000):FnM Tryz.prog 67 [.aggK rdC .aggN] [(1000,rdBox l 0)] (.tup2 (msC (rdHL l).1) (ptsC (rdHL l).2.1)) [(1000,rdBox (rdHL l).2.2.1 (rdHL l).2.2.2)]:=by
 generalize hR:rdHL l = R
 dsimp only [rdHL,rdHd] at hR
 have a1:=r_Within l 0 1 6
 have s1:=(withinSt_suf 1 6 l 0).length_le
 generalize withinSt 1 6 l 0 = q1 at *
 obtain ⟨k,l1,e1⟩:=q1
 dsimp only at a1 s1 hR
 have a2:=r_Within l1 e1 1 281474976710656
 have s2:=(withinSt_suf 1 281474976710656 l1 e1).length_le
 generalize withinSt 1 281474976710656 l1 e1 = q2 at *
 obtain ⟨s,l2,e2⟩:=q2
 dsimp only at a2 s2 hR
 have a3:=r_Number l2 e2
 have s3:=(numSt_suf l2 e2).length_le
 generalize numSt l2 e2 = q3 at *
 obtain ⟨n,l3,e3⟩:=q3
 dsimp only at a3 s3 hR
 dsimp only [rdNs] at hR
 by_cases c1:k = 1
 · subst c1
   simp only [if_true] at hR
   have a4:=r_Number l3 e3
   have s4:=(numSt_suf l3 e3).length_le
   generalize numSt l3 e3 = q4 at *
   obtain ⟨n4,l4,e4⟩:=q4
   dsimp only at a4 s4 hR
   have a5:=r_Number l4 e4
   have s5:=(numSt_suf l4 e4).length_le
   generalize numSt l4 e4 = q5 at *
   obtain ⟨n5,l5,e5⟩:=q5
   dsimp only at a5 s5 hR
   have a6:=r_Within l5 e5 0 64
   have s6:=(withinSt_suf 0 64 l5 e5).length_le
   generalize withinSt 0 64 l5 e5 = q6 at *
   obtain ⟨n6,l6,e6⟩:=q6
   dsimp only at a6 s6 hR
   have a7:=r_Bool l6 e6
   have s7:=(withinSt_suf 0 1 l6 e6).length_le
   generalize withinSt 0 1 l6 e6 = q7 at *
   obtain ⟨n7,l7,e7⟩:=q7
   dsimp only at a7 s7 hR
   have a8:FnM Tryz.prog 107 [.aggK rdC .aggN,iC .i64 3] _ _ _:=mr_texts 3 (by decide) l7 e7 (by omega)
   rw [show ptsN 1 = 3 from rfl] at hR
   generalize rdTs 3 l7 e7 = q8 at *
   obtain ⟨ps,l8,e8⟩:=q8
   dsimp only at a8 hR
   subst hR
   dsimp only
   clear s1 s2 s3 s4 s5 s6 s7
   refine fmi Tryz.func67 Tryz.ntmps67 ?_
   (have kr1:=a1;have kr2:=a2;have kr3:=a3;have kr4:=a4;have kr5:=a5;have kr6:=a6;have kr7:=a7;have km1:=(show FnMs [(1000,1000)] _ _ _ _ _ _ from a8);refine w0 ?_;(repeat' first|refine W2.mk ?_ ?_|refine W1.mk fun hc=>?_);all_goals clear km1 kr7 kr6 kr5 kr4 kr3 kr2 kr1)
   (refine ⟨(by first|exact .inl rfl|exact .inr rfl),resM2 [(1000,1000)] rfl rfl ?_ ?_ ?_⟩;(focus (repeat (first|exact AllX.nil|(refine AllX.cons rfl ?_ ?_;(focus first|rfl|skip))))))
   · exact rvm_wk (rvm_cellA inferInstance inferInstance rfl rfl rfl rfl rfl rfl) aI
   · exact rvm rfl rfl
 rw [if_neg c1] at hR
 by_cases c2:k = 2
 · subst c2
   simp only [if_true] at hR
   have a4:=r_Bool l3 e3
   generalize withinSt 0 1 l3 e3 = q4 at *
   obtain ⟨n4,l4,e4⟩:=q4
   dsimp only at a4 hR
   rw [show ptsN 2 = 0 from rfl] at hR
   subst hR
   clear s1 s2 s3
   refine fmi Tryz.func67 Tryz.ntmps67 ?_
   (have kr1:=a1;have kr2:=a2;have kr3:=a3;have kr4:=a4;refine w0 ?_;(repeat' first|refine W2.mk ?_ ?_|refine W1.mk fun hc=>?_);all_goals clear kr4 kr3 kr2 kr1)
   (refine ⟨(by first|exact .inl rfl|exact .inr rfl),resM2 [(1000,1000)] rfl rfl ?_ ?_ ?_⟩;(focus (repeat (first|exact AllX.nil|(refine AllX.cons rfl ?_ ?_;(focus first|rfl|skip))))))
   · exact rvm_wk (rvm_cellA inferInstance inferInstance rfl rfl rfl rfl rfl rfl) aI
   · exact rvm_wk (A:=rawP (.slice none 0 0)) (rvm rfl rfl) nil_imp
 rw [if_neg c2] at hR
 by_cases c3:k = 3
 · subst c3
   simp only [if_true] at hR
   have a4:=r_Number l3 e3
   generalize numSt l3 e3 = q4 at *
   obtain ⟨n4,l4,e4⟩:=q4
   dsimp only at a4 hR
   rw [show ptsN 3 = 0 from rfl] at hR
   subst hR
   clear s1 s2 s3
   refine fmi Tryz.func67 Tryz.ntmps67 ?_
   (have kr1:=a1;have kr2:=a2;have kr3:=a3;have kr4:=a4;refine w0 ?_;(repeat' first|refine W2.mk ?_ ?_|refine W1.mk fun hc=>?_);all_goals clear kr4 kr3 kr2 kr1)
   (refine ⟨(by first|exact .inl rfl|exact .inr rfl),resM2 [(1000,1000)] rfl rfl ?_ ?_ ?_⟩;(focus (repeat (first|exact AllX.nil|(refine AllX.cons rfl ?_ ?_;(focus first|rfl|skip))))))
   · exact rvm_wk (rvm_cellA inferInstance inferInstance rfl rfl rfl rfl rfl rfl) aI
   · exact rvm_wk (A:=rawP (.slice none 0 0)) (rvm rfl rfl) nil_imp
 rw [if_neg c3] at hR
 by_cases c5:k = 5
 · subst c5
   simp only [if_true] at hR
   have a4:=r_Number l3 e3
   have s4:=(numSt_suf l3 e3).length_le
   generalize numSt l3 e3 = q4 at *
   obtain ⟨n4,l4,e4⟩:=q4
   dsimp only at a4 s4 hR
   have a7:=r_Bool l4 e4
   have s7:=(withinSt_suf 0 1 l4 e4).length_le
   generalize withinSt 0 1 l4 e4 = q7 at *
   obtain ⟨n7,l7,e7⟩:=q7
   dsimp only at a7 s7 hR
   have a8:FnM Tryz.prog 107 [.aggK rdC .aggN,iC .i64 2] _ _ _:=mr_texts 2 (by decide) l7 e7 (by omega)
   rw [show ptsN 5 = 2 from rfl] at hR
   generalize rdTs 2 l7 e7 = q8 at *
   obtain ⟨ps,l8,e8⟩:=q8
   dsimp only at a8 hR
   subst hR
   dsimp only
   clear s1 s2 s3 s4 s7
   refine fmi Tryz.func67 Tryz.ntmps67 ?_
   (have kr1:=a1;have kr2:=a2;have kr3:=a3;have kr4:=a4;have kr5:=a7;have km1:=(show FnMs [(1000,1000)] _ _ _ _ _ _ from a8);refine w0 ?_;(repeat' first|refine W2.mk ?_ ?_|refine W1.mk fun hc=>?_);all_goals clear km1 kr5 kr4 kr3 kr2 kr1)
   (refine ⟨(by first|exact .inl rfl|exact .inr rfl),resM2 [(1000,1000)] rfl rfl ?_ ?_ ?_⟩;(focus (repeat (first|exact AllX.nil|(refine AllX.cons rfl ?_ ?_;(focus first|rfl|skip))))))
   · exact rvm_wk (rvm_cellA inferInstance inferInstance rfl rfl rfl rfl rfl rfl) aI
   · exact rvm rfl rfl
 rw [if_neg c5] at hR
 by_cases c6:k = 6
 · subst c6
   simp only [if_true] at hR
   have a4:=r_Within l3 e3 1 281474976710656
   generalize withinSt 1 281474976710656 l3 e3 = q4 at *
   obtain ⟨n4,l4,e4⟩:=q4
   dsimp only at a4 hR
   rw [show ptsN 6 = 0 from rfl] at hR
   subst hR
   clear s1 s2 s3
   refine fmi Tryz.func67 Tryz.ntmps67 ?_
   (have kr1:=a1;have kr2:=a2;have kr3:=a3;have kr4:=a4;refine w0 ?_;(repeat' first|refine W2.mk ?_ ?_|refine W1.mk fun hc=>?_);all_goals clear kr4 kr3 kr2 kr1)
   (refine ⟨(by first|exact .inl rfl|exact .inr rfl),resM2 [(1000,1000)] rfl rfl ?_ ?_ ?_⟩;(focus (repeat (first|exact AllX.nil|(refine AllX.cons rfl ?_ ?_;(focus first|rfl|skip))))))
   · exact rvm_wk (rvm_cellA inferInstance inferInstance rfl rfl rfl rfl rfl rfl) aI
   · exact rvm_wk (A:=rawP (.slice none 0 0)) (rvm rfl rfl) nil_imp
 rw [if_neg c6] at hR
 by_cases c4:k = 4
 · subst c4
   have a8:FnM Tryz.prog 107 [.aggK rdC .aggN,iC .i64 2] _ _ _:=mr_texts 2 (by decide) l3 e3 (by omega)
   rw [show ptsN 4 = 2 from rfl] at hR
   generalize rdTs 2 l3 e3 = q8 at *
   obtain ⟨ps,l8,e8⟩:=q8
   dsimp only at a8 hR
   subst hR
   dsimp only
   clear s1 s2 s3
   refine fmi Tryz.func67 Tryz.ntmps67 ?_
   (have kr1:=a1;have kr2:=a2;have kr3:=a3;have km1:=(show FnMs [(1000,1000)] _ _ _ _ _ _ from a8);refine w0 ?_;(repeat' first|refine W2.mk ?_ ?_|refine W1.mk fun hc=>?_);all_goals clear km1 kr3 kr2 kr1)
   (refine ⟨(by first|exact .inl rfl|exact .inr rfl),resM2 [(1000,1000)] rfl rfl ?_ ?_ ?_⟩;(focus (repeat (first|exact AllX.nil|(refine AllX.cons rfl ?_ ?_;(focus first|rfl|skip))))))
   · exact rvm_wk (rvm_cellA inferInstance inferInstance rfl rfl rfl rfl rfl rfl) aI
   · exact rvm rfl rfl
 · rw [show ptsN k = 0 by unfold ptsN;rw [if_neg c1,if_neg (fun q=>q.elim c4 c5)]] at hR
   subst hR
   clear s1 s2 s3
   refine fmi Tryz.func67 Tryz.ntmps67 ?_
   (have kr1:=a1;have kr2:=a2;have kr3:=a3;refine w0 ?_;(repeat' first|refine W2.mk ?_ ?_|refine W1.mk fun hc=>?_);all_goals clear kr3 kr2 kr1)
   (refine ⟨(by first|exact .inl rfl|exact .inr rfl),resM2 [(1000,1000)] rfl rfl ?_ ?_ ?_⟩;(focus (repeat (first|exact AllX.nil|(refine AllX.cons rfl ?_ ?_;(focus first|rfl|skip))))))
   · exact rvm_wk (rvm_cellA inferInstance inferInstance rfl rfl rfl rfl rfl rfl) aI
   · exact rvm_wk (A:=rawP (.slice none 0 0)) (rvm rfl rfl) nil_imp
end
section
theorem ms_fill (m:Msg) (ps:List (List UInt8)) (hp:ps.length = ptsN m.kind) (hs:∀ p ∈ ps,p.length ≤ 1000000000) (h0:m.sum = 0) :
   ∃ m',FnM Tryz.prog 69 [.ptr 1000 0 0,ptsC ps] [(1000,msBox m)] (iC .i64 (rdPs m ps).2) [(1000,msBox m')] ∧ ((rdPs m ps).2 = 0 → m' = (rdPs m ps).1):=by
 by_cases c1:m.kind = 1
 · rw [ptsN,if_pos c1] at hp
   obtain ⟨x,y,z,rfl⟩:∃ x y z,ps = [x,y,z]:=by
     match ps,hp with
     | [x,y,z],_=>exact ⟨x,y,z,rfl⟩
   have a1:=(fcode_ReadRanges x (hs x (by simp))).frz
   have a2:=(kc_ReadKnow y (hs y (by simp))).frz
   clear hs hp
   unfold rdPs
   simp only [if_pos c1,List.getD_cons_zero,List.getD_cons_succ]
   generalize rdRgs x = f at *
   generalize rdKnow y = g at *
   obtain ⟨f1,f2⟩:=f
   obtain ⟨g1,g2⟩:=g
   by_cases hf:f2 = 0
   · subst hf
     refine ⟨{ m with flt:=f1,know:=g1,there:=z },?_,fun h=>?_⟩
     · have e:(if (0:Int) ≠ 0 then ((m,(0:Int)):Msg × Int) else if g2 ≠ 0 then (m,g2) else ({ m with flt:=f1,know:=g1,there:=z },0)).2 = g2:=by
         rw [if_neg (by simp)]
         by_cases hg:g2 = 0
         · rw [if_neg (by simp [hg]),hg]
         · rw [if_pos hg]
       simp only at e ⊢
       rw [e]
       clear e h0
       refine fmi Tryz.func69 Tryz.ntmps69 ?_
       (have kc1:=a1;have kc2:=a2;refine w0 ?_;(repeat' first|refine W2.mk ?_ ?_|refine W1.mk fun hc=>?_);all_goals clear kc2 kc1)
       (refine ⟨(by first|exact .inl rfl|exact .inr rfl),resM1 [(1000,1000)] rfl rfl ?_ ?_⟩;(focus (repeat (first|exact AllX.nil|(refine AllX.cons rfl ?_ ?_;(focus first|rfl|skip))))))
       exact rvm_int rfl rfl
     · simp only at h ⊢
       rw [if_neg (by simp)] at h ⊢
       by_cases hg:g2 = 0
       · rw [if_neg (by simp [hg])]
       · rw [if_pos hg] at h;exact absurd h hg
   · refine ⟨{ m with flt:=f1,there:=z },?_,fun h=>?_⟩
     · simp only
       rw [if_pos hf]
       clear h0
       refine fmi Tryz.func69 Tryz.ntmps69 ?_
       (have kc1:=a1;have kc2:=a2;refine w0 ?_;(repeat' first|refine W2.mk ?_ ?_|refine W1.mk fun hc=>?_);all_goals clear kc2 kc1)
       (refine ⟨(by first|exact .inl rfl|exact .inr rfl),resM1 [(1000,1000)] rfl rfl ?_ ?_⟩;(focus (repeat (first|exact AllX.nil|(refine AllX.cons rfl ?_ ?_;(focus first|rfl|skip))))))
       exact rvm_int rfl rfl
     · simp only at h
       rw [if_pos hf] at h;exact absurd h hf
 by_cases c4:m.kind = 4
 · rw [ptsN,if_neg c1,if_pos (.inl c4)] at hp
   obtain ⟨x,y,rfl⟩:∃ x y,ps = [x,y]:=by
     match ps,hp with
     | [x,y],_=>exact ⟨x,y,rfl⟩
   have a1:=(fcode_ReadRanges x (hs x (by simp))).frz
   have hy:=hs y (by simp)
   clear hs hp
   unfold rdPs
   simp only [if_neg c1,if_pos c4,List.getD_cons_zero,List.getD_cons_succ]
   generalize rdRgs x = f at *
   obtain ⟨f1,f2⟩:=f
   by_cases hf:f2 = 0
   · subst hf
     simp only
     rw [if_neg (by simp)]
     by_cases hb:f1.length = 1 ∧ y.length = 8
     · rw [if_pos hb]
       obtain ⟨b1,b2⟩:=hb
       obtain ⟨r,rfl⟩:∃ r,f1 = [r]:=by
         match f1,b1 with
         | [r],_=>exact ⟨r,rfl⟩
       refine ⟨{ m with rg:=r,sum:=numL y },?_,fun _=>rfl⟩
       simp only
       refine fmi Tryz.func69 Tryz.ntmps69 ?_
       (have kc1:=a1;refine w0 ?_;(repeat' first|refine W2.mk ?_ ?_|refine W1.mk fun hc=>?_);all_goals clear kc1)
       refine AW_loopP (X:=Nat) (fun i=>i ≤ 8) (fun i=>mkSt [(0,.ptr 1000 0 0),(5,iC .i64 0),(76,.per (bysP y)),(77,iC .i64 (y.length:Nat)),(78,iC .i64 (i:Nat))] [(1000,msBox { m with rg:=r,sum:=numL (y.take i) })]) (fun i=>8 - i) 0 (by omega) ?_ ?_
       · rw [show numL (y.take 0) = m.sum by rw [h0];rfl]
         exact le_auto
       · intro i hi
         by_cases hlt:i < 8
         · have hil:i < y.length:=by omega
           have hS:=numL_take hil
           have hlo:=numL_lt (y.take i)
           rw [List.length_take,show min i y.length = i by omega] at hlo
           have hz:=or_step hlt hlo y[i]
           rw [← hS] at hz
           have hw:=wrap_u64_byte y[i]
           have hz1:IntKind.u64.wrap (IntKind.u64.wrap (y[i].toNat:Int) * 2 ^ min (8 * (i:Int)).toNat IntKind.u64.bits) = IntKind.u64.wrap ((y[i].toNat:Int) * 2 ^ min (8 * (i:Int)).toNat IntKind.u64.bits):=by rw [wrap_u64_byte]
           generalize IntKind.u64.wrap ((y[i].toNat:Int) * 2 ^ min (8 * (i:Int)).toNat IntKind.u64.bits) = Z at *
           generalize numL (y.take i) = s at *
           generalize hs':numL (y.take (i + 1)) = s' at *
           clear hS hlo a1
           (refine w0 ?_;(repeat' (first|refine W2.mk ?_ ?_|refine W1.mk fun hc=>?_|((first|apply AL_t rfl|apply AL_0 rfl|apply AD_t rfl|apply AD_0 rfl);(focus (first|((exact op_shl ⟨rfl,rfl,rfl⟩ rfl rfl rfl (by omega) hz1))|((exact op_or ⟨rfl,rfl,rfl⟩ rfl rfl rfl hz))|(apply u_g;(focus rfl);apply op_gyes rfl rfl rfl rfl rfl;first|((exact op_shl ⟨rfl,rfl,rfl⟩ rfl rfl rfl (by omega) hz1))|((exact op_or ⟨rfl,rfl,rfl⟩ rfl rfl rfl hz)))));refine w0 ?_))))
           refine ⟨i + 1,by omega,by omega,?_⟩
           rw [hs']
           exact le_auto
         · rw [List.take_of_length_le (by omega)]
           clear a1
           (refine w0 ?_;(repeat' first|refine W2.mk ?_ ?_|refine W1.mk fun hc=>?_))
           (refine ⟨(by first|exact .inl rfl|exact .inr rfl),resM1 [(1000,1000)] rfl rfl ?_ ?_⟩;(focus (repeat (first|exact AllX.nil|(refine AllX.cons rfl ?_ ?_;(focus first|rfl|skip))))))
           exact rvm_int rfl rfl
     · rw [if_neg hb]
       refine ⟨m,?_,fun h=>absurd h (by simp)⟩
       clear h0
       refine fmi Tryz.func69 Tryz.ntmps69 ?_
       (have kc1:=a1;refine w0 ?_;(repeat' first|refine W2.mk ?_ ?_|refine W1.mk fun hc=>?_);all_goals clear kc1)
       all_goals first|(exfalso;apply hb;constructor <;> first|omega|(simp only [List.getElem_cons_succ,List.getElem_cons_zero] at *;omega))|skip
       all_goals (refine ⟨(by first|exact .inl rfl|exact .inr rfl),resM1 [(1000,1000)] rfl rfl ?_ ?_⟩;(focus (repeat (first|exact AllX.nil|(refine AllX.cons rfl ?_ ?_;(focus first|rfl|skip))))))
       all_goals exact rvm_int rfl rfl
   · simp only
     rw [if_pos hf]
     refine ⟨{ m with sum:=(orS y 0 0).toNat },?_,fun h=>absurd h hf⟩
     have hF:=orS_nn y 0 0 (Int.le_refl 0)
     generalize hFe:orS y 0 0 = F at *
     refine fmi Tryz.func69 Tryz.ntmps69 ?_
     (have kc1:=a1;refine w0 ?_;(repeat' first|refine W2.mk ?_ ?_|refine W1.mk fun hc=>?_);all_goals clear kc1)
     refine AW_loopP (X:=Nat × Nat) (fun x=>x.1 ≤ y.length ∧ orS (y.drop x.1) x.1 (x.2:Int) = F) (fun x=>mkSt [(0,.ptr 1000 0 0),(5,iC .i64 f2),(76,.per (bysP y)),(77,iC .i64 (y.length:Nat)),(78,iC .i64 (x.1:Nat))] [(1000,msBox { m with sum:=x.2 })]) (fun x=>y.length - x.1) (0,0) ⟨Nat.zero_le _,hFe⟩ ?_ ?_
     · rw [show (((0,0):Nat × Nat)).2 = m.sum from h0.symm]
       exact le_auto
     · rintro ⟨i,s⟩ ⟨g1,g2⟩
       simp only at g1 g2 ⊢
       by_cases hil:i < y.length
       · rw [List.drop_eq_getElem_cons hil,orS] at g2
         have hz1:IntKind.u64.wrap (IntKind.u64.wrap (y[i].toNat:Int) * 2 ^ min (8 * (i:Int)).toNat IntKind.u64.bits) = IntKind.u64.wrap ((y[i].toNat:Int) * 2 ^ min (8 * (i:Int)).toNat IntKind.u64.bits):=by rw [wrap_u64_byte]
         generalize IntKind.u64.wrap ((y[i].toNat:Int) * 2 ^ min (8 * (i:Int)).toNat IntKind.u64.bits) = Z at *
         obtain ⟨s',hz⟩:∃ s':Nat,bits .or .u64 (s:Int) Z = (s':Int):=⟨_,(Int.toNat_of_nonneg (wrapu_nn _)).symm⟩
         rw [hz] at g2
         clear a1 hFe hF
         (refine w0 ?_;(repeat' (first|refine W2.mk ?_ ?_|refine W1.mk fun hc=>?_|((first|apply AL_t rfl|apply AL_0 rfl|apply AD_t rfl|apply AD_0 rfl);(focus (first|((exact op_shl ⟨rfl,rfl,rfl⟩ rfl rfl rfl (by omega) hz1))|((exact op_or ⟨rfl,rfl,rfl⟩ rfl rfl rfl hz))|(apply u_g;(focus rfl);apply op_gyes rfl rfl rfl rfl rfl;first|((exact op_shl ⟨rfl,rfl,rfl⟩ rfl rfl rfl (by omega) hz1))|((exact op_or ⟨rfl,rfl,rfl⟩ rfl rfl rfl hz)))));refine w0 ?_))))
         refine ⟨(i + 1,s'),⟨by simp only;omega,g2⟩,by simp only;omega,?_⟩
         exact le_auto
       · rw [List.drop_of_length_le (by omega)] at g2
         have g2:(s:Int) = F:=g2
         have e:F.toNat = s:=by omega
         rw [e]
         clear a1 hFe hF g2
         (refine w0 ?_;(repeat' first|refine W2.mk ?_ ?_|refine W1.mk fun hc=>?_))
         (refine ⟨(by first|exact .inl rfl|exact .inr rfl),resM1 [(1000,1000)] rfl rfl ?_ ?_⟩;(focus (repeat (first|exact AllX.nil|(refine AllX.cons rfl ?_ ?_;(focus first|rfl|skip))))))
         exact rvm_int rfl rfl
 by_cases c5:m.kind = 5
 · rw [ptsN,if_neg c1,if_pos (.inr c5)] at hp
   obtain ⟨x,y,rfl⟩:∃ x y,ps = [x,y]:=by
     match ps,hp with
     | [x,y],_=>exact ⟨x,y,rfl⟩
   have a1:=(icode_ReadItems x (hs x (by simp))).frz
   have a2:=(kc_ReadKnow y (hs y (by simp))).frz
   clear hs hp
   unfold rdPs
   simp only [if_neg c1,if_neg c4,if_pos c5,List.getD_cons_zero,List.getD_cons_succ]
   generalize rdItems x = f at *
   generalize rdKnow y = g at *
   obtain ⟨f1,f2⟩:=f
   obtain ⟨g1,g2⟩:=g
   by_cases hf:f2 = 0
   · subst hf
     refine ⟨{ m with its:=f1,know:=g1 },?_,fun h=>?_⟩
     · have e:(if (0:Int) ≠ 0 then ((m,(0:Int)):Msg × Int) else if g2 ≠ 0 then (m,g2) else ({ m with its:=f1,know:=g1 },0)).2 = g2:=by
         rw [if_neg (by simp)]
         by_cases hg:g2 = 0
         · rw [if_neg (by simp [hg]),hg]
         · rw [if_pos hg]
       simp only at e ⊢
       rw [e]
       clear e h0
       refine fmi Tryz.func69 Tryz.ntmps69 ?_
       (have kc1:=a1;have kc2:=a2;refine w0 ?_;(repeat' first|refine W2.mk ?_ ?_|refine W1.mk fun hc=>?_);all_goals clear kc2 kc1)
       (refine ⟨(by first|exact .inl rfl|exact .inr rfl),resM1 [(1000,1000)] rfl rfl ?_ ?_⟩;(focus (repeat (first|exact AllX.nil|(refine AllX.cons rfl ?_ ?_;(focus first|rfl|skip))))))
       exact rvm_int rfl rfl
     · simp only at h ⊢
       rw [if_neg (by simp)] at h ⊢
       by_cases hg:g2 = 0
       · rw [if_neg (by simp [hg])]
       · rw [if_pos hg] at h;exact absurd h hg
   · refine ⟨{ m with its:=f1 },?_,fun h=>?_⟩
     · simp only
       rw [if_pos hf]
       clear h0
       refine fmi Tryz.func69 Tryz.ntmps69 ?_
       (have kc1:=a1;have kc2:=a2;refine w0 ?_;(repeat' first|refine W2.mk ?_ ?_|refine W1.mk fun hc=>?_);all_goals clear kc2 kc1)
       (refine ⟨(by first|exact .inl rfl|exact .inr rfl),resM1 [(1000,1000)] rfl rfl ?_ ?_⟩;(focus (repeat (first|exact AllX.nil|(refine AllX.cons rfl ?_ ?_;(focus first|rfl|skip))))))
       exact rvm_int rfl rfl
     · simp only at h
       rw [if_pos hf] at h;exact absurd h hf
 · unfold rdPs
   simp only [if_neg c1,if_neg c4,if_neg c5]
   refine ⟨m,?_,fun _=>rfl⟩
   clear hs hp h0
   refine fmi Tryz.func69 Tryz.ntmps69 ?_
   (refine w0 ?_;(repeat' first|refine W2.mk ?_ ?_|refine W1.mk fun hc=>?_))
   (refine ⟨(by first|exact .inl rfl|exact .inr rfl),resM1 [(1000,1000)] rfl rfl ?_ ?_⟩;(focus (repeat (first|exact AllX.nil|(refine AllX.cons rfl ?_ ?_;(focus first|rfl|skip))))))
   exact rvm_int rfl rfl
end
end Go.Proofs.YthlffkjpklpkfaaGreat
