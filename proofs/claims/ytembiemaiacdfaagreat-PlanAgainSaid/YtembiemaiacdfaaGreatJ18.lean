/- Texts joined: Kw. -/
import Derived.Test.YtembiemaiacdfaaGreatJ16
import Derived.Test.YtembiemaiacdfaaGreatJ05
set_option maxRecDepth 10000
set_option maxHeartbeats 8000000
namespace Go.Proofs.YtembiemaiacdfaaGreat
open Go.RowKit
theorem cmpL_swap:∀ a b:List UInt8,cmpL b a = - cmpL a b:=by
 intro a
 induction a with
 | nil=>intro b;cases b <;> rfl
 | cons x a ih=>
   intro b
   cases b with
   | nil=>rfl
   | cons y b=>
     simp only [cmpL]
     by_cases h1:x.toNat < y.toNat
     · rw [if_neg (show ¬ y.toNat < x.toNat by omega),if_pos h1,if_pos h1];rfl
     · by_cases h2:y.toNat < x.toNat
       · rw [if_pos h2,if_neg h1,if_pos h2]
       · rw [if_neg h2,if_neg h1,if_neg h1,if_neg h2,ih]
theorem cmpB_swap (s t:ByteArray):cmpB t s = - cmpB s t:=cmpL_swap _ _
/-- not too long -/
def pcsSz (k:List Pc):Prop:=k.length ≤ 1000000000 ∧ ∀ p ∈ k,knsTot p.set
theorem pcsSz.at {k:List Pc} (h:pcsSz k) {i:Nat} (hi:i < k.length):knsTot k[i].set:=h.2 _ (List.getElem_mem hi)
def touchB (a b:Rg):Bool:=!a.op && decide (a.hi = b.lo)
section
theorem know_touch (a b:Rg):Fn Tryz.prog 123 [rgC a,rgC b] (boR (touchB a b)):=by
 obtain ⟨lo,hi,op⟩:=a
 obtain ⟨lo',hi',op'⟩:=b
 show Fn Tryz.prog _ [.per (aggP [rawP (.string lo),rawP (.string hi),rawP (.bool op)]),.per (aggP [rawP (.string lo'),rawP (.string hi'),rawP (.bool op')])] _
 cases op with
 | true=>
   refine fi Tryz.func123 Tryz.ntmps123 ?_
   (refine w0 ?_;(repeat' first|refine W2.mk ?_ ?_|refine W1.mk fun hc=>?_))
   refine rt1 ?_
   exact rv_bool rfl rfl
 | false=>
   refine fi Tryz.func123 Tryz.ntmps123 ?_
   (refine w0 ?_;(repeat' first|refine W2.mk ?_ ?_|refine W1.mk fun hc=>?_))
   refine rt1 ?_
   exact rv_bool rfl (by unfold touchB;rw [Bool.eq_iff_iff];simp [toL_inj'])
theorem know_Right (k:List Pc) (hk:pcsSz k) (b:Bool) (hb:b = true ↔ pcsOk k):Fn Tryz.prog 66 [pcsB k] (boR b):=by
 have hl0:=hk.1
 refine fi Tryz.func66 Tryz.ntmps66 ?_
 (refine w0 ?_;(repeat' first|refine W2.mk ?_ ?_|refine W1.mk fun hc=>?_))
 refine AW_loopP (X:=Nat) (fun z=>z ≤ k.length ∧ ∀ i,i < z → pcOk k i)
   (fun z=>mkSt [(0,pcsB k),(6,pcsB k),(7,iC .i64 (k.length:Nat)),(8,iC .i64 (z:Nat))] []) (fun z=>k.length - z) 0 ⟨Nat.zero_le _,fun i h=>absurd h (Nat.not_lt_zero _)⟩ ?_ ?_
 · exact le_auto
 · rintro z ⟨h1,h2⟩
   by_cases hz:z < k.length
   · have c1:=span_Right k[z].rg
     have c2:=vs_Right k[z].set (hk.at hz).sz (decide (knsOk k[z].set)) (by simp)
     have hE:k[z].set ≠ [] ↔ ¬ k[z].set.length = 0:=by simp
     have hno:¬ pcOk k z → b = false:=fun h=>by rw [← Bool.not_eq_true,hb];exact fun q=>h (q z hz)
     by_cases q1:rgR k[z].rg = true
     · rw [q1] at c1
       by_cases q2:k[z].set.length = 0
       · have hb0:=hno (fun h=>absurd q2 (hE.1 (h hz).2.1))
         subst hb0
         clear hb hno h2 hE q1
         (have kc1:=c1;have kc2:=c2;refine w0 ?_;(repeat' first|refine W2.mk ?_ ?_|refine W1.mk fun hc=>?_);all_goals clear kc2 kc1)
         refine rt1 ?_
         exact rv_bool rfl rfl
       · by_cases q3:knsOk k[z].set
         · rw [decide_eq_true q3] at c2
           by_cases h0:0 < z
           · obtain ⟨q,rfl⟩:∃ q,z = q + 1:=⟨z - 1,by omega⟩
             have hqE:((q + 1:Nat):Int) - 1 = (q:Nat):=by omega
             have hq:=(h2 q (by omega)) (by omega)
             have hrq:=(rgR_iff _).1 hq.1
             have c3:=key_Cmp k[q].rg.hi k[q + 1].rg.lo (by omega)
             have c4:=know_touch k[q].rg k[q + 1].rg
             have c5:=vs_Same_ok k[q].set k[q + 1].set (hk.at (by omega)) (hk.at hz) hq.2.2.1 q3
             have hiff:pcOk k (q + 1) ↔ k[q].rg.op = false ∧ cmpB k[q].rg.hi k[q + 1].rg.lo ≤ 0 ∧ ¬ (k[q].rg.hi = k[q + 1].rg.lo ∧ k[q].set = k[q + 1].set):=
               ⟨fun h=>(h hz).2.2.2 (by omega),fun h _=>⟨q1,hE.2 q2,q3,fun _=>h⟩⟩
             clear hq hrq
             have hE2:((k[q + 1].set.length:Nat):Int) ≠ 0:=by omega
             cases o:k[q].rg.op with
             | true=>
               have hb0:=hno (fun h=>by have:=(hiff.1 h).1;rw [o] at this;cases this)
               subst hb0
               clear hb hno h2 hE q1 q3 hiff
               (have ke1:=Lib.hid (hqE);have kc1:=c1;have kc2:=c2;have kc3:=c3;have kc4:=c4;have kc5:=c5;refine w0e ?_;(repeat' first|refine W2.mk ?_ ?_|refine W1.mk fun hc=>?_);all_goals clear kc5 kc4 kc3 kc2 kc1 ke1)
               all_goals first|(exfalso;simp_all;done)|skip
               refine rt1 ?_
               exact rv_bool rfl rfl
             | false=>
               by_cases g:cmpB k[q].rg.hi k[q + 1].rg.lo ≤ 0
               · by_cases e:k[q].rg.hi = k[q + 1].rg.lo
                 · have ht:touchB k[q].rg k[q + 1].rg = true:=by simp [touchB,o,e]
                   rw [ht] at c4
                   by_cases s:k[q].set = k[q + 1].set
                   · rw [decide_eq_true s] at c5
                     have hb0:=hno (fun h=>(hiff.1 h).2.2 ⟨e,s⟩)
                     subst hb0
                     clear hb hno h2 hE q1 q3 hiff s ht e
                     (have ke1:=Lib.hid (hqE);have kc1:=c1;have kc2:=c2;have kc3:=c3;have kc4:=c4;have kc5:=c5;refine w0e ?_;(repeat' first|refine W2.mk ?_ ?_|refine W1.mk fun hc=>?_);all_goals clear kc5 kc4 kc3 kc2 kc1 ke1)
                     all_goals first|(exfalso;simp_all;done)|skip
                     refine rt1 ?_
                     exact rv_bool rfl rfl
                   · rw [decide_eq_false s] at c5
                     have hok:=hiff.2 ⟨o,g,fun h=>s h.2⟩
                     clear hb hno hE q1 q3 hiff s ht e
                     (have ke1:=Lib.hid (hqE);have kc1:=c1;have kc2:=c2;have kc3:=c3;have kc4:=c4;have kc5:=c5;refine w0e ?_;(repeat' first|refine W2.mk ?_ ?_|refine W1.mk fun hc=>?_);all_goals clear kc5 kc4 kc3 kc2 kc1 ke1)
                     all_goals first|(exfalso;simp_all;done)|skip
                     refine ⟨q + 1 + 1,⟨by omega,up_step h2 hok⟩,by omega,?_⟩
                     exact le_auto
                 · have ht:touchB k[q].rg k[q + 1].rg = false:=by simp [touchB,o,e]
                   rw [ht] at c4
                   have hok:=hiff.2 ⟨o,g,fun h=>e h.1⟩
                   clear hb hno hE q1 q3 hiff ht e c5
                   (have ke1:=Lib.hid (hqE);have kc1:=c1;have kc2:=c2;have kc3:=c3;have kc4:=c4;refine w0e ?_;(repeat' first|refine W2.mk ?_ ?_|refine W1.mk fun hc=>?_);all_goals clear kc4 kc3 kc2 kc1 ke1)
                   all_goals first|(exfalso;simp_all;done)|skip
                   refine ⟨q + 1 + 1,⟨by omega,up_step h2 hok⟩,by omega,?_⟩
                   exact le_auto
               · have hb0:=hno (fun h=>g (hiff.1 h).2.1)
                 subst hb0
                 clear hb hno h2 hE q1 q3 hiff
                 (have ke1:=Lib.hid (hqE);have kc1:=c1;have kc2:=c2;have kc3:=c3;have kc4:=c4;have kc5:=c5;refine w0e ?_;(repeat' first|refine W2.mk ?_ ?_|refine W1.mk fun hc=>?_);all_goals clear kc5 kc4 kc3 kc2 kc1 ke1)
                 all_goals first|(exfalso;simp_all;done)|skip
                 refine rt1 ?_
                 exact rv_bool rfl rfl
           · have hok:pcOk k z:=fun _=>⟨q1,hE.2 q2,q3,fun h=>absurd h h0⟩
             obtain rfl:z = 0:=by omega
             clear hb hno hE q1 q3
             (have kc1:=c1;have kc2:=c2;refine w0 ?_;(repeat' first|refine W2.mk ?_ ?_|refine W1.mk fun hc=>?_);all_goals clear kc2 kc1)
             refine ⟨0 + 1,⟨by omega,up_step h2 hok⟩,by omega,?_⟩
             exact le_auto
         · rw [decide_eq_false q3] at c2
           have hb0:=hno (fun h=>q3 (h hz).2.2.1)
           subst hb0
           clear hb hno h2 hE q1 q3
           (have kc1:=c1;have kc2:=c2;refine w0 ?_;(repeat' first|refine W2.mk ?_ ?_|refine W1.mk fun hc=>?_);all_goals clear kc2 kc1)
           refine rt1 ?_
           exact rv_bool rfl rfl
     · rw [Bool.not_eq_true] at q1
       rw [q1] at c1
       have hb0:=hno (fun h=>by have:=(h hz).1;rw [q1] at this;cases this)
       subst hb0
       clear hb hno h2 hE q1
       (have kc1:=c1;have kc2:=c2;refine w0 ?_;(repeat' first|refine W2.mk ?_ ?_|refine W1.mk fun hc=>?_);all_goals clear kc2 kc1)
       refine rt1 ?_
       exact rv_bool rfl rfl
   · have hb1:b = true:=hb.2 (fun i hi=>h2 i (by omega))
     subst hb1
     clear hb h2
     (refine w0 ?_;(repeat' first|refine W2.mk ?_ ?_|refine W1.mk fun hc=>?_))
     refine rt1 ?_
     exact rv_bool rfl rfl
end
end Go.Proofs.YtembiemaiacdfaaGreat
