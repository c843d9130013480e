/- Texts joined: Kw. -/
import Derived.Test.YtembiemaiacdfaaGreatJ15
import Derived.Test.YtembiemaiacdfaaGreatJ05
set_option maxRecDepth 10000
set_option maxHeartbeats 8000000
namespace Go.Proofs.YtembiemaiacdfaaGreat
open Go.RowKit
theorem Cj:∀ a b:List UInt8,cp b a = - cp a b:=by
 intro a
 induction a with
 | nil=>intro b;cases b <;> rfl
 | cons x a ih=>
   intro b
   cases b with
   | nil=>rfl
   | cons y b=>
     simp only [cp]
     by_cases h1:x.toNat < y.toNat
     · rw [if_neg (show ¬ y.toNat < x.toNat by omega),if_pos h1,if_pos h1];rfl
     · by_cases h2:y.toNat < x.toNat
       · rw [if_pos h2,if_neg h1,if_pos h2]
       · rw [if_neg h2,if_neg h1,if_neg h1,if_neg h2,ih]
theorem Ck (s t:ByteArray):bG t s = - bG s t:=Cj _ _
def eV (k:List Pc):Prop:=k.length ≤ 1000000000 ∧ ∀ p ∈ k,cD p.set
theorem eV.at {k:List Pc} (h:eV k) {i:Nat} (hi:i < k.length):cD k[i].set:=h.2 _ (List.getElem_mem hi)
def fG (a b:Rg):Bool:=!a.op && decide (a.hi = b.lo)
section
theorem mr (a b:Rg):Fn Tryz.prog 123 [Hs a,Hs b] (bO (fG a b)):=by
 obtain ⟨lo,hi,op⟩:=a
 obtain ⟨lo',hi',op'⟩:=b
 show Fn Tryz.prog _ [.per (bP [aq (.string lo),aq (.string hi),aq (.bool op)]),.per (bP [aq (.string lo'),aq (.string hi'),aq (.bool op')])] _
 cases op with
 | true=>
   refine fi Tryz.func123 Tryz.ntmps123 ?_
   (refine w0 ?_;(repeat' first|refine W2.mk ?_ ?_|refine W1.mk fun hc=>?_))
   refine aQ ?_
   exact af rfl rfl
 | false=>
   refine fi Tryz.func123 Tryz.ntmps123 ?_
   (refine w0 ?_;(repeat' first|refine W2.mk ?_ ?_|refine W1.mk fun hc=>?_))
   refine aQ ?_
   exact af rfl (by unfold fG;rw [Bool.eq_iff_iff];simp [gz])
theorem iG (k:List Pc) (hk:eV k) (b:Bool) (hb:b = true ↔ aO k):Fn Tryz.prog 66 [bS k] (bO b):=by
 have hl0:=hk.1
 refine fi Tryz.func66 Tryz.ntmps66 ?_
 (refine w0 ?_;(repeat' first|refine W2.mk ?_ ?_|refine W1.mk fun hc=>?_))
 refine ah (X:=Nat) (fun z=>z ≤ k.length ∧ ∀ i,i < z → qc k i)
   (fun z=>aN [(0,bS k),(6,bS k),(7,iC .i64 (k.length:Nat)),(8,iC .i64 (z:Nat))] []) (fun z=>k.length - z) 0 ⟨Nat.zero_le _,fun i h=>absurd h (Nat.not_lt_zero _)⟩ ?_ ?_
 · exact ab
 · rintro z ⟨h1,h2⟩
   by_cases hz:z < k.length
   · have c1:=fd k[z].rg
     have c2:=E9 k[z].set (hk.at hz).sz (decide (bK k[z].set)) (by simp)
     have hE:k[z].set ≠ [] ↔ ¬ k[z].set.length = 0:=by simp
     have hno:¬ qc k z → b = false:=fun h=>by rw [← Bool.not_eq_true,hb];exact fun q=>h (q z hz)
     by_cases q1:eJ k[z].rg = true
     · rw [q1] at c1
       by_cases q2:k[z].set.length = 0
       · have hb0:=hno (fun h=>absurd q2 (hE.1 (h hz).2.1))
         subst hb0
         clear hb hno h2 hE q1
         (have kc1:=c1;have kc2:=c2;refine w0 ?_;(repeat' first|refine W2.mk ?_ ?_|refine W1.mk fun hc=>?_);all_goals clear kc2 kc1)
         refine aQ ?_
         exact af rfl rfl
       · by_cases q3:bK k[z].set
         · rw [decide_eq_true q3] at c2
           by_cases h0:0 < z
           · obtain ⟨q,rfl⟩:∃ q,z = q + 1:=⟨z - 1,by omega⟩
             have hqE:((q + 1:Nat):Int) - 1 = (q:Nat):=by omega
             have hq:=(h2 q (by omega)) (by omega)
             have hrq:=(bH _).1 hq.1
             have c3:=e7 k[q].rg.hi k[q + 1].rg.lo (by omega)
             have c4:=mr k[q].rg k[q + 1].rg
             have c5:=mn k[q].set k[q + 1].set (hk.at (by omega)) (hk.at hz) hq.2.2.1 q3
             have hiff:qc k (q + 1) ↔ k[q].rg.op = false ∧ bG k[q].rg.hi k[q + 1].rg.lo ≤ 0 ∧ ¬ (k[q].rg.hi = k[q + 1].rg.lo ∧ k[q].set = k[q + 1].set):=
               ⟨fun h=>(h hz).2.2.2 (by omega),fun h _=>⟨q1,hE.2 q2,q3,fun _=>h⟩⟩
             clear hq hrq
             have hE2:((k[q + 1].set.length:Nat):Int) ≠ 0:=by omega
             cases o:k[q].rg.op with
             | true=>
               have hb0:=hno (fun h=>by have:=(hiff.1 h).1;rw [o] at this;cases this)
               subst hb0
               clear hb hno h2 hE q1 q3 hiff
               (have ke1:=Lib.hid (hqE);have kc1:=c1;have kc2:=c2;have kc3:=c3;have kc4:=c4;have kc5:=c5;refine bq ?_;(repeat' first|refine W2.mk ?_ ?_|refine W1.mk fun hc=>?_);all_goals clear kc5 kc4 kc3 kc2 kc1 ke1)
               all_goals first|(exfalso;simp_all;done)|skip
               refine aQ ?_
               exact af rfl rfl
             | false=>
               by_cases g:bG k[q].rg.hi k[q + 1].rg.lo ≤ 0
               · by_cases e:k[q].rg.hi = k[q + 1].rg.lo
                 · have ht:fG k[q].rg k[q + 1].rg = true:=by simp [fG,o,e]
                   rw [ht] at c4
                   by_cases s:k[q].set = k[q + 1].set
                   · rw [decide_eq_true s] at c5
                     have hb0:=hno (fun h=>(hiff.1 h).2.2 ⟨e,s⟩)
                     subst hb0
                     clear hb hno h2 hE q1 q3 hiff s ht e
                     (have ke1:=Lib.hid (hqE);have kc1:=c1;have kc2:=c2;have kc3:=c3;have kc4:=c4;have kc5:=c5;refine bq ?_;(repeat' first|refine W2.mk ?_ ?_|refine W1.mk fun hc=>?_);all_goals clear kc5 kc4 kc3 kc2 kc1 ke1)
                     all_goals first|(exfalso;simp_all;done)|skip
                     refine aQ ?_
                     exact af rfl rfl
                   · rw [decide_eq_false s] at c5
                     have hok:=hiff.2 ⟨o,g,fun h=>s h.2⟩
                     clear hb hno hE q1 q3 hiff s ht e
                     (have ke1:=Lib.hid (hqE);have kc1:=c1;have kc2:=c2;have kc3:=c3;have kc4:=c4;have kc5:=c5;refine bq ?_;(repeat' first|refine W2.mk ?_ ?_|refine W1.mk fun hc=>?_);all_goals clear kc5 kc4 kc3 kc2 kc1 ke1)
                     all_goals first|(exfalso;simp_all;done)|skip
                     refine ⟨q + 1 + 1,⟨by omega,eD h2 hok⟩,by omega,?_⟩
                     exact ab
                 · have ht:fG k[q].rg k[q + 1].rg = false:=by simp [fG,o,e]
                   rw [ht] at c4
                   have hok:=hiff.2 ⟨o,g,fun h=>e h.1⟩
                   clear hb hno hE q1 q3 hiff ht e c5
                   (have ke1:=Lib.hid (hqE);have kc1:=c1;have kc2:=c2;have kc3:=c3;have kc4:=c4;refine bq ?_;(repeat' first|refine W2.mk ?_ ?_|refine W1.mk fun hc=>?_);all_goals clear kc4 kc3 kc2 kc1 ke1)
                   all_goals first|(exfalso;simp_all;done)|skip
                   refine ⟨q + 1 + 1,⟨by omega,eD h2 hok⟩,by omega,?_⟩
                   exact ab
               · have hb0:=hno (fun h=>g (hiff.1 h).2.1)
                 subst hb0
                 clear hb hno h2 hE q1 q3 hiff
                 (have ke1:=Lib.hid (hqE);have kc1:=c1;have kc2:=c2;have kc3:=c3;have kc4:=c4;have kc5:=c5;refine bq ?_;(repeat' first|refine W2.mk ?_ ?_|refine W1.mk fun hc=>?_);all_goals clear kc5 kc4 kc3 kc2 kc1 ke1)
                 all_goals first|(exfalso;simp_all;done)|skip
                 refine aQ ?_
                 exact af rfl rfl
           · have hok:qc k z:=fun _=>⟨q1,hE.2 q2,q3,fun h=>absurd h h0⟩
             obtain rfl:z = 0:=by omega
             clear hb hno hE q1 q3
             (have kc1:=c1;have kc2:=c2;refine w0 ?_;(repeat' first|refine W2.mk ?_ ?_|refine W1.mk fun hc=>?_);all_goals clear kc2 kc1)
             refine ⟨0 + 1,⟨by omega,eD h2 hok⟩,by omega,?_⟩
             exact ab
         · rw [decide_eq_false q3] at c2
           have hb0:=hno (fun h=>q3 (h hz).2.2.1)
           subst hb0
           clear hb hno h2 hE q1 q3
           (have kc1:=c1;have kc2:=c2;refine w0 ?_;(repeat' first|refine W2.mk ?_ ?_|refine W1.mk fun hc=>?_);all_goals clear kc2 kc1)
           refine aQ ?_
           exact af rfl rfl
     · rw [Bool.not_eq_true] at q1
       rw [q1] at c1
       have hb0:=hno (fun h=>by have:=(h hz).1;rw [q1] at this;cases this)
       subst hb0
       clear hb hno h2 hE q1
       (have kc1:=c1;have kc2:=c2;refine w0 ?_;(repeat' first|refine W2.mk ?_ ?_|refine W1.mk fun hc=>?_);all_goals clear kc2 kc1)
       refine aQ ?_
       exact af rfl rfl
   · have hb1:b = true:=hb.2 (fun i hi=>h2 i (by omega))
     subst hb1
     clear hb h2
     (refine w0 ?_;(repeat' first|refine W2.mk ?_ ?_|refine W1.mk fun hc=>?_))
     refine aQ ?_
     exact af rfl rfl
end
end Go.Proofs.YtembiemaiacdfaaGreat
