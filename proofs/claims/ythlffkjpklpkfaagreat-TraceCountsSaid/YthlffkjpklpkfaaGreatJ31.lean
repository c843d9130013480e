/- Texts joined: TcC TcK OpenP OpenRg OpenKn OpenMs Lw36 TcV. -/
import Derived.Test.YthlffkjpklpkfaaGreatJ26
import Derived.Test.YthlffkjpklpkfaaGreatJ07
import Derived.Test.YthlffkjpklpkfaaGreatJ30
import Derived.Test.YthlffkjpklpkfaaGreatJ22
import Derived.Test.YthlffkjpklpkfaaGreatJ10
import Derived.Test.YthlffkjpklpkfaaGreatJ13
import Derived.Test.YthlffkjpklpkfaaGreatJ25
set_option maxRecDepth 10000
set_option maxHeartbeats 8000000
namespace Go.Proofs.YthlffkjpklpkfaaGreat
open Go.RowKit
abbrev talCs (l:List (List UInt8)):List PV:=[rawP (.int .i64 (cntK 1 l:Nat)),rawP (.int .i64 (cntK 2 l:Nat)),rawP (.int .i64 (cntK 3 l:Nat)),rawP (.int .i64 (cntK 4 l:Nat)),rawP (.int .i64 (cntK 5 l:Nat)),rawP (.int .i64 (cntK 6 l:Nat)),rawP (.int .i64 (cntK 0 l:Nat)),rawP (.int .i64 (itsN l:Nat))]
abbrev tal8 (a b c d e f g h:Int):List PV:=[rawP (.int .i64 a),rawP (.int .i64 b),rawP (.int .i64 c),rawP (.int .i64 d),rawP (.int .i64 e),rawP (.int .i64 f),rawP (.int .i64 g),rawP (.int .i64 h)]
theorem cntK_one (k:Int) (b:List UInt8):cntK k [b] = if kndB b = k then 1 else 0:=by
 have:=cntK_snoc k [] b
 rw [List.nil_append] at this
 rw [this];simp [cntK]
theorem tal_one (b:List UInt8):talCs [b] = tal8 (if kndB b = 1 then 1 else 0) (if kndB b = 2 then 1 else 0) (if kndB b = 3 then 1 else 0) (if kndB b = 4 then 1 else 0) (if kndB b = 5 then 1 else 0) (if kndB b = 6 then 1 else 0) (if kndB b = 0 then 1 else 0) ((rdM b).1.its.length:Nat):=by
 have e:∀ k,((cntK k [b]:Nat):Int) = if kndB b = k then 1 else 0:=fun k=>by rw [cntK_one];split <;> rfl
 have e2:itsN [b] = (rdM b).1.its.length:=by simp [itsN]
 unfold talCs
 rw [e,e,e,e,e,e,e,e2]
section
theorem tr_one (b:List UInt8) (hb:b.length ≤ 1000000):Fn Tryz.prog 23 [.per (bysP b)] (.per (aggP (talCs [b]))):=by
 have a1:=ms_Read b hb
 obtain ⟨i1,i2,i3,i4,i5⟩:=rdM_its b
 rw [tal_one]
 have hk0:=kndB_err (b:=b)
 have hk1:=kndB_ok (b:=b)
 generalize kndB b = k at *
 generalize rdM b = Q at *
 obtain ⟨m,e⟩:=Q
 dsimp only at a1 i1 i2 i5 hk0 hk1 ⊢
 have hz:k ≠ 5 → m.its.length = 0:=fun h=>by
   by_cases q:m.its = []
   · rw [q];rfl
   · exact absurd (i1 q) h
 by_cases he:e ≠ 0
 · have hk:=hk0.2 he
   subst hk
   rw [hz (by decide)]
   clear hk0 hk1 i1 i5 hz
   refine fi Tryz.func23 Tryz.ntmps23 ?_
   (have kc1:=a1;refine w0 ?_;(repeat' first|refine W2.mk ?_ ?_|refine W1.mk fun hc=>?_);all_goals clear kc1)
   refine rt1 ?_
   exact rv_wk (rv_cA inferInstance inferInstance rfl rfl rfl rfl rfl rfl) aI
 have he:e = 0:=Decidable.not_not.1 he
 subst he
 have hk:=hk1 rfl
 have hn:k ≠ 0:=fun q=>absurd (hk0.1 q) (by simp)
 clear hk0 hk1 i1 i5
 by_cases c5:k = 5
 · subst c5
   clear hz
   have c5:m.kind = 5:=hk.symm
   clear hk
   refine fi Tryz.func23 Tryz.ntmps23 ?_
   (have kc1:=a1;refine w0 ?_;(repeat' first|refine W2.mk ?_ ?_|refine W1.mk fun hc=>?_);all_goals clear kc1)
   refine rt1 ?_
   exact rv_wk (rv_cA inferInstance inferInstance rfl rfl rfl rfl rfl rfl) aI
 rw [hz c5]
 clear hz
 have hkk:k = 1 ∨ k = 2 ∨ k = 3 ∨ k = 4 ∨ k = 6:=by omega
 rcases hkk with h|h|h|h|h
 all_goals
   subst h
   have c:m.kind = _:=hk.symm
   clear hk
   refine fi Tryz.func23 Tryz.ntmps23 ?_
   (have kc1:=a1;refine w0 ?_;(repeat' first|refine W2.mk ?_ ?_|refine W1.mk fun hc=>?_);all_goals clear kc1)
   refine rt1 ?_
   exact rv_wk (rv_cA inferInstance inferInstance rfl rfl rfl rfl rfl rfl) aI
theorem eqO_tal (a b c d e f g h:Int):eqO Tryz.prog 10000 40 [.int .i64 a,.int .i64 b,.int .i64 c,.int .i64 d,.int .i64 e,.int .i64 f,.int .i64 g,.int .i64 h] [.int .i64 0,.int .i64 0,.int .i64 0,.int .i64 0,.int .i64 0,.int .i64 0,.int .i64 0,.int .i64 0] =
   some (decide (a = 0) && (decide (b = 0) && (decide (c = 0) && (decide (d = 0) && (decide (e = 0) && (decide (f = 0) && (decide (g = 0) && (decide (h = 0) && true)))))))):=by kernel_rfl
theorem talG:Tryz.prog.eqGuardType Tryz.prog.depth 40 = false:=by kernel_rfl
theorem tr_add (a b c d e f g h a' b' c' d' e' f' g' h':Int) (k1:0 ≤ a ∧ 0 ≤ b ∧ 0 ≤ c ∧ 0 ≤ d ∧ 0 ≤ e ∧ 0 ≤ f ∧ 0 ≤ g ∧ 0 ≤ h) (k2:0 ≤ a' ∧ 0 ≤ b' ∧ 0 ≤ c' ∧ 0 ≤ d' ∧ 0 ≤ e' ∧ 0 ≤ f' ∧ 0 ≤ g' ∧ 0 ≤ h')
   (k3:a ≤ 1000000000 ∧ b ≤ 1000000000 ∧ c ≤ 1000000000 ∧ d ≤ 1000000000 ∧ e ≤ 1000000000 ∧ f ≤ 1000000000 ∧ g ≤ 1000000000 ∧ h ≤ 1000000000) (k4:a' ≤ 1000000000 ∧ b' ≤ 1000000000 ∧ c' ≤ 1000000000 ∧ d' ≤ 1000000000 ∧ e' ≤ 1000000000 ∧ f' ≤ 1000000000 ∧ g' ≤ 1000000000 ∧ h' ≤ 1000000000)
   (hn:¬ (a' = 0 ∧ b' = 0 ∧ c' = 0 ∧ d' = 0 ∧ e' = 0 ∧ f' = 0 ∧ g' = 0 ∧ h' = 0)) :
   Fn Tryz.prog 22 [.per (aggP (tal8 a b c d e f g h)),.per (aggP (tal8 a' b' c' d' e' f' g' h'))] (.per (aggP (tal8 (a + a') (b + b') (c + c') (d + d') (e + e') (f + f') (g + g') (h + h')))):=by
 have hE:=eqO_tal a' b' c' d' e' f' g' h'
 have hF:(decide (a' = 0) && (decide (b' = 0) && (decide (c' = 0) && (decide (d' = 0) && (decide (e' = 0) && (decide (f' = 0) && (decide (g' = 0) && (decide (h' = 0) && true)))))))) = false:=by
   rw [← Bool.not_eq_true]
   simp only [Bool.and_eq_true,decide_eq_true_eq]
   exact fun q=>hn ⟨q.1,q.2.1,q.2.2.1,q.2.2.2.1,q.2.2.2.2.1,q.2.2.2.2.2.1,q.2.2.2.2.2.2.1,q.2.2.2.2.2.2.2.1⟩
 rw [hF] at hE
 clear hF hn
 refine fi Tryz.func22 Tryz.ntmps22 ?_
 (refine w0 ?_;(repeat' (first|refine W2.mk ?_ ?_|refine W1.mk fun hc=>?_|((first|apply AL_t rfl|apply AL_0 rfl|apply AD_t rfl|apply AD_0 rfl);(focus (first|(exact op_eqA (us:=[.int .i64 a',.int .i64 b',.int .i64 c',.int .i64 d',.int .i64 e',.int .i64 f',.int .i64 g',.int .i64 h']) (vs:=[.int .i64 0,.int .i64 0,.int .i64 0,.int .i64 0,.int .i64 0,.int .i64 0,.int .i64 0,.int .i64 0]) ⟨rfl,rfl,rfl⟩ rfl rfl rfl (by first|exact .inl ⟨rfl,rfl⟩|exact .inr ⟨rfl,rfl⟩) talG rfl hE)|(apply u_g;(focus rfl);apply op_gyes rfl rfl rfl rfl rfl;first|(exact op_eqA (us:=[.int .i64 a',.int .i64 b',.int .i64 c',.int .i64 d',.int .i64 e',.int .i64 f',.int .i64 g',.int .i64 h']) (vs:=[.int .i64 0,.int .i64 0,.int .i64 0,.int .i64 0,.int .i64 0,.int .i64 0,.int .i64 0,.int .i64 0]) ⟨rfl,rfl,rfl⟩ rfl rfl rfl (by first|exact .inl ⟨rfl,rfl⟩|exact .inr ⟨rfl,rfl⟩) talG rfl hE))));refine w0 ?_))))
 refine rt1 ?_
 exact rv_wk (rv_cA inferInstance inferInstance rfl rfl rfl rfl rfl rfl) aI
theorem tr_step (l:List (List UInt8)) (b:List UInt8) (hl:l.length ≤ 1000):Fn Tryz.prog 22 [.per (aggP (talCs l)),.per (aggP (talCs [b]))] (.per (aggP (talCs (l ++ [b])))):=by
 have hc:=fun k=>cntK_le k l
 have h1:=fun k=>cntK_le k [b]
 have hi:=itsN_le l
 have hj:=itsN_le [b]
 have e:∀ k,(cntK k (l ++ [b]):Int) = (cntK k l:Int) + (cntK k [b]:Int):=fun k=>by rw [cntK_snoc,cntK_one];split <;> simp
 have e2:(itsN (l ++ [b]):Int) = (itsN l:Int) + (itsN [b]:Int):=by rw [itsN_snoc];simp [itsN]
 simp only [List.length_singleton] at h1 hj
 have hk:=(rdM_its b).2.2
 have:=tr_add (cntK 1 l:Nat) (cntK 2 l:Nat) (cntK 3 l:Nat) (cntK 4 l:Nat) (cntK 5 l:Nat) (cntK 6 l:Nat) (cntK 0 l:Nat) (itsN l:Nat) (cntK 1 [b]:Nat) (cntK 2 [b]:Nat) (cntK 3 [b]:Nat) (cntK 4 [b]:Nat) (cntK 5 [b]:Nat) (cntK 6 [b]:Nat) (cntK 0 [b]:Nat) (itsN [b]:Nat)
   (by omega) (by omega) (by have a1:=hc 1;have a2:=hc 2;have a3:=hc 3;have a4:=hc 4;have a5:=hc 5;have a6:=hc 6;have a0:=hc 0;omega)
   (by have a1:=h1 1;have a2:=h1 2;have a3:=h1 3;have a4:=h1 4;have a5:=h1 5;have a6:=h1 6;have a0:=h1 0;omega)
   (by
     rw [cntK_one,cntK_one,cntK_one,cntK_one,cntK_one,cntK_one,cntK_one]
     rintro ⟨q1,q2,q3,q4,q5,q6,q0,_⟩
     have z:kndB b = 0 ∨ kndB b = 1 ∨ kndB b = 2 ∨ kndB b = 3 ∨ kndB b = 4 ∨ kndB b = 5 ∨ kndB b = 6:=by omega
     rcases z with z|z|z|z|z|z|z <;> simp [z] at q0 q1 q2 q3 q4 q5 q6)
 unfold talCs
 rw [e,e,e,e,e,e,e,e2]
 exact this
theorem tr_Count (l:List (List UInt8)) (hl:l.length ≤ 1000) (hb:∀ b ∈ l,b.length ≤ 1000000):Fn Tryz.prog 9 [.bor 1 (l.map bysQ')] (.per (aggP (talCs l))):=by
 refine fi Tryz.func9 Tryz.ntmps9 ?_
 (refine w0 ?_;(repeat' first|refine W2.mk ?_ ?_|refine W1.mk fun hc=>?_))
 refine AW_loopP (X:=Nat) (fun i=>i ≤ l.length) (fun i=>mkSt [(2,.ptr 2 0 0),(3,.ptr 3 0 0),(7,.bor 1 (l.map bysQ')),(8,iC .i64 (l.length:Nat)),(9,iC .i64 (i:Nat))] [(2,.box 40 ((tal8 0 0 0 0 0 0 0 0).map Cnt.per)),(3,.box 40 ((talCs (l.take i)).map Cnt.per))]) (fun i=>l.length - i) 0 (Nat.zero_le _) ?_ ?_
 · exact le_auto
 · intro i h1
   by_cases hi:i < l.length
   · have a1:=tr_one l[i] (hb _ (List.getElem_mem hi))
     have a2:=tr_step (l.take i) l[i] (by rw [List.length_take];omega)
     rw [← take_snoc' l i hi] at a2
     clear hb
     (have kc1:=a1;have kc2:=a2;refine w0 ?_;(repeat' first|refine W2.mk ?_ ?_|refine W1.mk fun hc=>?_);all_goals clear kc2 kc1)
     refine ⟨i + 1,by omega,by omega,?_⟩
     exact le_auto
   · rw [List.take_of_length_le (by omega)]
     clear hb
     (refine w0 ?_;(repeat' first|refine W2.mk ?_ ?_|refine W1.mk fun hc=>?_))
     refine rt1 ?_
     exact rv_wk (rv_cA inferInstance inferInstance rfl rfl rfl rfl rfl rfl) aI
end
abbrev kinCs (l:List (List UInt8)):List PV:=[rawP (.int .i64 (cntK 0 l:Nat)),rawP (.int .i64 (cntK 1 l:Nat)),rawP (.int .i64 (cntK 2 l:Nat)),rawP (.int .i64 (cntK 3 l:Nat)),rawP (.int .i64 (cntK 4 l:Nat)),rawP (.int .i64 (cntK 5 l:Nat)),rawP (.int .i64 (cntK 6 l:Nat))]
abbrev kin7 (a b c d e f g:Int):List PV:=[rawP (.int .i64 a),rawP (.int .i64 b),rawP (.int .i64 c),rawP (.int .i64 d),rawP (.int .i64 e),rawP (.int .i64 f),rawP (.int .i64 g)]
theorem kin_step (l:List (List UInt8)) (b:List UInt8) (c:Int → Nat) (hc:∀ j,cntK j l = c j) {k:Int} (hk:kndB b = k):kinCs (l ++ [b]) = kin7 ((c 0:Int) + if k = 0 then 1 else 0) ((c 1:Int) + if k = 1 then 1 else 0) ((c 2:Int) + if k = 2 then 1 else 0) ((c 3:Int) + if k = 3 then 1 else 0) ((c 4:Int) + if k = 4 then 1 else 0) ((c 5:Int) + if k = 5 then 1 else 0) ((c 6:Int) + if k = 6 then 1 else 0):=by
 have e:∀ j,((cntK j (l ++ [b]):Nat):Int) = (c j:Int) + if k = j then 1 else 0:=fun j=>by rw [cntK_snoc,hk,hc];split <;> simp
 unfold kinCs
 rw [e,e,e,e,e,e,e]
def textL (l:List (List UInt8)):List UInt8:=l.flatMap fun b=>lineB b ++ [10]
theorem textL_snoc (l:List (List UInt8)) (b:List UInt8):textL (l ++ [b]) = textL l ++ (lineB b ++ [10]):=by unfold textL;rw [List.flatMap_append];simp
section
theorem rtr_Kinds (l:List (List UInt8)) (hl:l.length ≤ 1000) (hb:∀ b ∈ l,b.length ≤ 1000000):Fn Tryz.prog 8 [.per (lstP 1 (l.map bysQ'))] (.per (aggP (kinCs l))):=by
 refine fi Tryz.func8 Tryz.ntmps8 ?_
 (refine w0 ?_;(repeat' first|refine W2.mk ?_ ?_|refine W1.mk fun hc=>?_))
 refine AW_loopP (X:=Nat) (fun i=>i ≤ l.length) (fun i=>mkSt [(0,.per (lstP 1 (l.map bysQ'))),(2,.ptr 2 0 0),(3,.ptr 3 0 0),(4,iC .i64 (i:Nat))] [(2,.box 37 ((kin7 0 0 0 0 0 0 0).map Cnt.per)),(3,.box 37 ((kinCs (l.take i)).map Cnt.per))]) (fun i=>l.length - i) 0 (Nat.zero_le _) ?_ ?_
 · exact le_auto
 · intro i h1
   by_cases hi:i < l.length
   · have a1:=rm_Read l[i] (hb _ (List.getElem_mem hi))
     obtain ⟨i1,i2,i3,i4,i5⟩:=rdM_its l[i]
     have hk0:=kndB_err (b:=l[i])
     have hk1:=kndB_ok (b:=l[i])
     have hst:=fun (c:Int → Nat) (hc:∀ j,cntK j (l.take i) = c j) (k:Int) (hk:kndB l[i] = k)=>kin_step (l.take i) l[i] c hc hk
     rw [← take_snoc' l i hi] at hst
     have hle:∀ j,cntK j (l.take i) ≤ 1000:=fun j=>by have:=cntK_le j (l.take i);rw [List.length_take] at this;omega
     generalize hK:kndB l[i] = k at *
     generalize rdM l[i] = Q at *
     obtain ⟨m,e⟩:=Q
     dsimp only at a1 i1 i2 i5 hk0 hk1
     have hst:=hst (fun j=>cntK j (l.take i)) (fun _=>rfl) k rfl
     unfold kinCs at *
     have b0:=hle 0
     have b1:=hle 1
     have b2:=hle 2
     have b3:=hle 3
     have b4:=hle 4
     have b5:=hle 5
     have b6:=hle 6
     generalize cntK 0 (l.take i) = c0 at *
     generalize cntK 1 (l.take i) = c1 at *
     generalize cntK 2 (l.take i) = c2 at *
     generalize cntK 3 (l.take i) = c3 at *
     generalize cntK 4 (l.take i) = c4 at *
     generalize cntK 5 (l.take i) = c5 at *
     generalize cntK 6 (l.take i) = c6 at *
     clear hle hb
     by_cases he:e ≠ 0
     · have hk:=hk0.2 he
       subst hk
       simp only [if_true,show ((0:Int) = 1) = False by simp,show ((0:Int) = 2) = False by simp,show ((0:Int) = 3) = False by simp,show ((0:Int) = 4) = False by simp,show ((0:Int) = 5) = False by simp,show ((0:Int) = 6) = False by simp,if_false,Int.add_zero] at hst
       clear hk0 hk1 i1 i5 hK
       (have kc1:=a1;refine w0 ?_;(repeat' first|refine W2.mk ?_ ?_|refine W1.mk fun hc=>?_);all_goals clear kc1)
       refine ⟨i + 1,by omega,by omega,?_⟩
       rw [hst]
       exact le_auto
     have he:e = 0:=Decidable.not_not.1 he
     subst he
     have hk:=hk1 rfl
     have hn:k ≠ 0:=fun q=>absurd (hk0.1 q) (by simp)
     dsimp only [msP,msCs] at a1
     rw [← hk] at a1
     have hkk:k = 1 ∨ k = 2 ∨ k = 3 ∨ k = 4 ∨ k = 5 ∨ k = 6:=by omega
     clear hk0 hk1 i1 i5 hK hk i3 i4
     rcases hkk with h|h|h|h|h|h
     all_goals
       subst h
       simp only [if_true,show ((1:Int) = 0) = False by simp,show ((2:Int) = 0) = False by simp,show ((3:Int) = 0) = False by simp,show ((4:Int) = 0) = False by simp,show ((5:Int) = 0) = False by simp,show ((6:Int) = 0) = False by simp,show ((1:Int) = 2) = False by simp,show ((1:Int) = 3) = False by simp,show ((1:Int) = 4) = False by simp,show ((1:Int) = 5) = False by simp,show ((1:Int) = 6) = False by simp,show ((2:Int) = 1) = False by simp,show ((2:Int) = 3) = False by simp,show ((2:Int) = 4) = False by simp,show ((2:Int) = 5) = False by simp,show ((2:Int) = 6) = False by simp,show ((3:Int) = 1) = False by simp,show ((3:Int) = 2) = False by simp,show ((3:Int) = 4) = False by simp,show ((3:Int) = 5) = False by simp,show ((3:Int) = 6) = False by simp,show ((4:Int) = 1) = False by simp,show ((4:Int) = 2) = False by simp,show ((4:Int) = 3) = False by simp,show ((4:Int) = 5) = False by simp,show ((4:Int) = 6) = False by simp,show ((5:Int) = 1) = False by simp,show ((5:Int) = 2) = False by simp,show ((5:Int) = 3) = False by simp,show ((5:Int) = 4) = False by simp,show ((5:Int) = 6) = False by simp,show ((6:Int) = 1) = False by simp,show ((6:Int) = 2) = False by simp,show ((6:Int) = 3) = False by simp,show ((6:Int) = 4) = False by simp,show ((6:Int) = 5) = False by simp,if_false,Int.add_zero] at hst
       (have kc1:=a1;refine w0 ?_;(repeat' first|refine W2.mk ?_ ?_|refine W1.mk fun hc=>?_);all_goals clear kc1)
       refine ⟨i + 1,by omega,by omega,?_⟩
       rw [hst]
       exact le_auto
   · rw [List.take_of_length_le (by omega)]
     clear hb
     (refine w0 ?_;(repeat' first|refine W2.mk ?_ ?_|refine W1.mk fun hc=>?_))
     refine rt1 ?_
     exact rv_wk (rv_cA inferInstance inferInstance rfl rfl rfl rfl rfl rfl) aI
theorem rtr_Items (l:List (List UInt8)) (hl:l.length ≤ 1000) (hb:∀ b ∈ l,b.length ≤ 1000000):Fn Tryz.prog 10 [.per (lstP 1 (l.map bysQ'))] (inR ((itsN l:Nat):Int)):=by
 refine fi Tryz.func10 Tryz.ntmps10 ?_
 (refine w0 ?_;(repeat' first|refine W2.mk ?_ ?_|refine W1.mk fun hc=>?_))
 refine AW_loopP (X:=Nat) (fun i=>i ≤ l.length) (fun i=>mkSt [(0,.per (lstP 1 (l.map bysQ'))),(3,iC .i64 (itsN (l.take i):Nat)),(4,iC .i64 (i:Nat))] []) (fun i=>l.length - i) 0 (Nat.zero_le _) ?_ ?_
 · exact le_auto
 · intro i h1
   by_cases hi:i < l.length
   · have a1:=rm_Read l[i] (hb _ (List.getElem_mem hi))
     have e:=itsN_snoc (l.take i) l[i]
     rw [← take_snoc' l i hi] at e
     have h2:=itsN_le (l.take i)
     rw [List.length_take] at h2
     have h3:=(rdM_its l[i]).2.1
     generalize rdM l[i] = Q at *
     obtain ⟨m,er⟩:=Q
     dsimp only at a1 e h3
     clear hb
     generalize itsN (l.take i) = y at *
     (have kc1:=a1;refine w0 ?_;(repeat' first|refine W2.mk ?_ ?_|refine W1.mk fun hc=>?_);all_goals clear kc1)
     refine ⟨i + 1,by omega,by omega,?_⟩
     exact le_auto
   · rw [List.take_of_length_le (by omega)]
     clear hb
     (refine w0 ?_;(repeat' first|refine W2.mk ?_ ?_|refine W1.mk fun hc=>?_))
     refine rt1 ?_
     exact rv_int rfl rfl
theorem tr_Text (l:List (List UInt8)) (hl:l.length ≤ 1000) (hb:∀ b ∈ l,b.length ≤ 1000000):Fn Tryz.prog 13 [.bor 1 (l.map bysQ')] (.per (rawP (.string (ba (textL l))))):=by
 refine fi Tryz.func13 Tryz.ntmps13 ?_
 (refine w0 ?_;(repeat' first|refine W2.mk ?_ ?_|refine W1.mk fun hc=>?_))
 refine AW_loopP (X:=Nat) (fun i=>i ≤ l.length ∧ (textL (l.take i)).length ≤ 1001 * i) (fun i=>mkSt [(3,sC (ba (textL (l.take i)))),(6,.bor 1 (l.map bysQ')),(7,iC .i64 (l.length:Nat)),(8,iC .i64 (i:Nat))] []) (fun i=>l.length - i) 0 ⟨Nat.zero_le _,by simp [textL]⟩ ?_ ?_
 · exact le_auto
 · rintro i ⟨h1,h2⟩
   by_cases hi:i < l.length
   · have hbi:=hb _ (List.getElem_mem hi)
     have a1:=tr_Line l[i] hbi
     have hL:=lineB_len hbi
     have e:=textL_snoc (l.take i) l[i]
     rw [← take_snoc' l i hi] at e
     have h3:(textL (l.take (i + 1))).length ≤ 1001 * (i + 1):=by rw [e];simp only [List.length_append,List.length_cons,List.length_nil];omega
     have fin:ba (textL (l.take (i + 1))) = ba (textL (l.take i)) ++ (ba (lineB l[i]) ++ (⟨#[10]⟩:ByteArray)):=by
       rw [e];show _ = ba (textL (l.take i)) ++ (ba (lineB l[i]) ++ ba [10]);rw [ba_app,ba_app]
     have z1:(ba (textL (l.take i))).size ≤ 10000000:=by rw [ba_sz];omega
     have z2:(ba (lineB l[i])).size ≤ 1000:=by rw [ba_sz];omega
     have zl:(⟨#[10]⟩:ByteArray).size = 1:=rfl
     clear hb e hL
     generalize ba (lineB l[i]) = L at *
     generalize ba (textL (l.take i)) = T at *
     (have kc1:=a1;refine w0 ?_;(repeat' first|refine W2.mk ?_ ?_|refine W1.mk fun hc=>?_);all_goals clear kc1)
     refine ⟨i + 1,⟨by omega,h3⟩,by omega,?_⟩
     rw [fin]
     exact le_auto
   · rw [List.take_of_length_le (by omega)]
     clear hb
     (refine w0 ?_;(repeat' first|refine W2.mk ?_ ?_|refine W1.mk fun hc=>?_))
     refine rt1 ?_
     exact rv_per rfl
end
abbrev NIn (w:World):BP:=g0.N (cx w)
/-- cells that read as y is written -/
def Wr {β:Type} (w:World) (k:Nat) (f:β → List PV) (cs:List Value) (y:β):Prop:=
 cs.length = k ∧ (f y).length = k ∧ ∀ (j:Nat) (A:PV) (u:Value),(f y)[j]? = some A → cs[j]? = some u → u.oneCell' = true ∧ A.p (NIn w) w u
def RdP {β:Type} (P:Program) (w:World) (t:TypeId) (k:Nat) (f:β → List PV) (Q:β → Prop):Prop:=Rd P w t (fun cs=>∃ y:β,Q y ∧ Wr w k f cs y)
section
variable {P:Program} {w:World} {t e:TypeId} {β:Type} {k:Nat} {f:β → List PV} {Q:β → Prop}
theorem Wr.ones {cs:List Value} {y:β} (h:Wr w k f cs y):∀ u ∈ cs,u.oneCell' = true:=fun u hu=>by
 obtain ⟨j,hj,rfl⟩:=List.getElem_of_mem hu
 have hj':j < (f y).length:=by have:=h.1;have:=h.2.1;omega
 exact (h.2.2 j _ _ (List.getElem?_eq_getElem hj') (List.getElem?_eq_getElem hj)).1
theorem RdP.slice (h:RdP P w e k f Q) (ht:P.underlying t = some (.slice e)) (hk:P.cellsOf e = k) (hk0:0 < k) :
   Rd P w t (fun cs=>∃ (v:Value) (l:List β),cs = [v] ∧ (lstP k (l.map f)).p (NIn w) w v ∧ ∀ y ∈ l,Q y):=by
 refine (Rd.slice (α:={ cs:List Value // cs.length = k ∧ ∀ u ∈ cs,u.oneCell' = true }) (enc:=fun x=>x.1) (G:=fun x=>∃ y:β,Q y ∧ Wr w k f x.1 y) ht hk hk0 h fun cs ⟨y,h1,h2⟩=>⟨⟨cs,h2.1,h2.ones⟩,rfl,y,h1,h2⟩).mono ?_
 rintro cs ⟨v,lv,rfl,⟨a,c,b,o,rfl,h1,h2,h3,h0,h4⟩,hG⟩
 obtain ⟨l,hl,hg⟩:=list_of_each (G:=fun i y=>∀ (h:i < lv.length),Q y ∧ Wr w k f lv[i].1 y) lv.length (fun i hi=>by
   obtain ⟨y,q1,q2⟩:=hG lv[i] (List.getElem_mem hi)
   exact ⟨y,fun _=>⟨q1,q2⟩⟩)
 refine ⟨_,l,rfl,⟨a,c,b,o,by rw [List.length_map,hl],by rw [List.length_map,hl];exact h1,h2,h0,fun hn=>?_,fun i cs hi=>?_⟩,fun y hy=>?_⟩
 · rw [List.length_map,hl] at hn
   refine ⟨h3 hn,?_,fun hb=>hb.elim id (fun h=>h rfl)⟩
   have hp:=lv[0].2.1
   have:=h4 0 lv[0] (by simp [hn]) 0 (lv[0].1[0]'(by omega)) (by simp)
   rcases Nat.lt_or_ge b w.heap.size with hb|hb
   · exact hb
   · simp [World.cell?,Array.getElem?_eq_none hb] at this
 · rw [List.getElem?_map] at hi
   cases hx:l[i]? with
   | none=>rw [hx] at hi;cases hi
   | some y=>
     rw [hx] at hi;cases hi
     have hil:i < lv.length:=by
       have:=(List.getElem?_eq_some_iff.1 hx).1;omega
     obtain ⟨_,q1,q2,q3⟩:=hg i y hx hil
     refine ⟨q2,fun j A hj=>?_⟩
     have hjk:j < lv[i].1.length:=by
       have:=(List.getElem?_eq_some_iff.1 hj).1;omega
     obtain ⟨r1,r2⟩:=q3 j A _ hj (List.getElem?_eq_getElem hjk)
     exact ⟨_,h4 i lv[i] (List.getElem?_eq_getElem hil) j _ (List.getElem?_eq_getElem hjk),r1,r2⟩
 · obtain ⟨i,hi,rfl⟩:=List.getElem_of_mem hy
   exact (hg i _ (List.getElem?_eq_getElem hi) (by omega)).1
theorem RdP.arg {v:Value} (h:RdP P w e k f Q) (hA:Arg P w t v) (ht:P.underlying t = some (.slice e)) (hk:P.cellsOf e = k) (hk0:0 < k) :
   ∃ l:List β,In w v (.per (lstP k (l.map f))) ∧ ∀ y ∈ l,Q y:=
 hA.slice (Q:=fun v=>∃ l:List β,In w v (.per (lstP k (l.map f))) ∧ ∀ y ∈ l,Q y) ht ((h.slice ht hk hk0).mono fun _ ⟨v,l,h1,h2,h3⟩=>⟨v,h1,l,h2,h3⟩)
/-- flat things -/
theorem RdP.flat {enc:β → List Value} (hE:Enc k enc) (h:Rd P w e (fun cs=>∃ y,cs = enc y ∧ Q y)):RdP P w e k (rawsE enc) Q:=
 h.mono fun cs ⟨y,h1,h2⟩=>⟨y,h2,by rw [h1,hE.len],by unfold rawsE;rw [List.length_map,hE.len],fun j A u hj hu=>by
   unfold rawsE at hj
   rw [List.getElem?_map] at hj
   rw [h1] at hu
   rw [hu] at hj;cases hj
   exact ⟨hE.one y u (List.mem_of_getElem? hu),rfl⟩⟩
/-- lists of lists -/
theorem RdP.lists {s:TypeId} (h:RdP P w s k f Q) (ht:P.underlying e = some (.slice s)) (hk:P.cellsOf s = k) (hk0:0 < k):RdP P w e 1 (fun l:List β=>[lstP k (l.map f)]) (fun l=>∀ y ∈ l,Q y):=
 (h.slice ht hk hk0).mono fun cs ⟨v,l,h1,h2,h3⟩=>⟨l,h3,by rw [h1];rfl,rfl,fun j A u hj hu=>by
   subst h1
   match j,hj,hu with
   | 0,hj,hu=>cases hj;cases hu;exact ⟨by obtain ⟨a,c,b,o,rfl,_⟩:=h2;rfl,h2⟩
   | _ + 1,hj,_=>simp at hj⟩
end
theorem list3 {α:Type} (l:List α) (h:l.length = 3):∃ a b c,l = [a,b,c]:=by
 match l,h with|[a,b,c],_=>exact ⟨a,b,c,rfl⟩
theorem list4 {α:Type} (l:List α) (h:l.length = 4):∃ a b c d,l = [a,b,c,d]:=by
 match l,h with|[a,b,c,d],_=>exact ⟨a,b,c,d,rfl⟩
def RgWf (x:Rg):Prop:=x.lo.size ≤ maxLen ∧ x.hi.size ≤ maxLen
theorem rdRg (w:World):Rd Tryz.prog w 29 (fun cs=>∃ x,cs = encRg x ∧ RgWf x):=by
 refine (Rd.struct' Tryz.underlying29).mono ?_
 rintro cs ⟨hl,hf⟩
 obtain ⟨c0,c1,c2,rfl⟩:=list3 cs (hl.trans (by kernel_rfl))
 obtain ⟨s0,h0,w0⟩:=hf 0 0 9 1 _ rfl (by kernel_rfl) (Rd.string Tryz.underlying9)
 obtain ⟨s1,h1,w1⟩:=hf 1 1 9 1 _ rfl (by kernel_rfl) (Rd.string Tryz.underlying9)
 obtain ⟨b2,h2⟩:=hf 2 2 4 1 _ rfl (by kernel_rfl) (Rd.bool Tryz.underlying4)
 simp at h0 h1 h2
 subst h0 h1 h2
 exact ⟨⟨s0,s1,b2⟩,rfl,w0,w1⟩
theorem Arg.range {w:World} {v:Value} (h:Arg Tryz.prog w 29 v):∃ x,v = .agg (encRg x).toArray ∧ RgWf x:=by
 obtain ⟨cs,rfl⟩:=h.cells (by rw [Tryz.underlying29])
 obtain ⟨x,h1,h2⟩:=h.rd _ (rdRg w)
 refine ⟨x,?_,h2⟩
 rw [← h1];simp [Value.cells]
theorem rdRn (w:World):Rd Tryz.prog w 200 (fun cs=>∃ x,cs = encRn x ∧ True):=by
 refine (Rd.struct' Tryz.underlying200).mono ?_
 rintro cs ⟨hl,hf⟩
 obtain ⟨c0,c1,rfl⟩:=list2 cs (hl.trans (by kernel_rfl))
 obtain ⟨n0,h0,w0⟩:=hf 0 0 3 1 _ rfl (by kernel_rfl) (Rd.int Tryz.underlying3)
 obtain ⟨n1,h1,w1⟩:=hf 1 1 3 1 _ rfl (by kernel_rfl) (Rd.int Tryz.underlying3)
 simp at h0 h1
 subst h0 h1
 exact ⟨⟨n0,n1⟩,rfl,trivial⟩
theorem rdpRn (w:World):RdP Tryz.prog w 200 2 rnP (fun _=>True):=RdP.flat encRn_ok (rdRn w)
theorem rdpKn (w:World):RdP Tryz.prog w 149 2 knP (fun _=>True):=by
 refine (Rd.struct' Tryz.underlying149).mono ?_
 rintro cs ⟨hl,hf⟩
 obtain ⟨c0,c1,rfl⟩:=list2 cs (hl.trans (by kernel_rfl))
 obtain ⟨n0,h0,w0⟩:=hf 0 0 3 1 _ rfl (by kernel_rfl) (Rd.int Tryz.underlying3)
 obtain ⟨v,l,h1,h2,_⟩:=hf 1 1 147 1 _ rfl (by kernel_rfl) ((rdpRn w).slice Tryz.underlying147 (by kernel_rfl) (by decide))
 simp at h0 h1
 subst h0 h1
 refine ⟨⟨n0,l⟩,trivial,rfl,rfl,fun j A u hj hu=>?_⟩
 match j,hj,hu with
 | 0,hj,hu=>cases hj;cases hu;exact ⟨rfl,rfl⟩
 | 1,hj,hu=>cases hj;cases hu;exact ⟨by obtain ⟨a,c,b,o,rfl,_⟩:=h2;rfl,h2⟩
 | _ + 2,hj,_=>simp at hj
theorem rdpPc (w:World):RdP Tryz.prog w 82 4 pcP (fun p=>RgWf p.rg):=by
 refine (Rd.struct' Tryz.underlying82).mono ?_
 rintro cs ⟨hl,hf⟩
 obtain ⟨c0,c1,c2,c3,rfl⟩:=list4 cs (hl.trans (by kernel_rfl))
 obtain ⟨r,h0,w0⟩:=hf 0 0 29 3 _ rfl (by kernel_rfl) (rdRg w)
 obtain ⟨v,l,h1,h2,_⟩:=hf 1 3 80 1 _ rfl (by kernel_rfl) ((rdpKn w).slice Tryz.underlying80 (by kernel_rfl) (by decide))
 simp [encRg] at h0 h1
 obtain ⟨rfl,rfl,rfl⟩:=h0
 subst h1
 refine ⟨⟨r,l⟩,w0,rfl,rfl,fun j A u hj hu=>?_⟩
 match j,hj,hu with
 | 0,hj,hu=>cases hj;cases hu;exact ⟨rfl,rfl⟩
 | 1,hj,hu=>cases hj;cases hu;exact ⟨rfl,rfl⟩
 | 2,hj,hu=>cases hj;cases hu;exact ⟨rfl,rfl⟩
 | 3,hj,hu=>cases hj;cases hu;exact ⟨by obtain ⟨a,c,b,o,rfl,_⟩:=h2;rfl,h2⟩
 | _ + 4,hj,_=>simp at hj
theorem list19 {α:Type} (l:List α) (h:l.length = 19):∃ a0 a1 a2 a3 a4 a5 a6 a7 a8 a9 a10 a11 a12 a13 a14 a15 a16 a17 a18,l = [a0,a1,a2,a3,a4,a5,a6,a7,a8,a9,a10,a11,a12,a13,a14,a15,a16,a17,a18]:=by
 match l,h with|[a0,a1,a2,a3,a4,a5,a6,a7,a8,a9,a10,a11,a12,a13,a14,a15,a16,a17,a18],_=>exact ⟨a0,a1,a2,a3,a4,a5,a6,a7,a8,a9,a10,a11,a12,a13,a14,a15,a16,a17,a18,rfl⟩
def MsWf (m:Msg):Prop:=m.sum < 18446744073709551616 ∧ RgWf m.rg ∧ (∀ r ∈ m.flt,RgWf r) ∧ (∀ p ∈ m.know,RgWf p.rg) ∧ (∀ x ∈ m.its,ItWf x)
theorem rdU8 (w:World):Rd Tryz.prog w 5 (fun cs=>∃ x:UInt8,cs = encB x ∧ True):=(Rd.int Tryz.underlying5).mono Rd.u8dec
theorem one_lst {N:BP} {w:World} {k:Nat} {es:List (List PV)} {v:Value} (h:(lstP k es).p N w v):v.oneCell' = true:=by obtain ⟨a,c,b,o,rfl,_⟩:=h;rfl
theorem rdMs (w:World):Rd Tryz.prog w 33 (fun cs=>∃ m:Msg,MsWf m ∧ Wr w 19 msCs cs m):=by
 refine (Rd.struct' Tryz.underlying33).mono ?_
 rintro cs ⟨hl,hf⟩
 obtain ⟨c0,c1,c2,c3,c4,c5,c6,c7,c8,c9,c10,c11,c12,c13,c14,c15,c16,c17,c18,rfl⟩:=list19 cs (hl.trans (by kernel_rfl))
 obtain ⟨n0,h0,_⟩:=hf 0 0 3 1 _ rfl (by kernel_rfl) (Rd.int Tryz.underlying3)
 obtain ⟨n1,h1,_⟩:=hf 1 1 3 1 _ rfl (by kernel_rfl) (Rd.int Tryz.underlying3)
 obtain ⟨n2,h2,_⟩:=hf 2 2 3 1 _ rfl (by kernel_rfl) (Rd.int Tryz.underlying3)
 obtain ⟨n3,h3,_⟩:=hf 3 3 3 1 _ rfl (by kernel_rfl) (Rd.int Tryz.underlying3)
 obtain ⟨n4,h4,_⟩:=hf 4 4 3 1 _ rfl (by kernel_rfl) (Rd.int Tryz.underlying3)
 obtain ⟨n5,h5,_⟩:=hf 5 5 3 1 _ rfl (by kernel_rfl) (Rd.int Tryz.underlying3)
 obtain ⟨n6,h6,_⟩:=hf 6 6 3 1 _ rfl (by kernel_rfl) (Rd.int Tryz.underlying3)
 obtain ⟨n7,h7,_⟩:=hf 7 7 3 1 _ rfl (by kernel_rfl) (Rd.int Tryz.underlying3)
 obtain ⟨b8,h8⟩:=hf 8 8 4 1 _ rfl (by kernel_rfl) (Rd.bool Tryz.underlying4)
 obtain ⟨b9,h9⟩:=hf 9 9 4 1 _ rfl (by kernel_rfl) (Rd.bool Tryz.underlying4)
 obtain ⟨b10,h10⟩:=hf 10 10 4 1 _ rfl (by kernel_rfl) (Rd.bool Tryz.underlying4)
 obtain ⟨v11,l11,h11,p11,w11⟩:=hf 11 11 25 1 _ rfl (by kernel_rfl) ((RdP.flat encRg_ok (rdRg w)).slice Tryz.underlying25 (by kernel_rfl) (by decide))
 obtain ⟨v12,l12,h12,p12,w12⟩:=hf 12 12 26 1 _ rfl (by kernel_rfl) ((rdpPc w).slice Tryz.underlying26 (by kernel_rfl) (by decide))
 obtain ⟨v13,l13,h13,p13,w13⟩:=hf 13 13 27 1 _ rfl (by kernel_rfl) ((RdP.flat encB_ok (rdU8 w)).slice Tryz.underlying27 (by kernel_rfl) (by decide))
 obtain ⟨r,h14,w14⟩:=hf 14 14 29 3 _ rfl (by kernel_rfl) (rdRg w)
 obtain ⟨n17,h17,w17⟩:=hf 15 17 30 1 _ rfl (by kernel_rfl) (Rd.int Tryz.underlying30)
 obtain ⟨v18,l18,h18,p18,w18⟩:=hf 16 18 31 1 _ rfl (by kernel_rfl) ((RdP.flat encIt_ok (rdIt w)).slice Tryz.underlying31 (by kernel_rfl) (by decide))
 simp [encRg] at h0 h1 h2 h3 h4 h5 h6 h7 h8 h9 h10 h11 h12 h13 h14 h17 h18
 subst h0 h1 h2 h3 h4 h5 h6 h7 h8 h9 h10 h11 h12 h13 h17 h18
 obtain ⟨rfl,rfl,rfl⟩:=h14
 have hu:=bounds_u64 w17
 obtain ⟨s,rfl⟩:=Int.eq_ofNat_of_zero_le hu.1
 refine ⟨⟨n0,n1,n2,n3,n4,n5,n6,n7,b8,b9,b10,l11,l12,l13,r,s,l18⟩,⟨by have:=hu.2;simp only;omega,w14,w11,w12,w18⟩,rfl,rfl,fun j A u hj hu=>?_⟩
 match j,hj,hu with
 | 0,hj,hu|1,hj,hu|2,hj,hu|3,hj,hu|4,hj,hu|5,hj,hu|6,hj,hu|7,hj,hu|8,hj,hu|9,hj,hu|10,hj,hu|14,hj,hu|15,hj,hu|16,hj,hu|17,hj,hu=>cases hj;cases hu;exact ⟨rfl,rfl⟩
 | 11,hj,hu=>cases hj;cases hu;exact ⟨one_lst p11,p11⟩
 | 12,hj,hu=>cases hj;cases hu;exact ⟨one_lst p12,p12⟩
 | 13,hj,hu=>cases hj;cases hu;exact ⟨one_lst p13,p13⟩
 | 18,hj,hu=>cases hj;cases hu;exact ⟨one_lst p18,p18⟩
 | _ + 19,hj,_=>simp at hj
theorem Arg.message {w:World} {v:Value} (h:Arg Tryz.prog w 33 v):∃ m:Msg,MsWf m ∧ In w v (msC m):=by
 obtain ⟨cs,rfl⟩:=h.cells (by rw [Tryz.underlying33])
 obtain ⟨m,h1,h2,h3,h4⟩:=h.rd _ (rdMs w)
 refine ⟨m,h1,cs,rfl,?_,fun j A hj=>?_⟩
 · have:cs.toList.length = 19:=h2
   simpa using this
 · have hjl:j < cs.toList.length:=by
     have:=(List.getElem?_eq_some_iff.1 hj).1
     show j < (Value.agg cs).cells.toList.length
     rw [h2];exact this
   obtain ⟨q1,q2⟩:=h4 j A cs.toList[j] hj (List.getElem?_eq_getElem hjl)
   exact ⟨cs.toList[j],by simp at hjl ⊢,q1,q2⟩
abbrev ex36:Msg:={ kind:=3,ses:=1,num:=2,nxt:=3 }
abbrev ex36Cs:List PV:=[rawP (.int .i64 3),rawP (.int .i64 1),rawP (.int .i64 2),zIP,zIP,zIP,rawP (.int .i64 3),zIP,zBP,zBP,zBP,nilP,nilP,nilP,eP,eP,zBP,rawP (.int .u64 0),nilP]
theorem ex36_R:msR ex36 = true:=by decide
theorem ex36_L:loadB ex36 = [3,1,2,3]:=by
 have h:∀ n:Nat,n < 128 → numI (n:Int) = [UInt8.ofNat n]:=fun n hn=>by unfold numI;rw [Int.toNat_natCast,numB_lt hn]
 have e:msNums ex36 = [((3:Nat):Int),((1:Nat):Int),((2:Nat):Int),((3:Nat):Int)]:=rfl
 unfold loadB
 rw [e,show msParts ex36 = [] from rfl]
 simp only [List.flatMap_cons,List.flatMap_nil,List.append_nil]
 rw [h 3 (by decide),h 1 (by decide),h 2 (by decide)]
 rfl
theorem few0:fewK []:=fun p hp=>by simp at hp
theorem ex36_B:MsB ex36:=⟨by simp,pcsSz_e,few0,by simp,by simp,by simp,fun p hp=>by
 rw [show (prtP ex36).1 = [] from rfl] at hp;simp at hp⟩
theorem ex36_put:putM ex36 = (frB [3,1,2,3],0):=by
 unfold putM
 rw [if_pos ex36_R,ex36_L,if_pos (by decide)]
theorem ex36_rd:rdM (frB [3,1,2,3]) = (ex36,0):=by
 unfold rdM
 rw [open_frB (by decide),if_neg (by decide)]
 dsimp only
 rw [← ex36_L,load_put ex36_R (by simp) few0 (by simp) (by decide) (fun p hp=>by rw [show msParts ex36 = [] from rfl] at hp;simp at hp)]
 rfl
theorem ex36_len:(frB [3,1,2,3]).length ≤ 1000:=by
 have:=numI_len (([3,1,2,3]:List UInt8).length:Int) (by decide)
 rw [frB_len];simp at this ⊢;omega
section
end
theorem rdM_nil:rdM [] = ({},10):=by rfl
theorem digL_10:digL 10 = [49,48]:=by rw [digL_ge (by decide),digL_lt (by decide),digL_lt (by decide)];rfl
theorem numW_s {n:Int} {k:Nat} (h:IntKind.u64.wrap n = (k:Int)) (hk:k < 10):numW n = [UInt8.ofNat (48 + k)]:=by unfold numW;rw [h];exact digL_lt hk
theorem line_nil:lineB [] = [106,117,110,107,32,49,48]:=by
 unfold lineB
 rw [rdM_nil,if_pos (by decide)]
 have:numW 10 = [49,48]:=by unfold numW;rw [show (IntKind.u64.wrap 10).toNat = 10 from rfl];exact digL_10
 rw [this];rfl
theorem line_ex:lineB (frB [3,1,2,3]) = [112,117,108,108,32,49,32,50,32,51]:=by
 unfold lineB
 rw [ex36_rd,if_neg (by decide)]
 unfold lineW moreW nameK
 have e1:numW 1 = [49]:=numW_s (k:=1) rfl (by decide)
 have e2:numW 2 = [50]:=numW_s (k:=2) rfl (by decide)
 have e3:numW 3 = [51]:=numW_s (k:=3) rfl (by decide)
 show joinL ([112,117,108,108] :: numW 1 :: numW 2 :: [numW 3]) = _
 rw [e1,e2,e3];rfl
theorem knd_nil:kndB [] = 0:=kndB_err.2 (by rw [rdM_nil];decide)
theorem knd_ex:kndB (frB [3,1,2,3]) = 3:=by rw [kndB_ok (by rw [ex36_rd]),ex36_rd]
theorem tal_ex:talCs [frB [3,1,2,3],[]] = tal8 0 0 1 0 0 0 1 0:=by
 have e:∀ k,cntK k [frB [3,1,2,3],[]] = (if (3:Int) = k then 1 else 0) + if (0:Int) = k then 1 else 0:=fun k=>by
   have:=cntK_snoc k [frB [3,1,2,3]] []
   rw [knd_nil,cntK_one,knd_ex] at this
   exact this
 have e2:itsN [frB [3,1,2,3],[]] = 0:=by unfold itsN;simp [rdM_nil,ex36_rd]
 unfold talCs
 rw [e,e,e,e,e,e,e,e2];rfl
theorem eqO_tal2 (a b c d e f g h a' b' c' d' e' f' g' h':Int):eqO Tryz.prog 10000 40 [.int .i64 a,.int .i64 b,.int .i64 c,.int .i64 d,.int .i64 e,.int .i64 f,.int .i64 g,.int .i64 h] [.int .i64 a',.int .i64 b',.int .i64 c',.int .i64 d',.int .i64 e',.int .i64 f',.int .i64 g',.int .i64 h'] =
   some (decide (a = a') && (decide (b = b') && (decide (c = c') && (decide (d = d') && (decide (e = e') && (decide (f = f') && (decide (g = g') && (decide (h = h') && true)))))))):=by kernel_rfl
theorem putM_len {m:Msg}:(putM m).1.length ≤ 1000000:=by
 unfold putM
 split
 · split
   · rename_i h
     have:=numI_len ((loadB m).length:Int) (by omega)
     rw [frB_len];omega
   · simp
 · simp
/-- a list whose elements say less -/
theorem Fn.bor1 {P:Program} {f:FuncId} {k:Nat} {es es':List (List PV)} {r:Ret} (h:Fn P f [.bor k es'] r) (hl:es.length = es'.length) (hk:∀ (i:Nat) (c c':List PV),es[i]? = some c → es'[i]? = some c' → PW c c'):Fn P f [.bor k es] r:=⟨h.ent,fun N0 w vs hN ha=>by
 refine h.run N0 w vs hN ⟨ha.1,fun i u c hi hj=>?_⟩
 match i,hi,hj with
 | 0,hi,hj=>
   cases hj
   obtain ⟨a,c,b,o,e,g1,g2,g3,g4,g5⟩:=ha.2 0 u (.bor k es) hi rfl
   refine ⟨a,c,b,o,by rw [e,hl],by rw [← hl];exact g1,g2,g3,fun h0=>g4 (by rw [hl];exact h0),fun j cs' hj'=>?_⟩
   have hlt:=(List.getElem?_eq_some_iff.1 hj').1
   have hj2:es[j]? = some es[j]:=List.getElem?_eq_getElem (by omega)
   have hp:=hk j es[j] cs' hj2 hj'
   obtain ⟨m1,m2⟩:=g5 j es[j] hj2
   refine ⟨hp.len ▸ m1,fun q A hq=>?_⟩
   obtain ⟨B,q1,q2⟩:=hp.get q A hq
   obtain ⟨y,r1,r2,r3⟩:=m2 q B q1
   exact ⟨y,r1,r2,q2 _ _ _ r3⟩
 | _ + 1,_,hj=>simp at hj⟩
section
theorem awake47:Fn Tryz.prog 5 [] (boR true):=by
 have a1:Fn Tryz.prog 14 [.per (aggP ex36Cs)] _:=(ms_Put ex36 ex36_B).arg1 aI
 rw [ex36_put] at a1
 have hl:=ex36_len
 have a2:Fn Tryz.prog 11 [.per (rawP (.slice none 0 0))] _:=(tr_Line [] (by simp)).arg1 nil_imp
 have a3:=tr_Line (frB [3,1,2,3]) (by omega)
 have a4:Fn Tryz.prog 9 [.bor 1 [[bysP (frB [3,1,2,3])],[rawP (.slice none 0 0)]]] _:=(tr_Count [frB [3,1,2,3],[]] (by simp) (fun b hb=>by
   simp at hb
   rcases hb with rfl|rfl
   · omega
   · simp)).bor1 rfl (fun i c c' h h'=>by
     match i,h,h' with
     | 0,h,h'=>cases h;cases h';exact .cons Imp.refl .nil
     | 1,h,h'=>cases h;cases h';exact .cons nil_imp .nil
     | _ + 2,h,_=>simp at h)
 rw [line_nil] at a2
 rw [line_ex] at a3
 rw [tal_ex] at a4
 have hE:=eqO_tal2 0 0 1 0 0 0 1 0 0 0 1 0 0 0 1 0
 generalize frB [3,1,2,3] = B at *
 refine fi Tryz.func5 Tryz.ntmps5 ?_
 (have kc1:=a1;have kf1:=a2;have kf2:=a3;have kc2:=a4;refine w0 ?_;(repeat' (first|refine W2.mk ?_ ?_|refine W1.mk fun hc=>?_|((first|apply AL_t rfl|apply AL_0 rfl|apply AD_t rfl|apply AD_0 rfl);(focus (first|(exact op_eqA (us:=[.int .i64 0,.int .i64 0,.int .i64 1,.int .i64 0,.int .i64 0,.int .i64 0,.int .i64 1,.int .i64 0]) (vs:=[.int .i64 0,.int .i64 0,.int .i64 1,.int .i64 0,.int .i64 0,.int .i64 0,.int .i64 1,.int .i64 0]) ⟨rfl,rfl,rfl⟩ rfl rfl rfl (by first|exact .inl ⟨rfl,rfl⟩|exact .inr ⟨rfl,rfl⟩) talG rfl hE)|(apply u_g;(focus rfl);apply op_gyes rfl rfl rfl rfl rfl;first|(exact op_eqA (us:=[.int .i64 0,.int .i64 0,.int .i64 1,.int .i64 0,.int .i64 0,.int .i64 0,.int .i64 1,.int .i64 0]) (vs:=[.int .i64 0,.int .i64 0,.int .i64 1,.int .i64 0,.int .i64 0,.int .i64 0,.int .i64 1,.int .i64 0]) ⟨rfl,rfl,rfl⟩ rfl rfl rfl (by first|exact .inl ⟨rfl,rfl⟩|exact .inr ⟨rfl,rfl⟩) talG rfl hE))));refine w0 ?_)));all_goals clear kc2 kf2 kf1 kc1)
 all_goals
   refine rt1 ?_
   refine rv_bool rfl ?_
   first|rfl|(simp;done)
theorem lawTraceTells (m:Msg) (hs:m.sum < 18446744073709551616) (b:List UInt8):Fn Tryz.prog 4 [msC m,.per (bysP b)] (boR true):=by
 have a0:=awake47
 have a1:=rm_Long m
 cases hlg:longM m with
 | true=>
   rw [hlg] at a1
   refine fi Tryz.func4 Tryz.ntmps4 ?_
   (have kc1:=a0;have kc2:=a1;refine w0 ?_;(repeat' first|refine W2.mk ?_ ?_|refine W1.mk fun hc=>?_);all_goals clear kc2 kc1)
   refine rt1 ?_
   exact rv_bool rfl rfl
 | false=>
   rw [hlg] at a1
   by_cases hb:600 < b.length
   · refine fi Tryz.func4 Tryz.ntmps4 ?_
     (have kc1:=a0;have kc2:=a1;refine w0 ?_;(repeat' first|refine W2.mk ?_ ?_|refine W1.mk fun hc=>?_);all_goals clear kc2 kc1)
     refine rt1 ?_
     exact rv_bool rfl rfl
   obtain ⟨hB,hk24⟩:=longM_B hlg
   have a2:=(rm_Put m hB hs).frz
   have hbl:=putM_len (m:=m)
   obtain ⟨own,hown⟩:∃ own,own = if (putM m).2 = 0 then (putM m).1 else b:=⟨_,rfl⟩
   have hol:own.length ≤ 1000000:=by rw [hown];split <;> omega
   have l1:=tr_Line own hol
   have l2:=rtr_Line own hol
   have l3:=tr_Line b (by omega)
   have l4:=rtr_Line b (by omega)
   have l5:Fn Tryz.prog 13 [.bor 1 [[bysP b],[bysP own]]] _:=tr_Text [b,own] (by simp) (fun x hx=>by
     simp at hx
     rcases hx with rfl|rfl <;> omega)
   have l6:Fn Tryz.prog 13 [.bor 1 []] _:=tr_Text [] (by simp) (fun x hx=>by cases hx)
   have z1:(ba (lineB own)).size ≤ 1000:=by rw [ba_sz];exact lineB_len hol
   have z2:(ba (lineB b)).size ≤ 1000:=by rw [ba_sz];exact lineB_len (by omega)
   have e1:ba (textL [b,own]) = ((ba (lineB b) ++ (⟨#[10]⟩:ByteArray)) ++ ba (lineB own)) ++ (⟨#[10]⟩:ByteArray):=by
     show _ = ((ba (lineB b) ++ ba [10]) ++ ba (lineB own)) ++ ba [10]
     rw [ba_app,ba_app,ba_app]
     congr 1
     simp [textL]
   have e2:ba (textL []) = (⟨#[]⟩:ByteArray):=rfl
   rw [e1] at l5
   rw [e2] at l6
   have zl:(⟨#[10]⟩:ByteArray).size = 1:=rfl
   have hLL:own = b → ba (lineB own) = ba (lineB b):=fun q=>by rw [q]
   generalize ba (lineB own) = L1 at *
   generalize ba (lineB b) = L2 at *
   by_cases hf:(putM m).2 = 0
   · rw [if_pos hf] at hown
     rw [hf,← hown] at a2
     clear hlg hB hown hbl hf hLL
     refine fi Tryz.func4 Tryz.ntmps4 ?_
     (have kc1:=a0;have kc2:=a1;have kc3:=a2;have kf1:=l1;have kf2:=l2;have kf3:=l3;have kf4:=l4;have kf5:=l5;have kf6:=l6;refine w0 ?_;(repeat' first|refine W2.mk ?_ ?_|refine W1.mk fun hc=>?_);all_goals clear kf6 kf5 kf4 kf3 kf2 kf1 kc3 kc2 kc1)
     all_goals
       refine rt1 ?_
       refine rv_bool rfl ?_
       first|rfl|(simp;done)
   · rw [if_neg hf] at hown
     obtain rfl:=hLL hown
     subst hown
     generalize (putM m).1 = B at *
     generalize (putM m).2 = f at *
     clear hlg hB hbl hLL
     refine fi Tryz.func4 Tryz.ntmps4 ?_
     (have kc1:=a0;have kc2:=a1;have kc3:=a2;have kc4:=l1;have kc5:=l2;have kf1:=l5;have kf2:=l6;refine w0 ?_;(repeat' first|refine W2.mk ?_ ?_|refine W1.mk fun hc=>?_);all_goals clear kf2 kf1 kc5 kc4 kc3 kc2 kc1)
     all_goals
       refine rt1 ?_
       refine rv_bool rfl ?_
       first|rfl|(simp;done)
end
end Go.Proofs.YthlffkjpklpkfaaGreat
