/- Texts joined: SwX PlB AbsO. -/
import Derived.Test.YtembiemaiacdfaaGreatJ29
import Derived.Test.YtembiemaiacdfaaGreatJ05
import Derived.Test.YtembiemaiacdfaaGreatJ07
set_option maxRecDepth 10000
set_option maxHeartbeats 8000000
namespace Go.Proofs.YtembiemaiacdfaaGreat
open Go.RowKit
theorem sR {l:List It} (h:l.all itR = true) (k:ByteArray):0 ≤ jf l k ∧ jf l k ≤ 1099511627776:=by
 unfold jf
 cases hg:fA l k with
 | none=>simp
 | some y=>
   have:=List.all_eq_true.1 h y (oD hg).1
   unfold itR at this
   simp only [Bool.and_eq_true,decide_eq_true_eq] at this
   simp only
   omega
theorem Gx {l:List It} {y:It} (hu:Up l) (hy:y ∈ l):jf l y.key = y.rank:=by
 have h1:=hu.filter y.key
 have hm:y ∈ l.filter (fun x=>x.key == y.key):=List.mem_filter.2 ⟨hy,by rw [gK]⟩
 have hone:∀ z ∈ l,z.key = y.key → z = y:=fun z hz e=>by
   have hm2:z ∈ l.filter (fun x=>x.key == y.key):=List.mem_filter.2 ⟨hz,by rw [gK];exact e⟩
   rw [h1] at hm hm2
   cases h3:bN y.key l with
   | none=>rw [h3] at hm;simp at hm
   | some w=>rw [h3] at hm hm2;simp at hm hm2;rw [hm,hm2]
 unfold jf
 cases hg:fA l y.key with
 | none=>exact absurd rfl (CK hg y hy)
 | some z=>
   obtain ⟨q1,q2⟩:=oD hg
   simp only
   rw [hone z q1 q2]
theorem qY {s:Sta} {k:ByteArray} {prio:Int} {dead:Bool} {body:ByteArray} (h:ef s = true) (hk:eu k = true) (hp:0 ≤ prio ∧ prio ≤ 255) (hb:body.size ≤ 64) (hd:dead = true → body.size = 0) (hc:s.cnt ≠ 1099511627776) (hr:jf s.its k ≠ 1099511627776):itR (lX s k prio dead body) = true:=by
 obtain ⟨c1,c2,_⟩:=ei h
 have hq:=sR (iI h).1 k
 unfold itR lX cI
 simp only [Bool.and_eq_true,decide_eq_true_eq]
 refine ⟨⟨hk,?_⟩,by omega,by omega,by omega,by omega,hb,hd⟩
 first|omega|(simp;omega)
theorem CQ {s:Sta} {k:ByteArray} {prio:Int} {dead:Bool} {body:ByteArray} (h:ef s = true) (hx:itR (lX s k prio dead body) = true):aV [[lX s k prio dead body],s.its] = gN (lX s k prio dead body) s.its:=by
 obtain ⟨h1,h2⟩:=iI h
 refine Cx hx h1 h2 fun y hy e=>?_
 have e:y.key = k:=e
 have:=Gx h2 hy
 rw [e] at this
 show y.rank < jf s.its k + 1
 omega
theorem uB {s:Sta} {k:ByteArray} {prio:Int} {body:ByteArray} (h:(kq s k prio body).2 = 0):ef (kq s k prio body).1 = true ∧ (kq s k prio body).1 = za s (lX s k prio false body) ∧ itR (lX s k prio false body) = true ∧ ef s = true:=by
 unfold kq at h ⊢
 by_cases c1:ef s = false
 · rw [if_pos c1] at h;simp at h
 rw [if_neg c1] at h ⊢
 by_cases c2:eu k = false ∨ prio < 0 ∨ prio > 255 ∨ body.size > 64
 · rw [if_pos c2] at h;simp at h
 rw [if_neg c2] at h ⊢
 by_cases c3:bg s.flt k = false
 · rw [if_pos c3] at h;simp at h
 rw [if_neg c3] at h ⊢
 by_cases c4:s.cnt = 1099511627776 ∨ jf s.its k = 1099511627776
 · rw [if_pos c4] at h;simp at h
 rw [if_neg c4] at h ⊢
 by_cases c5:fA s.its k = none ∧ s.its.length = 4096
 · rw [if_pos c5] at h;simp at h
 rw [if_neg c5]
 have hs:ef s = true:=by simpa using c1
 have hk:eu k = true:=by
   cases q:eu k with
   | true=>rfl
   | false=>exact absurd (.inl q) c2
 have hx:itR (lX s k prio false body) = true:=qY hs hk ⟨by have:=fun q=>c2 (.inr (.inl q));omega,by have:=fun q=>c2 (.inr (.inr (.inl q)));omega⟩ (by have:=fun q=>c2 (.inr (.inr (.inr q)));omega) (fun q=>by cases q) (fun q=>c4 (.inl q)) (fun q=>c4 (.inr q))
 refine ⟨?_,rfl,hx,hs⟩
 obtain ⟨_,_,l3,_⟩:=ei hs
 refine zu hs (fun q=>c4 (.inl q)) hx rfl rfl (by show bg s.flt k = true;simpa using c3) ?_
 cases hg:fA s.its k with
 | none=>
   have:=Gu s.its (lX s k prio false body)
   have:s.its.length ≠ 4096:=fun q=>c5 ⟨hg,q⟩
   omega
 | some y=>
   obtain ⟨q1,q2⟩:=oD hg
   have:=CL s.its (lX s k prio false body) ⟨y,q1,q2⟩
   omega
def zi:Option It → It
 | none=>MR
 | some x=>x
theorem CR {l:List It} {k:ByteArray} {i:Nat} (hi:i < l.length) (h:fA (l.take i) k = none) (hk:l[i].key ≠ k):fA (l.take (i + 1)) k = none:=by
 unfold fA at *
 rw [aJ _ i hi,List.find?_append,h]
 simp [hk]
theorem w6 {l:List It} {k:ByteArray} {i:Nat} (hi:i < l.length) (h:fA (l.take i) k = none) (hk:l[i].key = k):fA l k = some l[i]:=by
 unfold fA at *
 have e:l = l.take i ++ l[i] :: l.drop (i + 1):=by rw [← List.drop_eq_getElem_cons hi,List.take_append_drop]
 have e2:(l.take i ++ l[i] :: l.drop (i + 1)).find? (fun x=>decide (x.key = k)) = some l[i]:=by
   rw [List.find?_append,h,List.find?_cons]
   simp [hk]
 rw [← e] at e2
 exact e2
section
theorem qZ (l:List Rg) (hl:l.length ≤ 1000000000):Fn Tryz.prog 71 [dg l] (wK l):=by
 by_cases h0:0 < l.length
 · refine fi Tryz.func71 Tryz.ntmps71 ?_
   (refine w0 ?_;(repeat' first|refine W2.mk ?_ ?_|refine W1.mk fun hc=>?_))
   refine aQ ?_
   exact cv rfl rfl rfl
 · obtain rfl:l = []:=List.eq_nil_of_length_eq_zero (by omega)
   refine fi Tryz.func71 Tryz.ntmps71 ?_
   (refine w0 ?_;(repeat' first|refine W2.mk ?_ ?_|refine W1.mk fun hc=>?_))
   · refine aQ ?_
     exact tC rfl
   · refine aQ ?_
     exact cv rfl rfl rfl
theorem K4 (s:Sta) (k:ByteArray) (hl:s.its.length ≤ 1000000):Fn Tryz.prog 78 [cY s,sC k] (.tup2 (.per (bP (itP (zi (fA s.its k))))) (bO (fA s.its k).isSome)):=by
 refine fi Tryz.func78 Tryz.ntmps78 ?_
 (refine w0 ?_;(repeat' first|refine W2.mk ?_ ?_|refine W1.mk fun hc=>?_))
 refine ah (X:=Nat) (fun i=>i ≤ s.its.length ∧ fA (s.its.take i) k = none) (fun i=>aN [(1,sC k),(4,.ptr 4 0 0),(9,.per (cG s.its)),(10,iC .i64 (s.its.length:Nat)),(11,iC .i64 (i:Nat))] [(4,.box 61 ((itP MR).map .per))]) (fun i=>s.its.length - i) 0 ⟨Nat.zero_le _,rfl⟩ ?_ ?_
 · exact ab
 · rintro i ⟨h1,h2⟩
   by_cases hi:i < s.its.length
   · have hS:=CR hi h2
     have hH:=w6 hi h2
     clear h2
     (refine w0 ?_;(repeat' first|refine W2.mk ?_ ?_|refine W1.mk fun hc=>?_))
     · rw [hH ((lQ _ _).1 (by assumption))]
       refine j8 ?_ ?_
       · exact cq inferInstance inferInstance rfl rfl rfl rfl rfl rfl
       · exact af rfl rfl
     · refine ⟨i + 1,⟨by omega,hS (fun q=>(by assumption:¬ s.its[i].key.toList = k.toList) ((lQ _ _).2 q))⟩,by omega,?_⟩
       exact ab
   · rw [List.take_of_length_le (by omega)] at h2
     rw [h2]
     (refine w0 ?_;(repeat' first|refine W2.mk ?_ ?_|refine W1.mk fun hc=>?_))
     refine j8 ?_ ?_
     · exact cq inferInstance inferInstance rfl rfl rfl rfl rfl rfl
     · exact af rfl rfl
theorem K5 (s:Sta) (x:It) (K:List Pc) (M:List It) (hc:-9223372036854775808 ≤ s.cnt ∧ s.cnt ≤ 1099511627776) (a1:Fn Tryz.prog 134 [gM s.know,sC x.key,uy [(s.id,s.cnt + 1)]] (.per (ff K)))
   (a2:Fn Tryz.prog 68 [.bor 1 [[cG [⟨x.key,s.id,s.cnt + 1,x.rank,x.prio,x.dead,x.body⟩]],[cG s.its]]] (.per (cG M))) (a3:Fn Tryz.prog 71 [dg s.flt] (.per (eB s.flt))) :
   Fn Tryz.prog 81 [cY s,uK x] (.per (sL ⟨s.id,s.flt,M,K,s.cnt + 1⟩)):=by
 refine fi Tryz.func81 Tryz.ntmps81 ?_
 (have kc1:=a1;have kc2:=a2;have kc3:=a3;refine w0 ?_;(repeat' first|refine W2.mk ?_ ?_|refine W1.mk fun hc=>?_);all_goals clear kc3 kc2 kc1)
 refine aQ ?_
 exact cq inferInstance inferInstance rfl rfl rfl rfl rfl rfl
def Mo (s:Sta) (prio:Int) (body:ByteArray) (o:Option It) (rk:Int) (r kr hf:Bool) (S':Sta):Sta × Int:=
 if r = false then ({},41)
 else if kr = false ∨ prio < 0 ∨ prio > 255 ∨ body.size > 64 then ({},2)
 else if hf = false then ({},30)
 else if s.cnt = 1099511627776 ∨ rk = 1099511627776 then ({},33)
 else if o = none ∧ s.its.length = 4096 then ({},32)
 else (S',0)
theorem CS (s:Sta) (k:ByteArray) (prio:Int) (body:ByteArray) (o:Option It) (r kr hf:Bool) (S':Sta) (_hl:s.its.length ≤ 1000000) (hb:body.size ≤ 1000000000)
   (a0:Fn Tryz.prog 78 [cY s,sC k] (.tup2 (.per (bP (itP (zi o)))) (bO o.isSome))) (a1:Fn Tryz.prog 64 [cY s] (bO r)) (a2:Fn Tryz.prog 79 [sC k] (bO kr)) (a3':r = true → Fn Tryz.prog 80 [.per (eB s.flt),sC k] (bO hf))
   (hrk':r = true → 0 ≤ (zi o).rank ∧ (zi o).rank ≤ 1099511627776)
   (a4':r = true → ¬ (kr = false ∨ prio < 0 ∨ prio > 255 ∨ body.size > 64) → s.cnt ≠ 1099511627776 → (zi o).rank ≠ 1099511627776 → Fn Tryz.prog 81 [cY s,uK ⟨k,0,0,(zi o).rank + 1,prio,false,body⟩] (.per (sL S'))) :
   Fn Tryz.prog 33 [cY s,sC k,iC .i64 prio,sC body] (.tup2 (.per (sL (Mo s prio body o (zi o).rank r kr hf S').1)) (fL (Mo s prio body o (zi o).rank r kr hf S').2)):=by
 unfold Mo
 cases r with
 | false=>
   rw [if_pos rfl]
   clear a2 a3' a4' hrk'
   refine fi Tryz.func33 Tryz.ntmps33 ?_
   (have kc1:=a0;have kc2:=a1;refine w0 ?_;(repeat' first|refine W2.mk ?_ ?_|refine W1.mk fun hc=>?_);all_goals clear kc2 kc1)
   refine j8 ?_ ?_
   · exact eX (cq inferInstance inferInstance rfl rfl rfl rfl rfl rfl) aI
   · exact aA rfl rfl
 | true=>
 have a3:=a3' rfl
 have hrk:=hrk' rfl
 have a5:=a4' rfl
 clear a3' hrk' a4'
 rw [if_neg (show ¬ true = false by simp)]
 by_cases c2:kr = false ∨ prio < 0 ∨ prio > 255 ∨ body.size > 64
 · rw [if_pos c2]
   clear a3 a5 hrk
   cases kr
   all_goals
     refine fi Tryz.func33 Tryz.ntmps33 ?_
     (have kc1:=a0;have kc2:=a1;have kc3:=a2;refine w0 ?_;(repeat' first|refine W2.mk ?_ ?_|refine W1.mk fun hc=>?_);all_goals clear kc3 kc2 kc1)
     all_goals first|(exfalso;rcases c2 with h|h|h|h <;> first|cases h|omega)|skip
     all_goals
       refine j8 ?_ ?_
       · exact eX (cq inferInstance inferInstance rfl rfl rfl rfl rfl rfl) aI
       · exact aA rfl rfl
 have a6:=a5 c2
 clear a5
 rw [if_neg c2]
 obtain ⟨rfl,d1,d2,d3⟩:kr = true ∧ 0 ≤ prio ∧ prio ≤ 255 ∧ body.size ≤ 64:=by
   cases kr with
   | false=>exact absurd (.inl rfl) c2
   | true=>
     have e1:¬ prio < 0:=fun q=>c2 (.inr (.inl q))
     have e2:¬ prio > 255:=fun q=>c2 (.inr (.inr (.inl q)))
     have e3:¬ body.size > 64:=fun q=>c2 (.inr (.inr (.inr q)))
     exact ⟨rfl,by omega,by omega,by omega⟩
 clear c2
 cases hf with
 | false=>
   rw [if_pos rfl]
   clear a6 hrk
   refine fi Tryz.func33 Tryz.ntmps33 ?_
   (have kc1:=a0;have kc2:=a1;have kc3:=a2;have kc4:=a3;refine w0 ?_;(repeat' first|refine W2.mk ?_ ?_|refine W1.mk fun hc=>?_);all_goals clear kc4 kc3 kc2 kc1)
   refine j8 ?_ ?_
   · exact eX (cq inferInstance inferInstance rfl rfl rfl rfl rfl rfl) aI
   · exact aA rfl rfl
 | true=>
 rw [if_neg (show ¬ true = false by simp)]
 by_cases c4:s.cnt = 1099511627776 ∨ (zi o).rank = 1099511627776
 · rw [if_pos c4]
   clear a6 hrk
   refine fi Tryz.func33 Tryz.ntmps33 ?_
   (have kc1:=a0;have kc2:=a1;have kc3:=a2;have kc4:=a3;refine w0 ?_;(repeat' first|refine W2.mk ?_ ?_|refine W1.mk fun hc=>?_);all_goals clear kc4 kc3 kc2 kc1)
   all_goals first|(exfalso;rcases c4 with h|h <;> omega)|skip
   all_goals
     refine j8 ?_ ?_
     · exact eX (cq inferInstance inferInstance rfl rfl rfl rfl rfl rfl) aI
     · exact aA rfl rfl
 have d4:s.cnt ≠ 1099511627776:=fun q=>c4 (.inl q)
 have d5:(zi o).rank ≠ 1099511627776:=fun q=>c4 (.inr q)
 have a4:=a6 d4 d5
 clear a6
 rw [if_neg c4]
 clear c4
 by_cases c5:o = none ∧ s.its.length = 4096
 · rw [if_pos c5]
   clear a4
   obtain ⟨rfl,c5⟩:=c5
   refine fi Tryz.func33 Tryz.ntmps33 ?_
   (have kc1:=a0;have kc2:=a1;have kc3:=a2;have kc4:=a3;refine w0 ?_;(repeat' first|refine W2.mk ?_ ?_|refine W1.mk fun hc=>?_);all_goals clear kc4 kc3 kc2 kc1)
   refine j8 ?_ ?_
   · exact eX (cq inferInstance inferInstance rfl rfl rfl rfl rfl rfl) aI
   · exact aA rfl rfl
 · rw [if_neg c5]
   cases o with
   | none=>
     have c5:s.its.length ≠ 4096:=fun q=>c5 ⟨rfl,q⟩
     refine fi Tryz.func33 Tryz.ntmps33 ?_
     (have kc1:=a0;have kc2:=a1;have kc3:=a2;have kc4:=a3;have kc5:=a4;refine w0 ?_;(repeat' first|refine W2.mk ?_ ?_|refine W1.mk fun hc=>?_);all_goals clear kc5 kc4 kc3 kc2 kc1)
     refine j8 ?_ ?_
     · exact cq inferInstance inferInstance rfl rfl rfl rfl rfl rfl
     · exact aA rfl rfl
   | some y=>
     clear c5
     refine fi Tryz.func33 Tryz.ntmps33 ?_
     (have kc1:=a0;have kc2:=a1;have kc3:=a2;have kc4:=a3;have kc5:=a4;refine w0 ?_;(repeat' first|refine W2.mk ?_ ?_|refine W1.mk fun hc=>?_);all_goals clear kc5 kc4 kc3 kc2 kc1)
     refine j8 ?_ ?_
     · exact cq inferInstance inferInstance rfl rfl rfl rfl rfl rfl
     · exact aA rfl rfl
end
theorem Ju (l:List It) (k:ByteArray):(zi (fA l k)).rank = jf l k:=by unfold jf;cases fA l k <;> rfl
theorem Gy (s:Sta) (k:ByteArray) (prio:Int) (body:ByteArray) (hB:Ds s) (hl:s.its.length ≤ 100000) (hb:body.size ≤ 1000000000) (hks:k.size ≤ 1000000000) (hj:ef s = true → eu k = true → b0 (s.know ++ dG k s.id (s.cnt + 1))) :
   Fn Tryz.prog 33 [cY s,sC k,iC .i64 prio,sC body] (.tup2 (.per (sL (kq s k prio body).1)) (fL (kq s k prio body).2)):=by
 have hG:=CS s k prio body (fA s.its k) (ef s) (eu k) (bg s.flt k) (za s (lX s k prio false body)) (by omega) hb (K4 s k (by omega)) (qU s hB) (fY k)
 rw [Ju] at hG
 have e:Mo s prio body (fA s.its k) (jf s.its k) (ef s) (eu k) (bg s.flt k) (za s (lX s k prio false body)) = kq s k prio body:=rfl
 rw [e] at hG
 refine hG (fun hr=>?_) (fun hr=>sR (iI hr).1 k) fun hr h1 h2 h3=>?_
 · obtain ⟨_,_,_,c4,_⟩:=ei hr
   exact qL s.flt k c4 (by have:=hB.flt;omega) hks
 · have hk:eu k = true:=by
     cases q:eu k with
     | true=>rfl
     | false=>exact absurd (.inl q) h1
   have e1:¬ prio < 0:=fun q=>h1 (.inr (.inl q))
   have e2:¬ prio > 255:=fun q=>h1 (.inr (.inr (.inl q)))
   have e3:¬ body.size > 64:=fun q=>h1 (.inr (.inr (.inr q)))
   have hx:itR (lX s k prio false body) = true:=qY hr hk ⟨by omega,by omega⟩ (by omega) (fun q=>by cases q) h2 h3
   obtain ⟨c1,c2,_⟩:=ei hr
   have hv:cI s.id (s.cnt + 1) = true:=by unfold cI;simp;omega
   have b1:=K2 s.know k s.id (s.cnt + 1) hk hv (hj hr hk)
   have b2:=(qE [[lX s k prio false body],s.its] (by
     refine Nat.le_trans (List.length_filter_le _ _) ?_
     simp;omega) (by simp) (fun m hm=>by
     simp at hm
     rcases hm with rfl|rfl
     · simp
     · omega)).frz
   rw [CQ hr hx] at b2
   exact K5 s ⟨k,0,0,jf s.its k + 1,prio,false,body⟩ _ _ ⟨by omega,by omega⟩ b1 b2 (qZ s.flt (by have:=hB.flt;omega)).frz
def Gz (O:OV) (A:PV):Prop:=∀ {F N N':BP} {w:World} {v:Value},O.p F N w v → (∀ b,F b → b < w.heap.size ∧ ¬ N' b) → (∀ b,N' b → N b) → A.p N' w v
inductive q0:List OV → List PV → Prop
 | nil:q0 [] []
 | cons {O:OV} {A:PV} {l:List OV} {l':List PV} (h:Gz O A) (k:q0 l l'):q0 (O :: l) (A :: l')
theorem q0.get {l:List OV} {l':List PV} (h:q0 l l'):l'.length = l.length ∧ ∀ (j:Nat) (O:OV) (A:PV),l[j]? = some O → l'[j]? = some A → Gz O A:=by
 induction h with
 | nil=>exact ⟨rfl,fun j O A h=>by simp at h⟩
 | cons h k ih=>
   refine ⟨by simp [ih.1],fun j O' A' h1 h2=>?_⟩
   cases j with
   | zero=>simp at h1 h2;subst h1;subst h2;exact h
   | succ j=>exact ih.2 j O' A' (by simpa using h1) (by simpa using h2)
inductive UC where
 | p (A:PV) (h:nR A)
 | o (id:Nat) (O:OV)
def UC.cell (vr:Nat → Nat):UC → Cnt
 | .p A _=>.per A
 | .o id _=>.row id (vr id)
def CT (i:Nat):List Nat → Bool
 | []=>false
 | j :: l=>bif Nat.beq i j then true else CT i l
theorem nt {i:Nat} {l:List Nat}:CT i l = true ↔ i ∈ l:=by
 induction l with
 | nil=>simp [CT]
 | cons j l ih=>
   unfold CT
   cases hb:Nat.beq i j with
   | true=>simp [ba.1 hb]
   | false=>
     have:i ≠ j:=fun e=>by rw [ba.2 e] at hb;cases hb
     simp [ih,this]
section
variable {P:Program} {n:Nat} {S:St} {C:Ctx} {g g':Gh} {w w':World} {I:Nat → Prop}
inductive mD (S:St):List UC → Prop
 | nil:mD S []
 | p {A:PV} {h:nR A} {l:List UC} (k:mD S l):mD S (.p A h :: l)
 | o {i:Nat} {O:OV} {l:List UC} (h:S.blk i = .obj O) (k:mD S l):mD S (.o i O :: l)
theorem mD.get {us:List UC} (h:mD S us) {j i:Nat} {O:OV} (hj:us[j]? = some (.o i O)):S.blk i = .obj O:=by
 induction h generalizing j with
 | nil=>simp at hj
 | p k ih=>cases j with
   | zero=>simp at hj
   | succ j=>exact ih (by simpa using hj)
 | o h k ih=>cases j with
   | zero=>simp at hj;obtain ⟨rfl,rfl⟩:=hj;exact h
   | succ j=>exact ih (by simpa using hj)
end
section
variable {P:Program} {n:Nat} {ops:Array Oper} {o:Oper} {F:List Nat} {S T:St} {C:Ctx} {g:Gh} {a:Act} {w w':World} {t:Nat}
def GA (C:Ctx) (g:Gh) (w:World) (ids:List Nat):BP:=fun b=>b < w.heap.size ∧ g.N C b ∧ ∀ i ∈ ids,g.ow b ≠ some i
def q8 (F:List Nat) (S:St) (ids:List Nat) (x:Operand) (c:Cnt):Prop:=∀ (n:Nat) (C:Ctx) (T:St) (g:Gh) (a:Act) (w:World),cE F T S → RG C n T g a w →
 crep ⟨w,GA C g w ids,fun _=>False,g0⟩ (fun _=>0) g0 w (a.eval x) c
inductive zw (S:St) (ids:List Nat):Cnt → PV → Prop
 | per {A:PV}:zw S ids (.per A) A
 | obj {id vr:Nat} {O:OV} {A:PV} (hv:S.ver id = vr) (hb:S.blk id = .obj O) (hl:Gz O A) (hi:CT id ids = true):zw S ids (.row id vr) A
 | row {id vr e k:Nat} {es:List (List PV)} (hv:S.ver id = vr) (hb:S.blk id = .row e k es) (hi:CT id ids = true):zw S ids (.row id vr) (ct k es)
inductive w7 (S:St) (ids:List Nat):List Cnt → List PV → Prop
 | nil:w7 S ids [] []
 | cons {c:Cnt} {A:PV} {l:List Cnt} {l':List PV} (h:zw S ids c A) (k:w7 S ids l l'):w7 S ids (c :: l) (A :: l')
theorem w7.get {ids:List Nat} {l:List Cnt} {l':List PV} (h:w7 S ids l l'):l'.length = l.length ∧ ∀ (j:Nat) (c:Cnt) (A:PV),l[j]? = some c → l'[j]? = some A → zw S ids c A:=by
 induction h with
 | nil=>exact ⟨rfl,fun j O A h=>by simp at h⟩
 | cons h k ih=>
   refine ⟨by simp [ih.1],fun j O' A' h1 h2=>?_⟩
   cases j with
   | zero=>simp at h1 h2;subst h1;subst h2;exact h
   | succ j=>exact ih.2 j O' A' (by simpa using h1) (by simpa using h2)
theorem zw.rep {ids:List Nat} {c:Cnt} {A:PV} (h:zw S ids c A) (hA:cE F T S) (hF:∀ i ∈ ids,2 * i + 1 ∈ F) (hR:RG C n T g a w) {v:Value} (hc:crep C T.ver g w v c):A.p (GA C g w ids) w v:=by
 cases h with
 | per=>exact A.mono (Nat.le_refl _) (fun _ _ _=>rfl) (fun b _ hb=>hb.2.1) hc
 | @obj id vr O A hv hb hl hi=>
   have hF':=hF id (nt.1 hi)
   have h1:=hR.blks id
   rw [(hA.2 id hF').1,hb] at h1
   rw [hc.2 (by rw [(hA.2 id hF').2,hv])]
   exact hl h1 (fun b hb=>⟨(hR.dom b id hb).1,fun q=>q.2.2 id (nt.1 hi) hb⟩) (fun b hb=>hb.2.1)
 | @row id vr e k es hv hb hi=>
   have hF':=hF id (nt.1 hi)
   have h1:=hR.blks id
   rw [(hA.2 id hF').1,hb] at h1
   rw [hc.2 (by rw [(hA.2 id hF').2,hv])]
   show dH _ _ k es w (g.rh id)
   rcases h1 with ⟨q1,rfl⟩|⟨cap,cs,q1,q2,q3,q4,q5,q6,q7⟩
   · exact ⟨none,0,0,0,by rw [q1];rfl,by simp,by decide,fun _=>rfl,by simp,fun i cs hi=>by simp at hi⟩
   · refine ⟨_,cap,g.ph id,0,q1,q4,q5,by simp,fun _=>⟨rfl,(hR.dom _ _ q3).1,fun hn=>hn.2.2 id (nt.1 hi) q3⟩,fun i ps hi=>?_⟩
     obtain ⟨r1,r2⟩:=q7 i ps hi
     refine ⟨r1,fun j A hj=>?_⟩
     obtain ⟨y,s1,s2,s3⟩:=r2 j A hj
     exact ⟨y,by rw [Nat.zero_add,dV q2];exact s1,s2,A.mono (Nat.le_refl _) (fun _ _ _=>rfl) (fun b _ hb=>hb.2.1) s3⟩
inductive lU (F:List Nat) (S:St) (ids:List Nat):List Operand → List Cnt → Prop
 | nil:lU F S ids [] []
 | cons {x:Operand} {c:Cnt} {xs:List Operand} {cs:List Cnt} (h:q8 F S ids x c) (t:lU F S ids xs cs):lU F S ids (x :: xs) (c :: cs)
theorem lU.rep {ids:List Nat} {xs:List Operand} {cs:List Cnt} (h:lU F S ids xs cs) (hA:cE F T S) (hR:RG C n T g a w):mI (GA C g w ids) w (xs.map a.eval) cs:=by
 induction h with
 | nil=>exact ⟨rfl,fun i v c hi=>by simp at hi⟩
 | cons h t ih=>
   refine ⟨by simp [ih.1],fun i v c hi hc=>?_⟩
   cases i with
   | zero=>
     simp at hi hc;subst hi;subst hc
     exact h n C T g a w hA hR
   | succ i=>exact ih.2 i v c (by simpa using hi) (by simpa using hc)
end
end Go.Proofs.YtembiemaiacdfaaGreat
