/- Texts joined: SwX PlB AbsO. -/
import Derived.Test.YtembiemaiacdfaaGreatJ29
import Derived.Test.YtembiemaiacdfaaGreatJ05
import Derived.Test.YtembiemaiacdfaaGreatJ07
set_option maxRecDepth 10000
set_option maxHeartbeats 8000000
namespace Go.Proofs.YtembiemaiacdfaaGreat
open Go.RowKit
theorem sv {l:List It} (h:l.all fx = true) (k:ByteArray):0 ≤ iQ l k ∧ iQ l k ≤ 1099511627776:=by
 unfold iQ
 cases hg:iu l k with
 | none=>simp
 | some y=>
   have:=List.all_eq_true.1 h y (oo hg).1
   unfold fx at this
   simp only [Bool.and_eq_true,decide_eq_true_eq] at this
   simp only
   omega
theorem FP {l:List It} {y:It} (hu:Up l) (hy:y ∈ l):iQ l y.key = y.rank:=by
 have h1:=hu.filter y.key
 have hm:y ∈ l.filter (fun x=>x.key == y.key):=List.mem_filter.2 ⟨hy,by rw [jb]⟩
 have hone:∀ z ∈ l,z.key = y.key → z = y:=fun z hz e=>by
   have hm2:z ∈ l.filter (fun x=>x.key == y.key):=List.mem_filter.2 ⟨hz,by rw [jb];exact e⟩
   rw [h1] at hm hm2
   cases h3:dg y.key l with
   | none=>rw [h3] at hm;simp at hm
   | some w=>rw [h3] at hm hm2;simp at hm hm2;rw [hm,hm2]
 unfold iQ
 cases hg:iu l y.key with
 | none=>exact absurd rfl (BL hg y hy)
 | some z=>
   obtain ⟨q1,q2⟩:=oo hg
   simp only
   rw [hone z q1 q2]
theorem qL {s:Sta} {k:ByteArray} {prio:Int} {dead:Bool} {body:ByteArray} (h:ko s = true) (hk:fy k = true) (hp:0 ≤ prio ∧ prio ≤ 255) (hb:body.size ≤ 64) (hd:dead = true → body.size = 0) (hc:s.cnt ≠ 1099511627776) (hr:iQ s.its k ≠ 1099511627776):fx (lw s k prio dead body) = true:=by
 obtain ⟨c1,c2,_⟩:=j9 h
 have hq:=sv (tW h).1 k
 unfold fx lw dF
 simp only [Bool.and_eq_true,decide_eq_true_eq]
 refine ⟨⟨hk,?_⟩,by omega,by omega,by omega,by omega,hb,hd⟩
 first|omega|(simp;omega)
theorem BN {s:Sta} {k:ByteArray} {prio:Int} {dead:Bool} {body:ByteArray} (h:ko s = true) (hx:fx (lw s k prio dead body) = true):j3 [[lw s k prio dead body],s.its] = gF (lw s k prio dead body) s.its:=by
 obtain ⟨h1,h2⟩:=tW h
 refine Bu hx h1 h2 fun y hy e=>?_
 have e:y.key = k:=e
 have:=FP h2 hy
 rw [e] at this
 show y.rank < iQ s.its k + 1
 omega
theorem tX {s:Sta} {k:ByteArray} {prio:Int} {body:ByteArray} (h:(j7 s k prio body).2 = 0):ko (j7 s k prio body).1 = true ∧ (j7 s k prio body).1 = yu s (lw s k prio false body) ∧ fx (lw s k prio false body) = true ∧ ko s = true:=by
 unfold j7 at h ⊢
 by_cases c1:ko s = false
 · rw [if_pos c1] at h;simp at h
 rw [if_neg c1] at h ⊢
 by_cases c2:fy k = false ∨ prio < 0 ∨ prio > 255 ∨ body.size > 64
 · rw [if_pos c2] at h;simp at h
 rw [if_neg c2] at h ⊢
 by_cases c3:bn s.flt k = false
 · rw [if_pos c3] at h;simp at h
 rw [if_neg c3] at h ⊢
 by_cases c4:s.cnt = 1099511627776 ∨ iQ s.its k = 1099511627776
 · rw [if_pos c4] at h;simp at h
 rw [if_neg c4] at h ⊢
 by_cases c5:iu s.its k = none ∧ s.its.length = 4096
 · rw [if_pos c5] at h;simp at h
 rw [if_neg c5]
 have hs:ko s = true:=by simpa using c1
 have hk:fy k = true:=by
   cases q:fy k with
   | true=>rfl
   | false=>exact absurd (.inl q) c2
 have hx:fx (lw s k prio false body) = true:=qL hs hk ⟨by have:=fun q=>c2 (.inr (.inl q));omega,by have:=fun q=>c2 (.inr (.inr (.inl q)));omega⟩ (by have:=fun q=>c2 (.inr (.inr (.inr q)));omega) (fun q=>by cases q) (fun q=>c4 (.inl q)) (fun q=>c4 (.inr q))
 refine ⟨?_,rfl,hx,hs⟩
 obtain ⟨_,_,l3,_⟩:=j9 hs
 refine yL hs (fun q=>c4 (.inl q)) hx rfl rfl (by show bn s.flt k = true;simpa using c3) ?_
 cases hg:iu s.its k with
 | none=>
   have:=FO s.its (lw s k prio false body)
   have:s.its.length ≠ 4096:=fun q=>c5 ⟨hg,q⟩
   omega
 | some y=>
   obtain ⟨q1,q2⟩:=oo hg
   have:=BM s.its (lw s k prio false body) ⟨y,q1,q2⟩
   omega
def zi:Option It → It
 | none=>Md
 | some x=>x
theorem BO {l:List It} {k:ByteArray} {i:Nat} (hi:i < l.length) (h:iu (l.take i) k = none) (hk:l[i].key ≠ k):iu (l.take (i + 1)) k = none:=by
 unfold iu at *
 rw [aN _ i hi,List.find?_append,h]
 simp [hk]
theorem FQ {l:List It} {k:ByteArray} {i:Nat} (hi:i < l.length) (h:iu (l.take i) k = none) (hk:l[i].key = k):iu l k = some l[i]:=by
 unfold iu at *
 have e:l = l.take i ++ l[i] :: l.drop (i + 1):=by rw [← List.drop_eq_getElem_cons hi,List.take_append_drop]
 have e2:(l.take i ++ l[i] :: l.drop (i + 1)).find? (fun x=>decide (x.key = k)) = some l[i]:=by
   rw [List.find?_append,h,List.find?_cons]
   simp [hk]
 rw [← e] at e2
 exact e2
section
theorem yM (l:List Rg) (hl:l.length ≤ 1000000000):Fn Tryz.prog 71 [db l] (v8 l):=by
 by_cases h0:0 < l.length
 · refine fi Tryz.func71 Tryz.ntmps71 ?_
   (refine w0 ?_;(repeat' first|refine W2.mk ?_ ?_|refine W1.mk fun hc=>?_))
   refine aO ?_
   exact cn rfl rfl rfl
 · obtain rfl:l = []:=List.eq_nil_of_length_eq_zero (by omega)
   refine fi Tryz.func71 Tryz.ntmps71 ?_
   (refine w0 ?_;(repeat' first|refine W2.mk ?_ ?_|refine W1.mk fun hc=>?_))
   · refine aO ?_
     exact sW rfl
   · refine aO ?_
     exact cn rfl rfl rfl
theorem Kr (s:Sta) (k:ByteArray) (hl:s.its.length ≤ 1000000):Fn Tryz.prog 78 [iV s,sC k] (.tup2 (.per (bW (itP (zi (iu s.its k))))) (cU (iu s.its k).isSome)):=by
 refine fi Tryz.func78 Tryz.ntmps78 ?_
 (refine w0 ?_;(repeat' first|refine W2.mk ?_ ?_|refine W1.mk fun hc=>?_))
 refine ah (X:=Nat) (fun i=>i ≤ s.its.length ∧ iu (s.its.take i) k = none) (fun i=>aJ [(1,sC k),(4,.ptr 4 0 0),(9,.per (da s.its)),(10,iC .i64 (s.its.length:Nat)),(11,iC .i64 (i:Nat))] [(4,.box 61 ((itP Md).map .per))]) (fun i=>s.its.length - i) 0 ⟨Nat.zero_le _,rfl⟩ ?_ ?_
 · exact ab
 · rintro i ⟨h1,h2⟩
   by_cases hi:i < s.its.length
   · have hS:=BO hi h2
     have hH:=FQ hi h2
     clear h2
     (refine w0 ?_;(repeat' first|refine W2.mk ?_ ?_|refine W1.mk fun hc=>?_))
     · rw [hH ((tM _ _).1 (by assumption))]
       refine oO ?_ ?_
       · exact ec inferInstance inferInstance rfl rfl rfl rfl rfl rfl
       · exact af rfl rfl
     · refine ⟨i + 1,⟨by omega,hS (fun q=>(by assumption:¬ s.its[i].key.toList = k.toList) ((tM _ _).2 q))⟩,by omega,?_⟩
       exact ab
   · rw [List.take_of_length_le (by omega)] at h2
     rw [h2]
     (refine w0 ?_;(repeat' first|refine W2.mk ?_ ?_|refine W1.mk fun hc=>?_))
     refine oO ?_ ?_
     · exact ec inferInstance inferInstance rfl rfl rfl rfl rfl rfl
     · exact af rfl rfl
theorem Ks (s:Sta) (x:It) (K:List Pc) (M:List It) (hc:-9223372036854775808 ≤ s.cnt ∧ s.cnt ≤ 1099511627776) (a1:Fn Tryz.prog 134 [l9 s.know,sC x.key,BH [(s.id,s.cnt + 1)]] (.per (ip K)))
   (a2:Fn Tryz.prog 68 [.bor 1 [[da [⟨x.key,s.id,s.cnt + 1,x.rank,x.prio,x.dead,x.body⟩]],[da s.its]]] (.per (da M))) (a3:Fn Tryz.prog 71 [db s.flt] (.per (ef s.flt))) :
   Fn Tryz.prog 81 [iV s,oP x] (.per (Lc ⟨s.id,s.flt,M,K,s.cnt + 1⟩)):=by
 refine fi Tryz.func81 Tryz.ntmps81 ?_
 (have kc1:=a1;have kc2:=a2;have kc3:=a3;refine w0 ?_;(repeat' first|refine W2.mk ?_ ?_|refine W1.mk fun hc=>?_);all_goals clear kc3 kc2 kc1)
 refine aO ?_
 exact ec inferInstance inferInstance rfl rfl rfl rfl rfl rfl
def LH (s:Sta) (prio:Int) (body:ByteArray) (o:Option It) (rk:Int) (r kr hf:Bool) (S':Sta):Sta × Int:=
 if r = false then ({},41)
 else if kr = false ∨ prio < 0 ∨ prio > 255 ∨ body.size > 64 then ({},2)
 else if hf = false then ({},30)
 else if s.cnt = 1099511627776 ∨ rk = 1099511627776 then ({},33)
 else if o = none ∧ s.its.length = 4096 then ({},32)
 else (S',0)
theorem BQ (s:Sta) (k:ByteArray) (prio:Int) (body:ByteArray) (o:Option It) (r kr hf:Bool) (S':Sta) (_hl:s.its.length ≤ 1000000) (hb:body.size ≤ 1000000000)
   (a0:Fn Tryz.prog 78 [iV s,sC k] (.tup2 (.per (bW (itP (zi o)))) (cU o.isSome))) (a1:Fn Tryz.prog 64 [iV s] (cU r)) (a2:Fn Tryz.prog 79 [sC k] (cU kr)) (a3':r = true → Fn Tryz.prog 80 [.per (ef s.flt),sC k] (cU hf))
   (hrk':r = true → 0 ≤ (zi o).rank ∧ (zi o).rank ≤ 1099511627776)
   (a4':r = true → ¬ (kr = false ∨ prio < 0 ∨ prio > 255 ∨ body.size > 64) → s.cnt ≠ 1099511627776 → (zi o).rank ≠ 1099511627776 → Fn Tryz.prog 81 [iV s,oP ⟨k,0,0,(zi o).rank + 1,prio,false,body⟩] (.per (Lc S'))) :
   Fn Tryz.prog 33 [iV s,sC k,iC .i64 prio,sC body] (.tup2 (.per (Lc (LH s prio body o (zi o).rank r kr hf S').1)) (ig (LH s prio body o (zi o).rank r kr hf S').2)):=by
 unfold LH
 cases r with
 | false=>
   rw [if_pos rfl]
   clear a2 a3' a4' hrk'
   refine fi Tryz.func33 Tryz.ntmps33 ?_
   (have kc1:=a0;have kc2:=a1;refine w0 ?_;(repeat' first|refine W2.mk ?_ ?_|refine W1.mk fun hc=>?_);all_goals clear kc2 kc1)
   refine oO ?_ ?_
   · exact jz (ec inferInstance inferInstance rfl rfl rfl rfl rfl rfl) aI
   · exact az rfl rfl
 | true=>
 have a3:=a3' rfl
 have hrk:=hrk' rfl
 have a5:=a4' rfl
 clear a3' hrk' a4'
 rw [if_neg (show ¬ true = false by simp)]
 by_cases c2:kr = false ∨ prio < 0 ∨ prio > 255 ∨ body.size > 64
 · rw [if_pos c2]
   clear a3 a5 hrk
   cases kr
   all_goals
     refine fi Tryz.func33 Tryz.ntmps33 ?_
     (have kc1:=a0;have kc2:=a1;have kc3:=a2;refine w0 ?_;(repeat' first|refine W2.mk ?_ ?_|refine W1.mk fun hc=>?_);all_goals clear kc3 kc2 kc1)
     all_goals first|(exfalso;rcases c2 with h|h|h|h <;> first|cases h|omega)|skip
     all_goals
       refine oO ?_ ?_
       · exact jz (ec inferInstance inferInstance rfl rfl rfl rfl rfl rfl) aI
       · exact az rfl rfl
 have a6:=a5 c2
 clear a5
 rw [if_neg c2]
 obtain ⟨rfl,d1,d2,d3⟩:kr = true ∧ 0 ≤ prio ∧ prio ≤ 255 ∧ body.size ≤ 64:=by
   cases kr with
   | false=>exact absurd (.inl rfl) c2
   | true=>
     have e1:¬ prio < 0:=fun q=>c2 (.inr (.inl q))
     have e2:¬ prio > 255:=fun q=>c2 (.inr (.inr (.inl q)))
     have e3:¬ body.size > 64:=fun q=>c2 (.inr (.inr (.inr q)))
     exact ⟨rfl,by omega,by omega,by omega⟩
 clear c2
 cases hf with
 | false=>
   rw [if_pos rfl]
   clear a6 hrk
   refine fi Tryz.func33 Tryz.ntmps33 ?_
   (have kc1:=a0;have kc2:=a1;have kc3:=a2;have kc4:=a3;refine w0 ?_;(repeat' first|refine W2.mk ?_ ?_|refine W1.mk fun hc=>?_);all_goals clear kc4 kc3 kc2 kc1)
   refine oO ?_ ?_
   · exact jz (ec inferInstance inferInstance rfl rfl rfl rfl rfl rfl) aI
   · exact az rfl rfl
 | true=>
 rw [if_neg (show ¬ true = false by simp)]
 by_cases c4:s.cnt = 1099511627776 ∨ (zi o).rank = 1099511627776
 · rw [if_pos c4]
   clear a6 hrk
   refine fi Tryz.func33 Tryz.ntmps33 ?_
   (have kc1:=a0;have kc2:=a1;have kc3:=a2;have kc4:=a3;refine w0 ?_;(repeat' first|refine W2.mk ?_ ?_|refine W1.mk fun hc=>?_);all_goals clear kc4 kc3 kc2 kc1)
   all_goals first|(exfalso;rcases c4 with h|h <;> omega)|skip
   all_goals
     refine oO ?_ ?_
     · exact jz (ec inferInstance inferInstance rfl rfl rfl rfl rfl rfl) aI
     · exact az rfl rfl
 have d4:s.cnt ≠ 1099511627776:=fun q=>c4 (.inl q)
 have d5:(zi o).rank ≠ 1099511627776:=fun q=>c4 (.inr q)
 have a4:=a6 d4 d5
 clear a6
 rw [if_neg c4]
 clear c4
 by_cases c5:o = none ∧ s.its.length = 4096
 · rw [if_pos c5]
   clear a4
   obtain ⟨rfl,c5⟩:=c5
   refine fi Tryz.func33 Tryz.ntmps33 ?_
   (have kc1:=a0;have kc2:=a1;have kc3:=a2;have kc4:=a3;refine w0 ?_;(repeat' first|refine W2.mk ?_ ?_|refine W1.mk fun hc=>?_);all_goals clear kc4 kc3 kc2 kc1)
   refine oO ?_ ?_
   · exact jz (ec inferInstance inferInstance rfl rfl rfl rfl rfl rfl) aI
   · exact az rfl rfl
 · rw [if_neg c5]
   cases o with
   | none=>
     have c5:s.its.length ≠ 4096:=fun q=>c5 ⟨rfl,q⟩
     refine fi Tryz.func33 Tryz.ntmps33 ?_
     (have kc1:=a0;have kc2:=a1;have kc3:=a2;have kc4:=a3;have kc5:=a4;refine w0 ?_;(repeat' first|refine W2.mk ?_ ?_|refine W1.mk fun hc=>?_);all_goals clear kc5 kc4 kc3 kc2 kc1)
     refine oO ?_ ?_
     · exact ec inferInstance inferInstance rfl rfl rfl rfl rfl rfl
     · exact az rfl rfl
   | some y=>
     clear c5
     refine fi Tryz.func33 Tryz.ntmps33 ?_
     (have kc1:=a0;have kc2:=a1;have kc3:=a2;have kc4:=a3;have kc5:=a4;refine w0 ?_;(repeat' first|refine W2.mk ?_ ?_|refine W1.mk fun hc=>?_);all_goals clear kc5 kc4 kc3 kc2 kc1)
     refine oO ?_ ?_
     · exact ec inferInstance inferInstance rfl rfl rfl rfl rfl rfl
     · exact az rfl rfl
end
theorem I1 (l:List It) (k:ByteArray):(zi (iu l k)).rank = iQ l k:=by unfold iQ;cases iu l k <;> rfl
theorem FR (s:Sta) (k:ByteArray) (prio:Int) (body:ByteArray) (hB:Kl s) (hl:s.its.length ≤ 100000) (hb:body.size ≤ 1000000000) (hks:k.size ≤ 1000000000) (hj:ko s = true → fy k = true → cJ (s.know ++ jf k s.id (s.cnt + 1))) :
   Fn Tryz.prog 33 [iV s,sC k,iC .i64 prio,sC body] (.tup2 (.per (Lc (j7 s k prio body).1)) (ig (j7 s k prio body).2)):=by
 have hG:=BQ s k prio body (iu s.its k) (ko s) (fy k) (bn s.flt k) (yu s (lw s k prio false body)) (by omega) hb (Kr s k (by omega)) (wm s hB) (fN k)
 rw [I1] at hG
 have e:LH s prio body (iu s.its k) (iQ s.its k) (ko s) (fy k) (bn s.flt k) (yu s (lw s k prio false body)) = j7 s k prio body:=rfl
 rw [e] at hG
 refine hG (fun hr=>?_) (fun hr=>sv (tW hr).1 k) fun hr h1 h2 h3=>?_
 · obtain ⟨_,_,_,c4,_⟩:=j9 hr
   exact qx s.flt k c4 (by have:=hB.flt;omega) hks
 · have hk:fy k = true:=by
     cases q:fy k with
     | true=>rfl
     | false=>exact absurd (.inl q) h1
   have e1:¬ prio < 0:=fun q=>h1 (.inr (.inl q))
   have e2:¬ prio > 255:=fun q=>h1 (.inr (.inr (.inl q)))
   have e3:¬ body.size > 64:=fun q=>h1 (.inr (.inr (.inr q)))
   have hx:fx (lw s k prio false body) = true:=qL hr hk ⟨by omega,by omega⟩ (by omega) (fun q=>by cases q) h2 h3
   obtain ⟨c1,c2,_⟩:=j9 hr
   have hv:dF s.id (s.cnt + 1) = true:=by unfold dF;simp;omega
   have b1:=Km s.know k s.id (s.cnt + 1) hk hv (hj hr hk)
   have b2:=(yn [[lw s k prio false body],s.its] (by
     refine Nat.le_trans (List.length_filter_le _ _) ?_
     simp;omega) (by simp) (fun m hm=>by
     simp at hm
     rcases hm with rfl|rfl
     · simp
     · omega)).frz
   rw [BN hr hx] at b2
   exact Ks s ⟨k,0,0,iQ s.its k + 1,prio,false,body⟩ _ _ ⟨by omega,by omega⟩ b1 b2 (yM s.flt (by have:=hB.flt;omega)).frz
def FS (O:OV) (A:PV):Prop:=∀ {F N N':BP} {w:World} {v:Value},O.p F N w v → (∀ b,F b → b < w.heap.size ∧ ¬ N' b) → (∀ b,N' b → N b) → A.p N' w v
inductive qM:List OV → List PV → Prop
 | nil:qM [] []
 | cons {O:OV} {A:PV} {l:List OV} {l':List PV} (h:FS O A) (k:qM l l'):qM (O :: l) (A :: l')
theorem qM.get {l:List OV} {l':List PV} (h:qM l l'):l'.length = l.length ∧ ∀ (j:Nat) (O:OV) (A:PV),l[j]? = some O → l'[j]? = some A → FS O A:=by
 induction h with
 | nil=>exact ⟨rfl,fun j O A h=>by simp at h⟩
 | cons h k ih=>
   refine ⟨by simp [ih.1],fun j O' A' h1 h2=>?_⟩
   cases j with
   | zero=>simp at h1 h2;subst h1;subst h2;exact h
   | succ j=>exact ih.2 j O' A' (by simpa using h1) (by simpa using h2)
inductive UC where
 | p (A:PV) (h:nz A)
 | o (id:Nat) (O:OV)
def UC.cell (vr:Nat → Nat):UC → Cnt
 | .p A _=>.per A
 | .o id _=>.row id (vr id)
def BR (i:Nat):List Nat → Bool
 | []=>false
 | j :: l=>bif Nat.beq i j then true else BR i l
theorem nf {i:Nat} {l:List Nat}:BR i l = true ↔ i ∈ l:=by
 induction l with
 | nil=>simp [BR]
 | cons j l ih=>
   unfold BR
   cases hb:Nat.beq i j with
   | true=>simp [aV.1 hb]
   | false=>
     have:i ≠ j:=fun e=>by rw [aV.2 e] at hb;cases hb
     simp [ih,this]
section
variable {P:Program} {n:Nat} {S:St} {C:Ctx} {g g':Gh} {w w':World} {I:Nat → Prop}
inductive mg (S:St):List UC → Prop
 | nil:mg S []
 | p {A:PV} {h:nz A} {l:List UC} (k:mg S l):mg S (.p A h :: l)
 | o {i:Nat} {O:OV} {l:List UC} (h:S.blk i = .obj O) (k:mg S l):mg S (.o i O :: l)
theorem mg.get {us:List UC} (h:mg S us) {j i:Nat} {O:OV} (hj:us[j]? = some (.o i O)):S.blk i = .obj O:=by
 induction h generalizing j with
 | nil=>simp at hj
 | p k ih=>cases j with
   | zero=>simp at hj
   | succ j=>exact ih (by simpa using hj)
 | o h k ih=>cases j with
   | zero=>simp at hj;obtain ⟨rfl,rfl⟩:=hj;exact h
   | succ j=>exact ih (by simpa using hj)
end
section
variable {P:Program} {n:Nat} {ops:Array Oper} {o:Oper} {F:List Nat} {S T:St} {C:Ctx} {g:Gh} {a:Act} {w w':World} {t:Nat}
def FT (C:Ctx) (g:Gh) (w:World) (ids:List Nat):BP:=fun b=>b < w.heap.size ∧ g.N C b ∧ ∀ i ∈ ids,g.ow b ≠ some i
def qN (F:List Nat) (S:St) (ids:List Nat) (x:Operand) (c:Cnt):Prop:=∀ (n:Nat) (C:Ctx) (T:St) (g:Gh) (a:Act) (w:World),cB F T S → RG C n T g a w →
 crep ⟨w,FT C g w ids,fun _=>False,g0⟩ (fun _=>0) g0 w (a.eval x) c
inductive yN (S:St) (ids:List Nat):Cnt → PV → Prop
 | per {A:PV}:yN S ids (.per A) A
 | obj {id vr:Nat} {O:OV} {A:PV} (hv:S.ver id = vr) (hb:S.blk id = .obj O) (hl:FS O A) (hi:BR id ids = true):yN S ids (.row id vr) A
 | row {id vr e k:Nat} {es:List (List PV)} (hv:S.ver id = vr) (hb:S.blk id = .row e k es) (hi:BR id ids = true):yN S ids (.row id vr) (bK k es)
inductive ws (S:St) (ids:List Nat):List Cnt → List PV → Prop
 | nil:ws S ids [] []
 | cons {c:Cnt} {A:PV} {l:List Cnt} {l':List PV} (h:yN S ids c A) (k:ws S ids l l'):ws S ids (c :: l) (A :: l')
theorem ws.get {ids:List Nat} {l:List Cnt} {l':List PV} (h:ws S ids l l'):l'.length = l.length ∧ ∀ (j:Nat) (c:Cnt) (A:PV),l[j]? = some c → l'[j]? = some A → yN S ids c A:=by
 induction h with
 | nil=>exact ⟨rfl,fun j O A h=>by simp at h⟩
 | cons h k ih=>
   refine ⟨by simp [ih.1],fun j O' A' h1 h2=>?_⟩
   cases j with
   | zero=>simp at h1 h2;subst h1;subst h2;exact h
   | succ j=>exact ih.2 j O' A' (by simpa using h1) (by simpa using h2)
theorem yN.rep {ids:List Nat} {c:Cnt} {A:PV} (h:yN S ids c A) (hA:cB F T S) (hF:∀ i ∈ ids,2 * i + 1 ∈ F) (hR:RG C n T g a w) {v:Value} (hc:crep C T.ver g w v c):A.p (FT C g w ids) w v:=by
 cases h with
 | per=>exact A.mono (Nat.le_refl _) (fun _ _ _=>rfl) (fun b _ hb=>hb.2.1) hc
 | @obj id vr O A hv hb hl hi=>
   have hF':=hF id (nf.1 hi)
   have h1:=hR.blks id
   rw [(hA.2 id hF').1,hb] at h1
   rw [hc.2 (by rw [(hA.2 id hF').2,hv])]
   exact hl h1 (fun b hb=>⟨(hR.dom b id hb).1,fun q=>q.2.2 id (nf.1 hi) hb⟩) (fun b hb=>hb.2.1)
 | @row id vr e k es hv hb hi=>
   have hF':=hF id (nf.1 hi)
   have h1:=hR.blks id
   rw [(hA.2 id hF').1,hb] at h1
   rw [hc.2 (by rw [(hA.2 id hF').2,hv])]
   show di _ _ k es w (g.rh id)
   rcases h1 with ⟨q1,rfl⟩|⟨cap,cs,q1,q2,q3,q4,q5,q6,q7⟩
   · exact ⟨none,0,0,0,by rw [q1];rfl,by simp,by decide,fun _=>rfl,by simp,fun i cs hi=>by simp at hi⟩
   · refine ⟨_,cap,g.ph id,0,q1,q4,q5,by simp,fun _=>⟨rfl,(hR.dom _ _ q3).1,fun hn=>hn.2.2 id (nf.1 hi) q3⟩,fun i ps hi=>?_⟩
     obtain ⟨r1,r2⟩:=q7 i ps hi
     refine ⟨r1,fun j A hj=>?_⟩
     obtain ⟨y,s1,s2,s3⟩:=r2 j A hj
     exact ⟨y,by rw [Nat.zero_add,dE q2];exact s1,s2,A.mono (Nat.le_refl _) (fun _ _ _=>rfl) (fun b _ hb=>hb.2.1) s3⟩
inductive lq (F:List Nat) (S:St) (ids:List Nat):List Operand → List Cnt → Prop
 | nil:lq F S ids [] []
 | cons {x:Operand} {c:Cnt} {xs:List Operand} {cs:List Cnt} (h:qN F S ids x c) (t:lq F S ids xs cs):lq F S ids (x :: xs) (c :: cs)
theorem lq.rep {ids:List Nat} {xs:List Operand} {cs:List Cnt} (h:lq F S ids xs cs) (hA:cB F T S) (hR:RG C n T g a w):mr (FT C g w ids) w (xs.map a.eval) cs:=by
 induction h with
 | nil=>exact ⟨rfl,fun i v c hi=>by simp at hi⟩
 | cons h t ih=>
   refine ⟨by simp [ih.1],fun i v c hi hc=>?_⟩
   cases i with
   | zero=>
     simp at hi hc;subst hi;subst hc
     exact h n C T g a w hA hR
   | succ i=>exact ih.2 i v c (by simpa using hi) (by simpa using hc)
end
end Go.Proofs.YtembiemaiacdfaaGreat
