/- Texts joined: VsP Kw AbsZ Kw2 Law16. -/
import Derived.Test.YthlffkjpklpkfaaGreatJ14
import Derived.Test.YthlffkjpklpkfaaGreatJ07
import Derived.Test.YthlffkjpklpkfaaGreatJ08
set_option maxRecDepth 10000
set_option maxHeartbeats 8000000
namespace Go.Proofs.YthlffkjpklpkfaaGreat
open Go.RowKit
theorem knsOk_init {l:List Kn} {k:Kn} (h:knsOk (l ++ [k])):knsOk l:=fun i hi hi'=>by
 have h1:=h i (by simp;omega) (by simp;omega)
 have e1:(l ++ [k])[i]'(by simp;omega) = l[i]:=List.getElem_append_left hi
 rw [e1] at h1
 refine ⟨h1.1,h1.2.1,h1.2.2.1,h1.2.2.2.1,fun q=>?_⟩
 have:=h1.2.2.2.2 q
 rw [List.getElem_append_left (by omega)] at this
 exact this
theorem knsOk_last {l:List Kn} {k:Kn} (h:knsOk (l ++ [k])):∀ (d i:Nat) (hi:i < l.length) (_:i + d + 1 = l.length),l[i].rep < k.rep:=by
 intro d
 induction d with
 | zero=>
   intro i hi hd
   have:=(h (i + 1) (by simp;omega) (by simp;omega)).2.2.2.2 (by omega)
   simp only [Nat.add_sub_cancel] at this
   rw [List.getElem_append_left hi,List.getElem_append_right (by omega)] at this
   simpa using this
 | succ d ihd=>
   intro i hi hd
   have:=(h (i + 1) (by simp;omega) (by simp;omega)).2.2.2.2 (by omega)
   simp only [Nat.add_sub_cancel] at this
   rw [List.getElem_append_left hi,List.getElem_append_left (by omega)] at this
   have:=ihd (i + 1) (by omega) (by omega)
   omega
theorem tabAt_none {l:List Kn} {r:Nat} (h:∀ x ∈ l,x.rep ≠ (r:Int) + 1):tabAt l r = []:=by
 unfold tabAt
 rw [List.flatMap_eq_nil_iff]
 intro x hx
 rw [if_neg (h x hx)]
theorem setFrom_nils:∀ (T:List (List Rn)) (i:Nat),(∀ l ∈ T,l = []) → setFrom id i T = []:=by
 intro T
 induction T with
 | nil=>intro i _;rfl
 | cons l T ih=>
   intro i h
   have:=h l List.mem_cons_self
   subst this
   rw [setFrom,ih _ (fun l hl=>h l (List.mem_cons_of_mem _ hl))]
   rfl
theorem vsOf_right (s:List Kn) (h:knsOk s):vsOf id s = s:=by
 induction s using snoc_ind with
 | h0=>exact setFrom_nils _ _ (fun l hl=>by
     obtain ⟨r,_,rfl⟩:=List.mem_map.1 hl
     rfl)
 | h1 l k ih=>
   have hl:=knsOk_init h
   have ih:=ih hl
   obtain ⟨a1,a2,a3,a4⟩:=knsOk_get h (i:=l.length) (by simp)
   rw [show (l ++ [k])[l.length]'(by simp) = k by simp] at a1 a2 a3 a4
   obtain ⟨r,hr⟩:∃ r:Nat,k.rep = (r:Int) + 1:=⟨(k.rep - 1).toNat,by omega⟩
   have hlt:∀ x ∈ l,x.rep < k.rep:=fun x hx=>by
     obtain ⟨i,hi,rfl⟩:=List.getElem_of_mem hx
     exact knsOk_last h (l.length - 1 - i) i hi (by omega)
   have hn:∀ j,r ≤ j → tabAt l j = []:=fun j hj=>tabAt_none (fun x hx=>by have:=hlt x hx;omega)
   have hr16:r < 16:=by omega
   unfold vsOf at ih ⊢
   rw [tabOf_in l k hr16 hr,hn r (Nat.le_refl _),List.nil_append]
   have hsp:tabOf l = (tabOf l).take r ++ ([] :: (tabOf l).drop (r + 1)):=by
     have hg:=tabOf_get l hr16
     rw [hn r (Nat.le_refl _)] at hg
     obtain ⟨hlen,hg⟩:=List.getElem?_eq_some_iff.1 hg
     conv=>lhs;rw [← List.take_append_drop r (tabOf l),List.drop_eq_getElem_cons hlen,hg]
   have hlen:((tabOf l).take r).length = r:=by rw [List.length_take,tabOf_len];omega
   have hnil:∀ x ∈ (tabOf l).drop (r + 1),x = []:=fun x hx=>by
     obtain ⟨i,hi,rfl⟩:=List.getElem_of_mem hx
     rw [List.getElem_drop]
     have hi':r + 1 + i < 16:=by rw [List.length_drop,tabOf_len] at hi;omega
     have:=tabOf_get l hi'
     obtain ⟨_,hg⟩:=List.getElem?_eq_some_iff.1 this
     rw [hg];exact hn _ (by omega)
   rw [hsp,setFrom_app,hlen] at ih
   rw [setFrom,setFrom_nils _ _ hnil] at ih
   rw [List.set_eq_take_append_cons_drop,if_pos (by rw [tabOf_len];exact hr16),setFrom_app,hlen,setFrom,setFrom_nils _ _ hnil,Nat.zero_add]
   rw [show (if (id ([]:List Rn)).length = 0 then ([]:List Kn) else [⟨((0 + r:Nat):Int) + 1,id []⟩]) = [] from rfl,List.append_nil,List.append_nil] at ih
   rw [ih,if_neg (by simpa using a3),List.append_nil]
   congr 1
   rw [show id k.runs = k.runs from rfl,← hr]
section
theorem vs_Of_ok (s:List Kn) (hs:knsTot s) (h:knsOk s):Fn Tryz.prog 175 [knsB s] (.own 149 2 (s.map knP)):=by
 have h1:=vs_Of id s hs (fun l hl=>by
   have hok:=tab_rnsOk h l hl
   obtain ⟨r,_,rfl⟩:=List.mem_map.1 hl
   exact cnt_Of_ok _ (by have:=tabAt_len s r;have:=hs.2;omega) hok)
 rw [vsOf_right s h] at h1
 exact h1
theorem vs_Same_ok (a b:List Kn) (ha:knsTot a) (hb:knsTot b) (h:knsOk a) (h':knsOk b):Fn Tryz.prog 159 [knsB a,knsB b] (boR (decide (a = b))):=
 vs_Same a b a b (vs_Of_ok a ha h) (vs_Of_ok b hb h') ha.sz
end
theorem cmpL_swap:∀ a b:List UInt8,cmpL b a = - cmpL a b:=by
 intro a
 induction a with
 | nil=>intro b;cases b <;> rfl
 | cons x a ih=>
   intro b
   cases b with
   | nil=>rfl
   | cons y b=>
     simp only [cmpL]
     by_cases h1:x.toNat < y.toNat
     · rw [if_neg (show ¬ y.toNat < x.toNat by omega),if_pos h1,if_pos h1];rfl
     · by_cases h2:y.toNat < x.toNat
       · rw [if_pos h2,if_neg h1,if_pos h2]
       · rw [if_neg h2,if_neg h1,if_neg h1,if_neg h2,ih]
theorem cmpB_swap (s t:ByteArray):cmpB t s = - cmpB s t:=cmpL_swap _ _
/-- not too long -/
def pcsSz (k:List Pc):Prop:=k.length ≤ 1000000000 ∧ ∀ p ∈ k,knsTot p.set
theorem pcsSz.at {k:List Pc} (h:pcsSz k) {i:Nat} (hi:i < k.length):knsTot k[i].set:=h.2 _ (List.getElem_mem hi)
def touchB (a b:Rg):Bool:=!a.op && decide (a.hi = b.lo)
section
theorem know_touch (a b:Rg):Fn Tryz.prog 158 [rgC a,rgC b] (boR (touchB a b)):=by
 obtain ⟨lo,hi,op⟩:=a
 obtain ⟨lo',hi',op'⟩:=b
 show Fn Tryz.prog _ [.per (aggP [rawP (.string lo),rawP (.string hi),rawP (.bool op)]),.per (aggP [rawP (.string lo'),rawP (.string hi'),rawP (.bool op')])] _
 cases op with
 | true=>
   refine fi Tryz.func158 Tryz.ntmps158 ?_
   (refine w0 ?_;(repeat' first|refine W2.mk ?_ ?_|refine W1.mk fun hc=>?_))
   refine rt1 ?_
   exact rv_bool rfl rfl
 | false=>
   refine fi Tryz.func158 Tryz.ntmps158 ?_
   (refine w0 ?_;(repeat' first|refine W2.mk ?_ ?_|refine W1.mk fun hc=>?_))
   refine rt1 ?_
   exact rv_bool rfl (by unfold touchB;rw [Bool.eq_iff_iff];simp [toL_inj'])
theorem know_Right (k:List Pc) (hk:pcsSz k) (b:Bool) (hb:b = true ↔ pcsOk k):Fn Tryz.prog 123 [pcsB k] (boR b):=by
 have hl0:=hk.1
 refine fi Tryz.func123 Tryz.ntmps123 ?_
 (refine w0 ?_;(repeat' first|refine W2.mk ?_ ?_|refine W1.mk fun hc=>?_))
 refine AW_loopP (X:=Nat) (fun z=>z ≤ k.length ∧ ∀ i,i < z → pcOk k i)
   (fun z=>mkSt [(0,pcsB k),(6,pcsB k),(7,iC .i64 (k.length:Nat)),(8,iC .i64 (z:Nat))] []) (fun z=>k.length - z) 0 ⟨Nat.zero_le _,fun i h=>absurd h (Nat.not_lt_zero _)⟩ ?_ ?_
 · exact le_auto
 · rintro z ⟨h1,h2⟩
   by_cases hz:z < k.length
   · have c1:=span_Right k[z].rg
     have c2:=vs_Right k[z].set (hk.at hz).sz (decide (knsOk k[z].set)) (by simp)
     have hE:k[z].set ≠ [] ↔ ¬ k[z].set.length = 0:=by simp
     have hno:¬ pcOk k z → b = false:=fun h=>by rw [← Bool.not_eq_true,hb];exact fun q=>h (q z hz)
     by_cases q1:rgR k[z].rg = true
     · rw [q1] at c1
       by_cases q2:k[z].set.length = 0
       · have hb0:=hno (fun h=>absurd q2 (hE.1 (h hz).2.1))
         subst hb0
         clear hb hno h2 hE q1
         (have kc1:=c1;have kc2:=c2;refine w0 ?_;(repeat' first|refine W2.mk ?_ ?_|refine W1.mk fun hc=>?_);all_goals clear kc2 kc1)
         refine rt1 ?_
         exact rv_bool rfl rfl
       · by_cases q3:knsOk k[z].set
         · rw [decide_eq_true q3] at c2
           by_cases h0:0 < z
           · obtain ⟨q,rfl⟩:∃ q,z = q + 1:=⟨z - 1,by omega⟩
             have hqE:((q + 1:Nat):Int) - 1 = (q:Nat):=by omega
             have hq:=(h2 q (by omega)) (by omega)
             have hrq:=(rgR_iff _).1 hq.1
             have c3:=key_Cmp k[q].rg.hi k[q + 1].rg.lo (by omega)
             have c4:=know_touch k[q].rg k[q + 1].rg
             have c5:=vs_Same_ok k[q].set k[q + 1].set (hk.at (by omega)) (hk.at hz) hq.2.2.1 q3
             have hiff:pcOk k (q + 1) ↔ k[q].rg.op = false ∧ cmpB k[q].rg.hi k[q + 1].rg.lo ≤ 0 ∧ ¬ (k[q].rg.hi = k[q + 1].rg.lo ∧ k[q].set = k[q + 1].set):=
               ⟨fun h=>(h hz).2.2.2 (by omega),fun h _=>⟨q1,hE.2 q2,q3,fun _=>h⟩⟩
             clear hq hrq
             have hE2:((k[q + 1].set.length:Nat):Int) ≠ 0:=by omega
             cases o:k[q].rg.op with
             | true=>
               have hb0:=hno (fun h=>by have:=(hiff.1 h).1;rw [o] at this;cases this)
               subst hb0
               clear hb hno h2 hE q1 q3 hiff
               (have ke1:=Lib.hid (hqE);have kc1:=c1;have kc2:=c2;have kc3:=c3;have kc4:=c4;have kc5:=c5;refine w0e ?_;(repeat' first|refine W2.mk ?_ ?_|refine W1.mk fun hc=>?_);all_goals clear kc5 kc4 kc3 kc2 kc1 ke1)
               all_goals first|(exfalso;simp_all;done)|skip
               refine rt1 ?_
               exact rv_bool rfl rfl
             | false=>
               by_cases g:cmpB k[q].rg.hi k[q + 1].rg.lo ≤ 0
               · by_cases e:k[q].rg.hi = k[q + 1].rg.lo
                 · have ht:touchB k[q].rg k[q + 1].rg = true:=by simp [touchB,o,e]
                   rw [ht] at c4
                   by_cases s:k[q].set = k[q + 1].set
                   · rw [decide_eq_true s] at c5
                     have hb0:=hno (fun h=>(hiff.1 h).2.2 ⟨e,s⟩)
                     subst hb0
                     clear hb hno h2 hE q1 q3 hiff s ht e
                     (have ke1:=Lib.hid (hqE);have kc1:=c1;have kc2:=c2;have kc3:=c3;have kc4:=c4;have kc5:=c5;refine w0e ?_;(repeat' first|refine W2.mk ?_ ?_|refine W1.mk fun hc=>?_);all_goals clear kc5 kc4 kc3 kc2 kc1 ke1)
                     all_goals first|(exfalso;simp_all;done)|skip
                     refine rt1 ?_
                     exact rv_bool rfl rfl
                   · rw [decide_eq_false s] at c5
                     have hok:=hiff.2 ⟨o,g,fun h=>s h.2⟩
                     clear hb hno hE q1 q3 hiff s ht e
                     (have ke1:=Lib.hid (hqE);have kc1:=c1;have kc2:=c2;have kc3:=c3;have kc4:=c4;have kc5:=c5;refine w0e ?_;(repeat' first|refine W2.mk ?_ ?_|refine W1.mk fun hc=>?_);all_goals clear kc5 kc4 kc3 kc2 kc1 ke1)
                     all_goals first|(exfalso;simp_all;done)|skip
                     refine ⟨q + 1 + 1,⟨by omega,up_step h2 hok⟩,by omega,?_⟩
                     exact le_auto
                 · have ht:touchB k[q].rg k[q + 1].rg = false:=by simp [touchB,o,e]
                   rw [ht] at c4
                   have hok:=hiff.2 ⟨o,g,fun h=>e h.1⟩
                   clear hb hno hE q1 q3 hiff ht e c5
                   (have ke1:=Lib.hid (hqE);have kc1:=c1;have kc2:=c2;have kc3:=c3;have kc4:=c4;refine w0e ?_;(repeat' first|refine W2.mk ?_ ?_|refine W1.mk fun hc=>?_);all_goals clear kc4 kc3 kc2 kc1 ke1)
                   all_goals first|(exfalso;simp_all;done)|skip
                   refine ⟨q + 1 + 1,⟨by omega,up_step h2 hok⟩,by omega,?_⟩
                   exact le_auto
               · have hb0:=hno (fun h=>g (hiff.1 h).2.1)
                 subst hb0
                 clear hb hno h2 hE q1 q3 hiff
                 (have ke1:=Lib.hid (hqE);have kc1:=c1;have kc2:=c2;have kc3:=c3;have kc4:=c4;have kc5:=c5;refine w0e ?_;(repeat' first|refine W2.mk ?_ ?_|refine W1.mk fun hc=>?_);all_goals clear kc5 kc4 kc3 kc2 kc1 ke1)
                 all_goals first|(exfalso;simp_all;done)|skip
                 refine rt1 ?_
                 exact rv_bool rfl rfl
           · have hok:pcOk k z:=fun _=>⟨q1,hE.2 q2,q3,fun h=>absurd h h0⟩
             obtain rfl:z = 0:=by omega
             clear hb hno hE q1 q3
             (have kc1:=c1;have kc2:=c2;refine w0 ?_;(repeat' first|refine W2.mk ?_ ?_|refine W1.mk fun hc=>?_);all_goals clear kc2 kc1)
             refine ⟨0 + 1,⟨by omega,up_step h2 hok⟩,by omega,?_⟩
             exact le_auto
         · rw [decide_eq_false q3] at c2
           have hb0:=hno (fun h=>q3 (h hz).2.2.1)
           subst hb0
           clear hb hno h2 hE q1 q3
           (have kc1:=c1;have kc2:=c2;refine w0 ?_;(repeat' first|refine W2.mk ?_ ?_|refine W1.mk fun hc=>?_);all_goals clear kc2 kc1)
           refine rt1 ?_
           exact rv_bool rfl rfl
     · rw [Bool.not_eq_true] at q1
       rw [q1] at c1
       have hb0:=hno (fun h=>by have:=(h hz).1;rw [q1] at this;cases this)
       subst hb0
       clear hb hno h2 hE q1
       (have kc1:=c1;have kc2:=c2;refine w0 ?_;(repeat' first|refine W2.mk ?_ ?_|refine W1.mk fun hc=>?_);all_goals clear kc2 kc1)
       refine rt1 ?_
       exact rv_bool rfl rfl
   · have hb1:b = true:=hb.2 (fun i hi=>h2 i (by omega))
     subst hb1
     clear hb h2
     (refine w0 ?_;(repeat' first|refine W2.mk ?_ ?_|refine W1.mk fun hc=>?_))
     refine rt1 ?_
     exact rv_bool rfl rfl
end
section
variable {P:Program} {n:Nat} {ops:Array Oper} {o:Oper} {S:St} {t:Nat}
theorem take_cells {cs:List PV} {k:Nat} {N:BP} {w:World} {f:Nat → Option Value} (h:∀ (j:Nat) (A:PV),cs[j]? = some A → ∃ y,f j = some y ∧ y.oneCell' = true ∧ A.p N w y) :
   ∀ (j:Nat) (A:PV),(cs.take k)[j]? = some A → ∃ y,f j = some y ∧ y.oneCell' = true ∧ A.p N w y:=fun j A hj=>by
 rw [List.getElem?_take] at hj
 split at hj
 · exact h j A hj
 · cases hj
theorem u_load_bpT {ty:TypeId} {x:Operand} {cs As:List PV} {k:Nat} (hp:Pl n o t) (ho:o.op = .load ty x) (hT:AggC P ty true) (hk:Siz P ty k) (h0:Nat.blt 0 k = true) (hx:S.opd x = .bpt cs) (hl:Nat.ble k cs.length = true) (hc:cs.take k = As) :
   OpOk n P ops o (opdN x) (.per (aggP As)) [] S:=
 op_val hp fun C T g a w hAg hR=>by
   obtain ⟨d,hT,hd⟩:=hT.h
   have h:=opd_rep (x:=x) hAg (fun k h=>h) hR
   rw [hx] at h
   obtain ⟨b,of,hv,hb,hn,hcs⟩:=h
   obtain ⟨vs,g1,g2,g3⟩:=list_of_cells (cs.take k) (take_cells hcs)
   subst hc
   have hkl:=Nat.le_of_ble_eq_true hl
   have h0:=Nat.le_of_ble_eq_true h0
   have hlen:(cs.take k).length = k:=by rw [List.length_take];omega
   refine ⟨.agg vs.toArray,?_,⟨vs.toArray,rfl,g3⟩⟩
   simp only [execOp,ho,hv,Sem.run_bind,loadAt_agg hT hd (by rw [hk.h,g1,hlen]) (by omega) g2];rfl
theorem u_load_rpT {ty:TypeId} {x:Operand} {cs As:List PV} {k:Nat} (hp:Pl n o t) (ho:o.op = .load ty x) (hT:AggC P ty true) (hk:Siz P ty k) (h0:Nat.blt 0 k = true) (hx:S.opd x = .per (rptrP cs)) (hl:Nat.ble k cs.length = true) (hc:cs.take k = As) :
   OpOk n P ops o (opdN x) (.per (aggP As)) [] S:=
 op_val hp fun C T g a w hAg hR=>by
   obtain ⟨d,hT,hd⟩:=hT.h
   have h:=opd_rep (x:=x) hAg (fun k h=>h) hR
   rw [hx] at h
   obtain ⟨b,of,hv,hb,hn,hcs⟩:=h
   obtain ⟨vs,g1,g2,g3⟩:=list_of_cells (cs.take k) (take_cells hcs)
   subst hc
   have hkl:=Nat.le_of_ble_eq_true hl
   have h0:=Nat.le_of_ble_eq_true h0
   have hlen:(cs.take k).length = k:=by rw [List.length_take];omega
   refine ⟨.agg vs.toArray,?_,⟨vs.toArray,rfl,g3⟩⟩
   simp only [execOp,ho,hv,Sem.run_bind,loadAt_agg hT hd (by rw [hk.h,g1,hlen]) (by omega) g2];rfl
end
/-- a new row that a method hands back, as one that stays as it is -/
theorem FnM.frz3 {P:Program} {f:FuncId} {As:List Cnt} {pre:List (Nat × Blk)} {B:Blk} {e k:Nat} {es:List (List PV)} (h:FnM P f As pre (.row 3000 0) [(1000,B),(3000,.row e k es)]) :
   FnM P f As pre (.per (lstP k es)) [(1000,B)]:=by
 refine ⟨h.ent,fun C w vs hw hN hd hl ha hp=>(h.run C w vs hw hN hd hl ha hp).mono ?_⟩
 rintro ex w' ⟨v,g',he,hF,hv,hB⟩
 subst hw
 let g'':Gh:=⟨fun b=>if g'.ow b = some 3000 then none else g'.ow b,g'.ph,g'.rh⟩
 have hg:∀ b,g''.ow b = if g'.ow b = some 3000 then none else g'.ow b:=fun _=>rfl
 have hst:Stp C (fun i=>i = 3000) z0 z0 g' g'' w' w':=by
   refine ⟨Nat.le_refl _,fun _ _ _=>rfl,fun b _ hn=>by rw [hg,if_neg (hn 3000 rfl)],fun b _ hn=>?_,fun b i e=>?_,fun _=>.inl rfl,fun _ _=>⟨rfl,rfl⟩,fun _ _=>⟨rfl,rfl⟩,rfl,rfl,rfl⟩
   · rw [hg] at hn
     by_cases q:g'.ow b = some 3000
     · rw [q];simp
     · rwa [if_neg q] at hn
   · rw [hg] at e
     by_cases q:g'.ow b = some 3000
     · rw [if_pos q] at e;cases e
     · rw [if_neg q] at e;exact hF.dom b i e
 refine ⟨v,g'',he,⟨hF.os,hF.tape,hF.output,hF.size,hF.old,fun b id e=>hst.dom b id e,hF.keep⟩,?_,fun id=>?_⟩
 · have hrow:=hB 3000
   have hval:v = g'.rh 3000:=hv.2 rfl
   rw [hval]
   show lstAt (g''.N C) (g''.N C) k es w' (g'.rh 3000)
   rcases (show brep C z0 g' w' 3000 (.row e k es) from hrow) with ⟨q1,rfl⟩|⟨cap,cs,q1,q2,q3,q4,q5,q6,q7⟩
   · exact ⟨none,0,0,0,by rw [q1];rfl,by simp,by decide,fun _=>rfl,by simp,fun i cs hi=>by simp at hi⟩
   · have hdm:=hF.dom _ _ q3
     refine ⟨_,cap,g'.ph 3000,0,q1,q4,q5,by simp,fun _=>⟨rfl,hdm.1,fun hn=>?_⟩,fun i ps hi=>?_⟩
     · rcases hn with hn|hn
       · have h1:=hN _ hn
         rcases hdm.2 with q|q
         · omega
         · exact h1.2 q
       · rw [hg,if_pos q3] at hn;exact hn rfl
     · obtain ⟨r1,r2⟩:=q7 i ps hi
       refine ⟨r1,fun j A hj=>?_⟩
       obtain ⟨y,s1,s2,s3⟩:=r2 j A hj
       exact ⟨y,by rw [Nat.zero_add,cell_at q2];exact s1,s2,A.mono (Nat.le_refl _) (fun _ _ _=>rfl) hst.n s3⟩
 · have hid:=hB id
   unfold lookB
   cases hb:Nat.beq id 1000 with
   | false=>trivial
   | true=>
     obtain rfl:=nbeq_true.1 hb
     exact hst.brep (fun b i e=>(hF.dom b i e).1) (fun h=>by cases h) (show brep C z0 g' w' 1000 B from hid)
section
theorem rknow_Right (k:List Pc) (hk:pcsSz k) (b:Bool) (hb:b = true ↔ pcsOk k):Fn Tryz.prog 45 [pcsB k] (boR b):=by
 have hl0:=hk.1
 refine fi Tryz.func45 Tryz.ntmps45 ?_
 (refine w0 ?_;(repeat' first|refine W2.mk ?_ ?_|refine W1.mk fun hc=>?_))
 refine AW_loopP (X:=Nat) (fun z=>z ≤ k.length ∧ ∀ i,i < z → pcOk k i)
   (fun z=>mkSt [(0,pcsB k),(3,iC .i64 (z:Nat))] []) (fun z=>k.length - z) 0 ⟨Nat.zero_le _,fun i h=>absurd h (Nat.not_lt_zero _)⟩ ?_ ?_
 · exact le_auto
 · rintro z ⟨h1,h2⟩
   by_cases hz:z < k.length
   · have c1:=rspan_Right k[z].rg
     have c2:=rvs_Right k[z].set (hk.at hz).sz (decide (knsOk k[z].set)) (by simp)
     have hE:k[z].set ≠ [] ↔ ¬ k[z].set.length = 0:=by simp
     have hno:¬ pcOk k z → b = false:=fun h=>by rw [← Bool.not_eq_true,hb];exact fun q=>h (q z hz)
     by_cases q1:rgR k[z].rg = true
     · rw [q1] at c1
       by_cases q2:k[z].set.length = 0
       · have hb0:=hno (fun h=>absurd q2 (hE.1 (h hz).2.1))
         subst hb0
         clear hb hno h2 hE q1
         (have kc1:=c1;have kc2:=c2;refine w0 ?_;(repeat' (first|refine W2.mk ?_ ?_|refine W1.mk fun hc=>?_|((first|apply AL_t rfl|apply AL_0 rfl|apply AD_t rfl|apply AD_0 rfl);(focus (first|((apply u_k 5;(focus rfl);first|exact u_load_bpT ⟨rfl,rfl,rfl⟩ rfl inferInstance inferInstance rfl rfl rfl rfl|exact u_load_rpT ⟨rfl,rfl,rfl⟩ rfl inferInstance inferInstance rfl rfl rfl rfl))|(apply u_g;(focus rfl);apply op_gyes rfl rfl rfl rfl rfl;first|((apply u_k 5;(focus rfl);first|exact u_load_bpT ⟨rfl,rfl,rfl⟩ rfl inferInstance inferInstance rfl rfl rfl rfl|exact u_load_rpT ⟨rfl,rfl,rfl⟩ rfl inferInstance inferInstance rfl rfl rfl rfl)))));refine w0 ?_)));all_goals clear kc2 kc1)
         refine rt1 ?_
         exact rv_bool rfl rfl
       · by_cases q3:knsOk k[z].set
         · rw [decide_eq_true q3] at c2
           by_cases h0:0 < z
           · obtain ⟨q,rfl⟩:∃ q,z = q + 1:=⟨z - 1,by omega⟩
             have hqE:((q + 1:Nat):Int) - 1 = (q:Nat):=by omega
             have hq:=(h2 q (by omega)) (by omega)
             have hrq:=(rgR_iff _).1 q1
             have c3:=ref_Less k[q + 1].rg.lo k[q].rg.hi (by omega)
             have hsw:=cmpB_swap k[q].rg.hi k[q + 1].rg.lo
             have c5:=rvs_Same k[q].set k[q + 1].set (hk.at (by omega)).sz
             have hiff:pcOk k (q + 1) ↔ k[q].rg.op = false ∧ cmpB k[q].rg.hi k[q + 1].rg.lo ≤ 0 ∧ ¬ (k[q].rg.hi = k[q + 1].rg.lo ∧ k[q].set = k[q + 1].set):=
               ⟨fun h=>(h hz).2.2.2 (by omega),fun h _=>⟨q1,hE.2 q2,q3,fun _=>h⟩⟩
             clear hq hrq
             have hE2:((k[q + 1].set.length:Nat):Int) ≠ 0:=by omega
             cases o:k[q].rg.op with
             | true=>
               have hb0:=hno (fun h=>by have:=(hiff.1 h).1;rw [o] at this;cases this)
               subst hb0
               clear hb hno h2 hE q1 q3 hiff hsw
               (have ke1:=Lib.hid (hqE);have kc1:=c1;have kc2:=c2;have kc3:=c3;have kc4:=c5;refine w0e ?_;(repeat' (first|refine W2.mk ?_ ?_|refine W1.mk fun hc=>?_|((first|apply AL_t rfl|apply AL_0 rfl|apply AD_t rfl|apply AD_0 rfl);(focus (first|((apply u_k 5;(focus rfl);first|exact u_load_bpT ⟨rfl,rfl,rfl⟩ rfl inferInstance inferInstance rfl rfl rfl rfl|exact u_load_rpT ⟨rfl,rfl,rfl⟩ rfl inferInstance inferInstance rfl rfl rfl rfl))|(apply u_g;(focus rfl);apply op_gyes rfl rfl rfl rfl rfl;first|((apply u_k 5;(focus rfl);first|exact u_load_bpT ⟨rfl,rfl,rfl⟩ rfl inferInstance inferInstance rfl rfl rfl rfl|exact u_load_rpT ⟨rfl,rfl,rfl⟩ rfl inferInstance inferInstance rfl rfl rfl rfl)))));refine w0e ?_)));all_goals clear kc4 kc3 kc2 kc1 ke1)
               all_goals first|(exfalso;simp_all;done)|skip
               refine rt1 ?_
               exact rv_bool rfl rfl
             | false=>
               by_cases g:cmpB k[q].rg.hi k[q + 1].rg.lo ≤ 0
               · rw [decide_eq_false (by omega)] at c3
                 by_cases e:k[q].rg.hi = k[q + 1].rg.lo
                 · by_cases s:k[q].set = k[q + 1].set
                   · rw [decide_eq_true s] at c5
                     have hb0:=hno (fun h=>(hiff.1 h).2.2 ⟨e,s⟩)
                     subst hb0
                     clear hb hno h2 hE q1 q3 hiff s hsw
                     (have ke1:=Lib.hid (hqE);have kc1:=c1;have kc2:=c2;have kc3:=c3;have kc4:=c5;refine w0e ?_;(repeat' (first|refine W2.mk ?_ ?_|refine W1.mk fun hc=>?_|((first|apply AL_t rfl|apply AL_0 rfl|apply AD_t rfl|apply AD_0 rfl);(focus (first|((apply u_k 5;(focus rfl);first|exact u_load_bpT ⟨rfl,rfl,rfl⟩ rfl inferInstance inferInstance rfl rfl rfl rfl|exact u_load_rpT ⟨rfl,rfl,rfl⟩ rfl inferInstance inferInstance rfl rfl rfl rfl))|(apply u_g;(focus rfl);apply op_gyes rfl rfl rfl rfl rfl;first|((apply u_k 5;(focus rfl);first|exact u_load_bpT ⟨rfl,rfl,rfl⟩ rfl inferInstance inferInstance rfl rfl rfl rfl|exact u_load_rpT ⟨rfl,rfl,rfl⟩ rfl inferInstance inferInstance rfl rfl rfl rfl)))));refine w0e ?_)));all_goals clear kc4 kc3 kc2 kc1 ke1)
                     all_goals first|(exfalso;simp_all;done)|skip
                     refine rt1 ?_
                     exact rv_bool rfl rfl
                   · rw [decide_eq_false s] at c5
                     have hok:=hiff.2 ⟨o,g,fun h=>s h.2⟩
                     clear hb hno hE q1 q3 hiff s hsw
                     (have ke1:=Lib.hid (hqE);have kc1:=c1;have kc2:=c2;have kc3:=c3;have kc4:=c5;refine w0e ?_;(repeat' (first|refine W2.mk ?_ ?_|refine W1.mk fun hc=>?_|((first|apply AL_t rfl|apply AL_0 rfl|apply AD_t rfl|apply AD_0 rfl);(focus (first|((apply u_k 5;(focus rfl);first|exact u_load_bpT ⟨rfl,rfl,rfl⟩ rfl inferInstance inferInstance rfl rfl rfl rfl|exact u_load_rpT ⟨rfl,rfl,rfl⟩ rfl inferInstance inferInstance rfl rfl rfl rfl))|(apply u_g;(focus rfl);apply op_gyes rfl rfl rfl rfl rfl;first|((apply u_k 5;(focus rfl);first|exact u_load_bpT ⟨rfl,rfl,rfl⟩ rfl inferInstance inferInstance rfl rfl rfl rfl|exact u_load_rpT ⟨rfl,rfl,rfl⟩ rfl inferInstance inferInstance rfl rfl rfl rfl)))));refine w0e ?_)));all_goals clear kc4 kc3 kc2 kc1 ke1)
                     all_goals first|(exfalso;simp_all;done)|skip
                     refine ⟨q + 1 + 1,⟨by omega,up_step h2 hok⟩,by omega,?_⟩
                     exact le_auto
                 · have hok:=hiff.2 ⟨o,g,fun h=>e h.1⟩
                   rw [← toL_inj'] at e
                   clear hb hno hE q1 q3 hiff c5 hsw
                   (have ke1:=Lib.hid (hqE);have kc1:=c1;have kc2:=c2;have kc3:=c3;refine w0e ?_;(repeat' (first|refine W2.mk ?_ ?_|refine W1.mk fun hc=>?_|((first|apply AL_t rfl|apply AL_0 rfl|apply AD_t rfl|apply AD_0 rfl);(focus (first|((apply u_k 5;(focus rfl);first|exact u_load_bpT ⟨rfl,rfl,rfl⟩ rfl inferInstance inferInstance rfl rfl rfl rfl|exact u_load_rpT ⟨rfl,rfl,rfl⟩ rfl inferInstance inferInstance rfl rfl rfl rfl))|(apply u_g;(focus rfl);apply op_gyes rfl rfl rfl rfl rfl;first|((apply u_k 5;(focus rfl);first|exact u_load_bpT ⟨rfl,rfl,rfl⟩ rfl inferInstance inferInstance rfl rfl rfl rfl|exact u_load_rpT ⟨rfl,rfl,rfl⟩ rfl inferInstance inferInstance rfl rfl rfl rfl)))));refine w0e ?_)));all_goals clear kc3 kc2 kc1 ke1)
                   all_goals first|(exfalso;simp_all;done)|skip
                   refine ⟨q + 1 + 1,⟨by omega,up_step h2 hok⟩,by omega,?_⟩
                   exact le_auto
               · have hb0:=hno (fun h=>g (hiff.1 h).2.1)
                 rw [decide_eq_true (by omega)] at c3
                 subst hb0
                 clear hb hno h2 hE q1 q3 hiff hsw
                 (have ke1:=Lib.hid (hqE);have kc1:=c1;have kc2:=c2;have kc3:=c3;have kc4:=c5;refine w0e ?_;(repeat' (first|refine W2.mk ?_ ?_|refine W1.mk fun hc=>?_|((first|apply AL_t rfl|apply AL_0 rfl|apply AD_t rfl|apply AD_0 rfl);(focus (first|((apply u_k 5;(focus rfl);first|exact u_load_bpT ⟨rfl,rfl,rfl⟩ rfl inferInstance inferInstance rfl rfl rfl rfl|exact u_load_rpT ⟨rfl,rfl,rfl⟩ rfl inferInstance inferInstance rfl rfl rfl rfl))|(apply u_g;(focus rfl);apply op_gyes rfl rfl rfl rfl rfl;first|((apply u_k 5;(focus rfl);first|exact u_load_bpT ⟨rfl,rfl,rfl⟩ rfl inferInstance inferInstance rfl rfl rfl rfl|exact u_load_rpT ⟨rfl,rfl,rfl⟩ rfl inferInstance inferInstance rfl rfl rfl rfl)))));refine w0e ?_)));all_goals clear kc4 kc3 kc2 kc1 ke1)
                 all_goals first|(exfalso;simp_all;done)|skip
                 refine rt1 ?_
                 exact rv_bool rfl rfl
           · have hok:pcOk k z:=fun _=>⟨q1,hE.2 q2,q3,fun h=>absurd h h0⟩
             obtain rfl:z = 0:=by omega
             clear hb hno hE q1 q3
             (have kc1:=c1;have kc2:=c2;refine w0 ?_;(repeat' (first|refine W2.mk ?_ ?_|refine W1.mk fun hc=>?_|((first|apply AL_t rfl|apply AL_0 rfl|apply AD_t rfl|apply AD_0 rfl);(focus (first|((apply u_k 5;(focus rfl);first|exact u_load_bpT ⟨rfl,rfl,rfl⟩ rfl inferInstance inferInstance rfl rfl rfl rfl|exact u_load_rpT ⟨rfl,rfl,rfl⟩ rfl inferInstance inferInstance rfl rfl rfl rfl))|(apply u_g;(focus rfl);apply op_gyes rfl rfl rfl rfl rfl;first|((apply u_k 5;(focus rfl);first|exact u_load_bpT ⟨rfl,rfl,rfl⟩ rfl inferInstance inferInstance rfl rfl rfl rfl|exact u_load_rpT ⟨rfl,rfl,rfl⟩ rfl inferInstance inferInstance rfl rfl rfl rfl)))));refine w0 ?_)));all_goals clear kc2 kc1)
             refine ⟨0 + 1,⟨by omega,up_step h2 hok⟩,by omega,?_⟩
             exact le_auto
         · rw [decide_eq_false q3] at c2
           have hb0:=hno (fun h=>q3 (h hz).2.2.1)
           subst hb0
           clear hb hno h2 hE q1 q3
           (have kc1:=c1;have kc2:=c2;refine w0 ?_;(repeat' (first|refine W2.mk ?_ ?_|refine W1.mk fun hc=>?_|((first|apply AL_t rfl|apply AL_0 rfl|apply AD_t rfl|apply AD_0 rfl);(focus (first|((apply u_k 5;(focus rfl);first|exact u_load_bpT ⟨rfl,rfl,rfl⟩ rfl inferInstance inferInstance rfl rfl rfl rfl|exact u_load_rpT ⟨rfl,rfl,rfl⟩ rfl inferInstance inferInstance rfl rfl rfl rfl))|(apply u_g;(focus rfl);apply op_gyes rfl rfl rfl rfl rfl;first|((apply u_k 5;(focus rfl);first|exact u_load_bpT ⟨rfl,rfl,rfl⟩ rfl inferInstance inferInstance rfl rfl rfl rfl|exact u_load_rpT ⟨rfl,rfl,rfl⟩ rfl inferInstance inferInstance rfl rfl rfl rfl)))));refine w0 ?_)));all_goals clear kc2 kc1)
           refine rt1 ?_
           exact rv_bool rfl rfl
     · rw [Bool.not_eq_true] at q1
       rw [q1] at c1
       have hb0:=hno (fun h=>by have:=(h hz).1;rw [q1] at this;cases this)
       subst hb0
       clear hb hno h2 hE q1
       (have kc1:=c1;have kc2:=c2;refine w0 ?_;(repeat' (first|refine W2.mk ?_ ?_|refine W1.mk fun hc=>?_|((first|apply AL_t rfl|apply AL_0 rfl|apply AD_t rfl|apply AD_0 rfl);(focus (first|((apply u_k 5;(focus rfl);first|exact u_load_bpT ⟨rfl,rfl,rfl⟩ rfl inferInstance inferInstance rfl rfl rfl rfl|exact u_load_rpT ⟨rfl,rfl,rfl⟩ rfl inferInstance inferInstance rfl rfl rfl rfl))|(apply u_g;(focus rfl);apply op_gyes rfl rfl rfl rfl rfl;first|((apply u_k 5;(focus rfl);first|exact u_load_bpT ⟨rfl,rfl,rfl⟩ rfl inferInstance inferInstance rfl rfl rfl rfl|exact u_load_rpT ⟨rfl,rfl,rfl⟩ rfl inferInstance inferInstance rfl rfl rfl rfl)))));refine w0 ?_)));all_goals clear kc2 kc1)
       refine rt1 ?_
       exact rv_bool rfl rfl
   · have hb1:b = true:=hb.2 (fun i hi=>h2 i (by omega))
     subst hb1
     clear hb h2
     (refine w0 ?_;(repeat' first|refine W2.mk ?_ ?_|refine W1.mk fun hc=>?_))
     refine rt1 ?_
     exact rv_bool rfl rfl
def pcLg (p:Pc):Bool:=decide (p.rg.lo.size > 40) || decide (p.rg.hi.size > 40) || longKns p.set 16
def longPcs (l:List Pc) (most:Int):Bool:=decide ((l.length:Int) > most) || l.any pcLg
theorem rknow_Long (l:List Pc) (most:Int) (hl:most ≤ 1000000000000):Fn Tryz.prog 16 [pcsB l,iC .i64 most] (boR (longPcs l most)):=by
 refine fi Tryz.func16 Tryz.ntmps16 ?_
 (refine w0 ?_;(repeat' first|refine W2.mk ?_ ?_|refine W1.mk fun hc=>?_))
 · refine rt1 ?_
   exact rv_bool rfl (by unfold longPcs;rw [decide_eq_true hc];rfl)
 refine AW_loopP (fun k=>k ≤ l.length ∧ (l.take k).any pcLg = false) (fun k=>mkSt [(0,pcsB l),(1,iC .i64 most),(4,bC false),(5,iC .i64 (k:Nat))] []) (fun k=>l.length - k) 0 ⟨Nat.zero_le _,by simp⟩ ?_ ?_
 · exact le_auto
 · rintro k ⟨hk,hpre⟩
   by_cases hlt:k < l.length
   · have hsn:(l.take (k + 1)).any pcLg = ((l.take k).any pcLg || pcLg l[k]):=by rw [take_snoc' l k hlt,List.any_append];simp
     have hyes:pcLg l[k] = true → longPcs l most = true:=fun hq=>by unfold longPcs;rw [Bool.or_eq_true,List.any_eq_true];exact .inr ⟨l[k],List.getElem_mem hlt,hq⟩
     have c1:=rvs_Long l[k].set 16 (by decide)
     by_cases q1:l[k].rg.lo.size > 40
     · have hd:=hyes (by simp [pcLg,q1])
       rw [hd]
       clear hd hsn hpre hyes
       (have kc1:=c1;refine w0 ?_;(repeat' first|refine W2.mk ?_ ?_|refine W1.mk fun hc=>?_);all_goals clear kc1)
       refine rt1 ?_
       exact rv_bool rfl rfl
     · by_cases q2:l[k].rg.hi.size > 40
       · have hd:=hyes (by simp [pcLg,q2])
         rw [hd]
         clear hd hsn hpre hyes
         (have kc1:=c1;refine w0 ?_;(repeat' first|refine W2.mk ?_ ?_|refine W1.mk fun hc=>?_);all_goals clear kc1)
         refine rt1 ?_
         exact rv_bool rfl rfl
       · cases q3:longKns l[k].set 16 with
         | true=>
           have hd:=hyes (by simp [pcLg,q3])
           rw [hd]
           rw [q3] at c1
           clear hd hsn hpre hyes
           (have kc1:=c1;refine w0 ?_;(repeat' first|refine W2.mk ?_ ?_|refine W1.mk fun hc=>?_);all_goals clear kc1)
           refine rt1 ?_
           exact rv_bool rfl rfl
         | false=>
           have hf:pcLg l[k] = false:=by simp [pcLg,q1,q2,q3]
           rw [hpre,hf] at hsn
           rw [q3] at c1
           clear hpre hyes hf
           (have kc1:=c1;refine w0 ?_;(repeat' first|refine W2.mk ?_ ?_|refine W1.mk fun hc=>?_);all_goals clear kc1)
           refine ⟨k + 1,⟨by omega,hsn⟩,by omega,?_⟩
           exact le_auto
   · have e:l.take k = l:=List.take_of_length_le (by omega)
     rw [e] at hpre
     have hd:longPcs l most = false:=by unfold longPcs;rw [hpre,Bool.or_false,decide_eq_false_iff_not];assumption
     rw [hd]
     clear hd hpre e
     (refine w0 ?_;(repeat' first|refine W2.mk ?_ ?_|refine W1.mk fun hc=>?_))
     refine rt1 ?_
     exact rv_bool rfl rfl
theorem longPcs_sz {l:List Pc} {most:Int} (h:longPcs l most = false):(l.length:Int) ≤ most ∧ ∀ p ∈ l,p.rg.lo.size ≤ 40 ∧ p.rg.hi.size ≤ 40 ∧ longKns p.set 16 = false:=by
 unfold longPcs at h
 rw [Bool.or_eq_false_iff,decide_eq_false_iff_not] at h
 refine ⟨by omega,fun p hp=>?_⟩
 have:=List.any_eq_false.1 h.2 p hp
 simp [pcLg] at this
 exact ⟨by omega,by omega,this.2⟩
end
theorem runsB_len:∀ (l:List Rn) (was:Int),0 ≤ was → (∀ r ∈ l,rnR r = true) → (runsB was l).length ≤ 20 * l.length:=by
 intro l
 induction l with
 | nil=>intro was _ _;simp [runsB]
 | cons x l ih=>
   intro was h0 h
   have hx:=(rnR_iff x).1 (h x List.mem_cons_self)
   have h1:=numI_len (x.fr - was) (by omega)
   have h2:=numI_len (x.to - x.fr) (by omega)
   have h3:=ih x.to (by omega) (fun r hr=>h r (List.mem_cons_of_mem _ hr))
   rw [runsB,List.length_append,List.length_append,List.length_cons]
   omega
theorem knB_len {k:Kn} (h1:1 ≤ k.rep) (h2:k.rep ≤ 16) (h3:rnsOk k.runs) (hf:k.runs.length ≤ 4096):(knB k).length ≤ 90000:=by
 have q1:=numI_len k.rep (by omega)
 have q2:=numI_len (k.runs.length:Int) (by omega)
 have q3:=runsB_len k.runs 0 (by omega) (fun r hr=>by
   obtain ⟨i,hi,rfl⟩:=List.getElem_of_mem hr
   exact (h3 i hi hi).1)
 unfold knB
 rw [List.length_append,List.length_append];omega
theorem flat_lenC {α:Type} {B:α → List UInt8} (c:Nat):∀ l:List α,(∀ x ∈ l,(B x).length ≤ c) → (l.flatMap B).length ≤ c * l.length:=by
 intro l
 induction l with
 | nil=>intro _;simp
 | cons x l ih=>
   intro h
   have h1:=h x List.mem_cons_self
   have h2:=ih (fun y hy=>h y (List.mem_cons_of_mem _ hy))
   rw [List.flatMap_cons,List.length_append,List.length_cons,Nat.mul_add];omega
theorem setB_len {s:List Kn} (h:knsOk s) (hf:fewS s):(setB s).length ≤ 1500000:=by
 have h1:=flat_lenC (B:=knB) 90000 s (fun k hk=>by
   have hfk:=hf k hk
   obtain ⟨i,hi,rfl⟩:=List.getElem_of_mem hk
   obtain ⟨a,b,_,d⟩:=knsOk_get h hi
   exact knB_len a b d hfk)
 have h2:=knsOk_len h
 have h3:=numI_len (s.length:Int) (by omega)
 unfold setB
 rw [List.length_append];omega
section
end
end Go.Proofs.YthlffkjpklpkfaaGreat
