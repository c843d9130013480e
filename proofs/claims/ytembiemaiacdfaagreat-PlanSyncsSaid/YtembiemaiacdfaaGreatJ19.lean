/- Texts joined: KnO AbsZ Kw2. -/
import Derived.Test.YtembiemaiacdfaaGreatJ18
import Derived.Test.YtembiemaiacdfaaGreatJ05
import Derived.Test.YtembiemaiacdfaaGreatJ07
import Derived.Test.YtembiemaiacdfaaGreatJ17
set_option maxRecDepth 10000
set_option maxHeartbeats 8000000
namespace Go.Proofs.YtembiemaiacdfaaGreat
open Go.RowKit
theorem y6 {M:Nat}:∀ (T:List (List Rn)) (i:Nat),(∀ l ∈ T,l.length ≤ M) → (aX ofR i T).length ≤ T.length ∧ ((aX ofR i T).flatMap Kn.runs).length ≤ T.length * M:=by
 intro T
 induction T with
 | nil=>intro i _;simp [aX]
 | cons l T ih=>
   intro i h
   have h1:=ih (i + 1) (fun x hx=>h x (List.mem_cons_of_mem _ hx))
   have h2:=h l (by simp)
   have h3:=tP l
   rw [aX,List.flatMap_append,List.length_append,List.length_append,List.length_cons,Nat.add_mul,Nat.one_mul]
   split
   · simp only [List.length_nil,List.flatMap_nil];omega
   · simp only [List.length_cons,List.length_nil,List.flatMap_cons,List.flatMap_nil,List.append_nil];omega
theorem pt {X:List Kn} {M:Nat} (h:(X.flatMap Kn.runs).length ≤ M):(em ofR X).length ≤ 16 ∧ ((em ofR X).flatMap Kn.runs).length ≤ 16 * M:=by
 have:=y6 (M:=M) (bj X) 0 (fun l hl=>by
   obtain ⟨r,_,rfl⟩:=List.mem_map.1 hl
   have:=dM X r
   omega)
 rw [aY] at this
 exact this
theorem uc {k:List Pc} (hk:b0 k) (s:ByteArray):(fh k s).length ≤ 16 ∧ ((fh k s).flatMap Kn.runs).length ≤ 16000000:=by
 have h1:=eH Kn.runs (qw (qx s) k)
 have:=pt (X:=k.flatMap (gH s)) (M:=1000000) (by have:=hk.2.2;omega)
 exact this
theorem nf {k:List Pc} (hk:b0 k) (s:ByteArray):oe (fh k s):=by
 have:=uc hk s
 exact ⟨by omega,by omega⟩
theorem sA (a b:List Kn):bK (kV a b):=(qu _ 0 (by unfold lO;rw [List.length_zipWith,aY,aY];decide)).1
def ud (a b:List Pc):List Pc:=kB (fun s=>kV (fh a s) (fh b s)) (fN (a ++ b))
theorem AI {k:List Pc} {m:ByteArray} (h:m ∈ fN k):m.size ≤ 1000000000:=by
 have:=pn k m h;omega
theorem qy (k:List Pc):(fN k).length ≤ 1 + 2 * k.length:=by
 have:=jC (bB k) [emB]
 unfold fN
 unfold bB at *
 simp only [List.length_cons,List.length_nil,List.length_map,Nat.zero_add] at this
 exact this
section
theorem FH (k:List Pc) (hk:aO k) (hm:eV k):Fn Tryz.prog 177 [bS k] (k5 k):=by
 have hl:=hm.1
 refine fi Tryz.func177 Tryz.ntmps177 ?_
 (refine w0 ?_;(repeat' first|refine W2.mk ?_ ?_|refine W1.mk fun hc=>?_))
 refine ck (bz 3 700 110 4 rfl rfl) ?_
 refine ah (X:=Nat) (fun z=>z ≤ k.length)
   (fun z=>aN [(3,.row 700 0),(6,bS k),(7,iC .i64 (k.length:Nat)),(8,iC .i64 ((z:Nat):Int))] [(700,I6 (k.take z))]) (fun z=>k.length - z) 0 (Nat.zero_le _) ?_ ?_
 · exact ab
 · intro z hz
   by_cases hlt:z < k.length
   · have hset:=(hk z hlt hlt).2.2.1
     have htot:cD k[z].set:=hm.2 _ (List.getElem_mem hlt)
     have c1:=(kY k[z].set htot hset).frz
     have hsn:k.take (z + 1) = k.take z ++ [k[z]]:=by rw [List.take_succ_eq_append_getElem hlt]
     have hlk:(k.take z).length ≤ z:=by rw [List.length_take];omega
     generalize k.take z = A at *
     clear hk hm
     (have kc1:=c1;refine w0 ?_;(repeat' first|refine W2.mk ?_ ?_|refine W1.mk fun hc=>?_);all_goals clear kc1)
     refine ⟨z + 1,hlt,by omega,ak (aM 700 701) (ak (aM 701 700) ?_)⟩
     rw [hsn]
     exact ab
   · rw [List.take_of_length_le (show k.length ≤ z by omega)]
     (refine w0 ?_;(repeat' first|refine W2.mk ?_ ?_|refine W1.mk fun hc=>?_))
     refine aQ ?_
     exact cv rfl rfl rfl
theorem bM {k:List Pc} (h:b0 k):eV k:=⟨by have:=h.1;omega,fun p hp=>by
 have h1:=eU Pc.set hp
 have h2:=eH Kn.runs (a:=p.set) (b:=k.flatMap Pc.set) (by
   clear h1 h
   induction k with
   | nil=>cases hp
   | cons q k ih=>
     rw [List.flatMap_cons]
     rcases List.mem_cons.1 hp with rfl|h
     · exact List.sublist_append_left _ _
     · exact (ih h).trans (List.sublist_append_right _ _))
 have h3:=h.2
 exact ⟨by omega,by omega⟩⟩
theorem KQ (k:List Pc) (s:ByteArray) (hk:b0 k) (hs:s.size ≤ 1000000000):Fn Tryz.prog 178 [sC s,.per (eo [ff k])] (kx (fh k s)):=by
 have h1:=J7 k s hk hs
 generalize fh k s = A at *
 refine fi Tryz.func178 Tryz.ntmps178 ?_
 (have ko1:=h1;refine w0 ?_;(repeat' first|refine W2.mk ?_ ?_|refine W1.mk fun hc=>?_);all_goals clear ko1)
 refine aQ ?_
 exact cv rfl rfl rfl
theorem qz (k:List Pc) (hok:aO k) (hk:eV k):Fn Tryz.prog 130 [gM k] (k5 k):=by
 have h0:=iG k hk true (by simp [hok])
 have h1:=FH k hok hk
 clear hok hk
 refine fi Tryz.func130 Tryz.ntmps130 ?_
 (have kc1:=h0;have kc2:=h1;refine w0 ?_;(repeat' first|refine W2.mk ?_ ?_|refine W1.mk fun hc=>?_);all_goals clear kc2 kc1)
 refine aQ ?_
 exact cv rfl rfl rfl
theorem LM (k:List Pc) (hk:b0 k):Fn Tryz.prog 130 [gM k] (k5 (ki k)):=by
 have hl:=hk.1
 by_cases hok:aO k
 · rw [FD hok]
   exact qz k hok (bM hk)
 · have h0:=iG k (bM hk) false (by simp [hok])
   have h1:=ww [k] (by simp) (by simp;omega)
   have e1:[k].flatten = k:=by simp
   rw [e1] at h1
   have hlE:=qy k
   have h2:=wy 178 [eo [ff k]] (fh k) (fN k) (by omega) (fun s hs=>(KQ k s hk (AI hs)).frz.toM) (fun s _=>oo k s) (fun s _=>by
     have:=uc hk s
     exact ⟨by omega,by omega⟩)
   rw [show kB (fh k) (fN k) = ki k from rfl] at h2
   generalize ki k = R at *
   generalize fN k = E at *
   clear hlE e1 hok hk
   refine fi Tryz.func130 Tryz.ntmps130 ?_
   (have kc1:=h0;refine w0 ?_;(repeat' first|refine W2.mk ?_ ?_|refine W1.mk fun hc=>?_);all_goals clear kc1)
   refine js (tH 1 _ 24 rfl rfl rfl) ?_
   (repeat' (first|refine cN ?_|refine bD ?_|refine cc ?_|refine cd ?_|refine cO ?_|refine bi ?_|refine db dX ?_|refine cL ?_|refine cM (by kernel_rfl) ?_|(refine gw rfl rfl ⟨fun hc=>?_,fun hc=>?_⟩ <;> (repeat rw [List.length_map] at hc) <;> (try exact dy hc))|((first|apply aD rfl|apply aF rfl|apply aG rfl|apply aH rfl);focus (first|((apply az 22;(focus rfl);exact AG ⟨rfl,rfl,rfl⟩ rfl rfl))|(apply bx;(focus rfl);apply ag rfl rfl rfl rfl rfl;((apply az 22;(focus rfl);exact AG ⟨rfl,rfl,rfl⟩ rfl rfl)))|exact dY|((refine Dq (h1) (hg:=?_);((repeat (first|exact GL.nil|(refine GL.cons ?_ ?_;focus (first|exact aU rfl|exact bc rfl|exact bX rfl rfl rfl|exact bd rfl|exact bZ rfl|exact bt rfl))));done)))|(apply bx;(focus rfl);apply ag rfl rfl rfl rfl rfl;((refine Dq (h1) (hg:=?_);((repeat (first|exact GL.nil|(refine GL.cons ?_ ?_;focus (first|exact aU rfl|exact bc rfl|exact bX rfl rfl rfl|exact bd rfl|exact bZ rfl|exact bt rfl))));done))))|((refine Dq (h2) (hg:=?_);((repeat (first|exact GL.nil|(refine GL.cons ?_ ?_;focus (first|exact aU rfl|exact bc rfl|exact bX rfl rfl rfl|exact bd rfl|exact bZ rfl|exact bt rfl))));done)))|(apply bx;(focus rfl);apply ag rfl rfl rfl rfl rfl;((refine Dq (h2) (hg:=?_);((repeat (first|exact GL.nil|(refine GL.cons ?_ ?_;focus (first|exact aU rfl|exact bc rfl|exact bX rfl rfl rfl|exact bd rfl|exact bZ rfl|exact bt rfl))));done))))|fail))|refine ce ?_|refine cg ?_|refine ci ?_|refine d8 ?_|refine d9 ?_|refine cj ?_|refine bF rfl ?_|((first|refine gx rfl rfl rfl ⟨fun hc=>?_,fun hc=>?_⟩|refine gy rfl rfl rfl ⟨fun hc=>?_,fun hc=>?_⟩) <;> (fail_if_success (have q:(true = true):=hc)) <;> (fail_if_success (have q:(false = false):=hc)) <;> (repeat rw [List.length_map] at hc) <;> (try exact dy hc))|refine br rfl rfl (fun hc=>?_) ?_))
   refine aQ ?_
   exact cv rfl rfl rfl
theorem AJ (ls:List (List Pc)) (hl:ls.length ≤ 1000) (hk:b0 ls.flatten):Fn Tryz.prog 70 [.bor 1 (ls.map fun k=>[ff k])] (k5 (ki ls.flatten)):=by
 have h1:=LM ls.flatten hk
 have hkl:=hk.1
 generalize ki ls.flatten = R at *
 clear hk
 refine fi Tryz.func70 Tryz.ntmps70 ?_
 (refine w0 ?_;(repeat' first|refine W2.mk ?_ ?_|refine W1.mk fun hc=>?_))
 refine ck (bz 3 700 110 4 rfl rfl) ?_
 refine ah (X:=Nat) (fun z=>z ≤ ls.length)
   (fun z=>aN [(3,.row 700 0),(6,.bor 1 (ls.map fun k=>[ff k])),(7,iC .i64 (ls.length:Nat)),(8,iC .i64 ((z:Nat):Int))] [(700,I6 (ls.take z).flatten)]) (fun z=>ls.length - z) 0 (Nat.zero_le _) ?_ ?_
 · exact ab
 · intro z hz
   by_cases hlt:z < ls.length
   · have htk:(ls.take (z + 1)).flatten = (ls.take z).flatten ++ ls[z]:=by rw [List.take_succ_eq_append_getElem hlt,List.flatten_append];simp
     have hsub:(ls.take (z + 1)).flatten.length ≤ ls.flatten.length:=by
       have:ls.flatten = (ls.take (z + 1)).flatten ++ (ls.drop (z + 1)).flatten:=by rw [← List.flatten_append,List.take_append_drop]
       rw [this,List.length_append];omega
     rw [htk,List.length_append] at hsub
     generalize (ls.take z).flatten = A at *
     clear h1
     (refine w0 ?_;(repeat' first|refine W2.mk ?_ ?_|refine W1.mk fun hc=>?_))
     refine ⟨z + 1,hlt,by omega,ak (aM 700 701) (ak (aM 701 700) ?_)⟩
     rw [htk]
     exact ab
   · rw [List.take_of_length_le (show ls.length ≤ z by omega)]
     generalize ls.flatten = A at *
     (refine w0 ?_;(repeat' first|refine W2.mk ?_ ?_|refine W1.mk fun hc=>?_))
     refine js (iv 700 _ 110 4 rfl rfl) ?_
     (have kc1:=h1;refine w0 ?_;(repeat' first|refine W2.mk ?_ ?_|refine W1.mk fun hc=>?_);all_goals clear kc1)
     refine aQ ?_
     exact cv rfl rfl rfl
end
section
variable {P:Program} {n:Nat} {ops:Array Oper} {o:Oper} {S:St} {t:Nat}
theorem qA {cs:List PV} {k:Nat} {N:BP} {w:World} {f:Nat → Option Value} (h:∀ (j:Nat) (A:PV),cs[j]? = some A → ∃ y,f j = some y ∧ y.oneCell' = true ∧ A.p N w y) :
   ∀ (j:Nat) (A:PV),(cs.take k)[j]? = some A → ∃ y,f j = some y ∧ y.oneCell' = true ∧ A.p N w y:=fun j A hj=>by
 rw [List.getElem?_take] at hj
 split at hj
 · exact h j A hj
 · cases hj
theorem ar {ty:TypeId} {x:Operand} {cs As:List PV} {k:Nat} (hp:Pl n o t) (ho:o.op = .load ty x) (hT:dx P ty true) (hk:gI P ty k) (h0:Nat.blt 0 k = true) (hx:S.opd x = .bpt cs) (hl:Nat.ble k cs.length = true) (hc:cs.take k = As) :
   an n P ops o (ax x) (.per (bP As)) [] S:=
 aP hp fun C T g a w hAg hR=>by
   obtain ⟨d,hT,hd⟩:=hT.h
   have h:=aB (x:=x) hAg (fun k h=>h) hR
   rw [hx] at h
   obtain ⟨b,of,hv,hb,hn,hcs⟩:=h
   obtain ⟨vs,g1,g2,g3⟩:=dd (cs.take k) (qA hcs)
   subst hc
   have hkl:=Nat.le_of_ble_eq_true hl
   have h0:=Nat.le_of_ble_eq_true h0
   have hlen:(cs.take k).length = k:=by rw [List.length_take];omega
   refine ⟨.agg vs.toArray,?_,⟨vs.toArray,rfl,g3⟩⟩
   simp only [execOp,ho,hv,Sem.run_bind,dU hT hd (by rw [hk.h,g1,hlen]) (by omega) g2];rfl
theorem au {ty:TypeId} {x:Operand} {cs As:List PV} {k:Nat} (hp:Pl n o t) (ho:o.op = .load ty x) (hT:dx P ty true) (hk:gI P ty k) (h0:Nat.blt 0 k = true) (hx:S.opd x = .per (eo cs)) (hl:Nat.ble k cs.length = true) (hc:cs.take k = As) :
   an n P ops o (ax x) (.per (bP As)) [] S:=
 aP hp fun C T g a w hAg hR=>by
   obtain ⟨d,hT,hd⟩:=hT.h
   have h:=aB (x:=x) hAg (fun k h=>h) hR
   rw [hx] at h
   obtain ⟨b,of,hv,hb,hn,hcs⟩:=h
   obtain ⟨vs,g1,g2,g3⟩:=dd (cs.take k) (qA hcs)
   subst hc
   have hkl:=Nat.le_of_ble_eq_true hl
   have h0:=Nat.le_of_ble_eq_true h0
   have hlen:(cs.take k).length = k:=by rw [List.length_take];omega
   refine ⟨.agg vs.toArray,?_,⟨vs.toArray,rfl,g3⟩⟩
   simp only [execOp,ho,hv,Sem.run_bind,dU hT hd (by rw [hk.h,g1,hlen]) (by omega) g2];rfl
end
section
theorem oV (k:List Pc) (hk:eV k) (b:Bool) (hb:b = true ↔ aO k):Fn Tryz.prog 39 [bS k] (bO b):=by
 have hl0:=hk.1
 refine fi Tryz.func39 Tryz.ntmps39 ?_
 (refine w0 ?_;(repeat' first|refine W2.mk ?_ ?_|refine W1.mk fun hc=>?_))
 refine ah (X:=Nat) (fun z=>z ≤ k.length ∧ ∀ i,i < z → qc k i)
   (fun z=>aN [(0,bS k),(3,iC .i64 (z:Nat))] []) (fun z=>k.length - z) 0 ⟨Nat.zero_le _,fun i h=>absurd h (Nat.not_lt_zero _)⟩ ?_ ?_
 · exact ab
 · rintro z ⟨h1,h2⟩
   by_cases hz:z < k.length
   · have c1:=jb k[z].rg
     have c2:=B5 k[z].set (hk.at hz).sz (decide (bK k[z].set)) (by simp)
     have hE:k[z].set ≠ [] ↔ ¬ k[z].set.length = 0:=by simp
     have hno:¬ qc k z → b = false:=fun h=>by rw [← Bool.not_eq_true,hb];exact fun q=>h (q z hz)
     by_cases q1:eJ k[z].rg = true
     · rw [q1] at c1
       by_cases q2:k[z].set.length = 0
       · have hb0:=hno (fun h=>absurd q2 (hE.1 (h hz).2.1))
         subst hb0
         clear hb hno h2 hE q1
         (have kc1:=c1;have kc2:=c2;refine w0 ?_;(repeat' (first|refine W2.mk ?_ ?_|refine W1.mk fun hc=>?_|((first|apply aD rfl|apply aF rfl|apply aG rfl|apply aH rfl);(focus (first|((apply az 5;(focus rfl);first|exact ar ⟨rfl,rfl,rfl⟩ rfl inferInstance inferInstance rfl rfl rfl rfl|exact au ⟨rfl,rfl,rfl⟩ rfl inferInstance inferInstance rfl rfl rfl rfl))|(apply bx;(focus rfl);apply ag rfl rfl rfl rfl rfl;first|((apply az 5;(focus rfl);first|exact ar ⟨rfl,rfl,rfl⟩ rfl inferInstance inferInstance rfl rfl rfl rfl|exact au ⟨rfl,rfl,rfl⟩ rfl inferInstance inferInstance rfl rfl rfl rfl)))));refine w0 ?_)));all_goals clear kc2 kc1)
         refine aQ ?_
         exact af rfl rfl
       · by_cases q3:bK k[z].set
         · rw [decide_eq_true q3] at c2
           by_cases h0:0 < z
           · obtain ⟨q,rfl⟩:∃ q,z = q + 1:=⟨z - 1,by omega⟩
             have hqE:((q + 1:Nat):Int) - 1 = (q:Nat):=by omega
             have hq:=(h2 q (by omega)) (by omega)
             have hrq:=(bH _).1 q1
             have c3:=eR k[q + 1].rg.lo k[q].rg.hi (by omega)
             have hsw:=Ck k[q].rg.hi k[q + 1].rg.lo
             have c5:=m0 k[q].set k[q + 1].set (hk.at (by omega)).sz
             have hiff:qc k (q + 1) ↔ k[q].rg.op = false ∧ bG k[q].rg.hi k[q + 1].rg.lo ≤ 0 ∧ ¬ (k[q].rg.hi = k[q + 1].rg.lo ∧ k[q].set = k[q + 1].set):=
               ⟨fun h=>(h hz).2.2.2 (by omega),fun h _=>⟨q1,hE.2 q2,q3,fun _=>h⟩⟩
             clear hq hrq
             have hE2:((k[q + 1].set.length:Nat):Int) ≠ 0:=by omega
             cases o:k[q].rg.op with
             | true=>
               have hb0:=hno (fun h=>by have:=(hiff.1 h).1;rw [o] at this;cases this)
               subst hb0
               clear hb hno h2 hE q1 q3 hiff hsw
               (have ke1:=Lib.hid (hqE);have kc1:=c1;have kc2:=c2;have kc3:=c3;have kc4:=c5;refine bq ?_;(repeat' (first|refine W2.mk ?_ ?_|refine W1.mk fun hc=>?_|((first|apply aD rfl|apply aF rfl|apply aG rfl|apply aH rfl);(focus (first|((apply az 5;(focus rfl);first|exact ar ⟨rfl,rfl,rfl⟩ rfl inferInstance inferInstance rfl rfl rfl rfl|exact au ⟨rfl,rfl,rfl⟩ rfl inferInstance inferInstance rfl rfl rfl rfl))|(apply bx;(focus rfl);apply ag rfl rfl rfl rfl rfl;first|((apply az 5;(focus rfl);first|exact ar ⟨rfl,rfl,rfl⟩ rfl inferInstance inferInstance rfl rfl rfl rfl|exact au ⟨rfl,rfl,rfl⟩ rfl inferInstance inferInstance rfl rfl rfl rfl)))));refine bq ?_)));all_goals clear kc4 kc3 kc2 kc1 ke1)
               all_goals first|(exfalso;simp_all;done)|skip
               refine aQ ?_
               exact af rfl rfl
             | false=>
               by_cases g:bG k[q].rg.hi k[q + 1].rg.lo ≤ 0
               · rw [decide_eq_false (by omega)] at c3
                 by_cases e:k[q].rg.hi = k[q + 1].rg.lo
                 · by_cases s:k[q].set = k[q + 1].set
                   · rw [decide_eq_true s] at c5
                     have hb0:=hno (fun h=>(hiff.1 h).2.2 ⟨e,s⟩)
                     subst hb0
                     clear hb hno h2 hE q1 q3 hiff s hsw
                     (have ke1:=Lib.hid (hqE);have kc1:=c1;have kc2:=c2;have kc3:=c3;have kc4:=c5;refine bq ?_;(repeat' (first|refine W2.mk ?_ ?_|refine W1.mk fun hc=>?_|((first|apply aD rfl|apply aF rfl|apply aG rfl|apply aH rfl);(focus (first|((apply az 5;(focus rfl);first|exact ar ⟨rfl,rfl,rfl⟩ rfl inferInstance inferInstance rfl rfl rfl rfl|exact au ⟨rfl,rfl,rfl⟩ rfl inferInstance inferInstance rfl rfl rfl rfl))|(apply bx;(focus rfl);apply ag rfl rfl rfl rfl rfl;first|((apply az 5;(focus rfl);first|exact ar ⟨rfl,rfl,rfl⟩ rfl inferInstance inferInstance rfl rfl rfl rfl|exact au ⟨rfl,rfl,rfl⟩ rfl inferInstance inferInstance rfl rfl rfl rfl)))));refine bq ?_)));all_goals clear kc4 kc3 kc2 kc1 ke1)
                     all_goals first|(exfalso;simp_all;done)|skip
                     refine aQ ?_
                     exact af rfl rfl
                   · rw [decide_eq_false s] at c5
                     have hok:=hiff.2 ⟨o,g,fun h=>s h.2⟩
                     clear hb hno hE q1 q3 hiff s hsw
                     (have ke1:=Lib.hid (hqE);have kc1:=c1;have kc2:=c2;have kc3:=c3;have kc4:=c5;refine bq ?_;(repeat' (first|refine W2.mk ?_ ?_|refine W1.mk fun hc=>?_|((first|apply aD rfl|apply aF rfl|apply aG rfl|apply aH rfl);(focus (first|((apply az 5;(focus rfl);first|exact ar ⟨rfl,rfl,rfl⟩ rfl inferInstance inferInstance rfl rfl rfl rfl|exact au ⟨rfl,rfl,rfl⟩ rfl inferInstance inferInstance rfl rfl rfl rfl))|(apply bx;(focus rfl);apply ag rfl rfl rfl rfl rfl;first|((apply az 5;(focus rfl);first|exact ar ⟨rfl,rfl,rfl⟩ rfl inferInstance inferInstance rfl rfl rfl rfl|exact au ⟨rfl,rfl,rfl⟩ rfl inferInstance inferInstance rfl rfl rfl rfl)))));refine bq ?_)));all_goals clear kc4 kc3 kc2 kc1 ke1)
                     all_goals first|(exfalso;simp_all;done)|skip
                     refine ⟨q + 1 + 1,⟨by omega,eD h2 hok⟩,by omega,?_⟩
                     exact ab
                 · have hok:=hiff.2 ⟨o,g,fun h=>e h.1⟩
                   rw [← gz] at e
                   clear hb hno hE q1 q3 hiff c5 hsw
                   (have ke1:=Lib.hid (hqE);have kc1:=c1;have kc2:=c2;have kc3:=c3;refine bq ?_;(repeat' (first|refine W2.mk ?_ ?_|refine W1.mk fun hc=>?_|((first|apply aD rfl|apply aF rfl|apply aG rfl|apply aH rfl);(focus (first|((apply az 5;(focus rfl);first|exact ar ⟨rfl,rfl,rfl⟩ rfl inferInstance inferInstance rfl rfl rfl rfl|exact au ⟨rfl,rfl,rfl⟩ rfl inferInstance inferInstance rfl rfl rfl rfl))|(apply bx;(focus rfl);apply ag rfl rfl rfl rfl rfl;first|((apply az 5;(focus rfl);first|exact ar ⟨rfl,rfl,rfl⟩ rfl inferInstance inferInstance rfl rfl rfl rfl|exact au ⟨rfl,rfl,rfl⟩ rfl inferInstance inferInstance rfl rfl rfl rfl)))));refine bq ?_)));all_goals clear kc3 kc2 kc1 ke1)
                   all_goals first|(exfalso;simp_all;done)|skip
                   refine ⟨q + 1 + 1,⟨by omega,eD h2 hok⟩,by omega,?_⟩
                   exact ab
               · have hb0:=hno (fun h=>g (hiff.1 h).2.1)
                 rw [decide_eq_true (by omega)] at c3
                 subst hb0
                 clear hb hno h2 hE q1 q3 hiff hsw
                 (have ke1:=Lib.hid (hqE);have kc1:=c1;have kc2:=c2;have kc3:=c3;have kc4:=c5;refine bq ?_;(repeat' (first|refine W2.mk ?_ ?_|refine W1.mk fun hc=>?_|((first|apply aD rfl|apply aF rfl|apply aG rfl|apply aH rfl);(focus (first|((apply az 5;(focus rfl);first|exact ar ⟨rfl,rfl,rfl⟩ rfl inferInstance inferInstance rfl rfl rfl rfl|exact au ⟨rfl,rfl,rfl⟩ rfl inferInstance inferInstance rfl rfl rfl rfl))|(apply bx;(focus rfl);apply ag rfl rfl rfl rfl rfl;first|((apply az 5;(focus rfl);first|exact ar ⟨rfl,rfl,rfl⟩ rfl inferInstance inferInstance rfl rfl rfl rfl|exact au ⟨rfl,rfl,rfl⟩ rfl inferInstance inferInstance rfl rfl rfl rfl)))));refine bq ?_)));all_goals clear kc4 kc3 kc2 kc1 ke1)
                 all_goals first|(exfalso;simp_all;done)|skip
                 refine aQ ?_
                 exact af rfl rfl
           · have hok:qc k z:=fun _=>⟨q1,hE.2 q2,q3,fun h=>absurd h h0⟩
             obtain rfl:z = 0:=by omega
             clear hb hno hE q1 q3
             (have kc1:=c1;have kc2:=c2;refine w0 ?_;(repeat' (first|refine W2.mk ?_ ?_|refine W1.mk fun hc=>?_|((first|apply aD rfl|apply aF rfl|apply aG rfl|apply aH rfl);(focus (first|((apply az 5;(focus rfl);first|exact ar ⟨rfl,rfl,rfl⟩ rfl inferInstance inferInstance rfl rfl rfl rfl|exact au ⟨rfl,rfl,rfl⟩ rfl inferInstance inferInstance rfl rfl rfl rfl))|(apply bx;(focus rfl);apply ag rfl rfl rfl rfl rfl;first|((apply az 5;(focus rfl);first|exact ar ⟨rfl,rfl,rfl⟩ rfl inferInstance inferInstance rfl rfl rfl rfl|exact au ⟨rfl,rfl,rfl⟩ rfl inferInstance inferInstance rfl rfl rfl rfl)))));refine w0 ?_)));all_goals clear kc2 kc1)
             refine ⟨0 + 1,⟨by omega,eD h2 hok⟩,by omega,?_⟩
             exact ab
         · rw [decide_eq_false q3] at c2
           have hb0:=hno (fun h=>q3 (h hz).2.2.1)
           subst hb0
           clear hb hno h2 hE q1 q3
           (have kc1:=c1;have kc2:=c2;refine w0 ?_;(repeat' (first|refine W2.mk ?_ ?_|refine W1.mk fun hc=>?_|((first|apply aD rfl|apply aF rfl|apply aG rfl|apply aH rfl);(focus (first|((apply az 5;(focus rfl);first|exact ar ⟨rfl,rfl,rfl⟩ rfl inferInstance inferInstance rfl rfl rfl rfl|exact au ⟨rfl,rfl,rfl⟩ rfl inferInstance inferInstance rfl rfl rfl rfl))|(apply bx;(focus rfl);apply ag rfl rfl rfl rfl rfl;first|((apply az 5;(focus rfl);first|exact ar ⟨rfl,rfl,rfl⟩ rfl inferInstance inferInstance rfl rfl rfl rfl|exact au ⟨rfl,rfl,rfl⟩ rfl inferInstance inferInstance rfl rfl rfl rfl)))));refine w0 ?_)));all_goals clear kc2 kc1)
           refine aQ ?_
           exact af rfl rfl
     · rw [Bool.not_eq_true] at q1
       rw [q1] at c1
       have hb0:=hno (fun h=>by have:=(h hz).1;rw [q1] at this;cases this)
       subst hb0
       clear hb hno h2 hE q1
       (have kc1:=c1;have kc2:=c2;refine w0 ?_;(repeat' (first|refine W2.mk ?_ ?_|refine W1.mk fun hc=>?_|((first|apply aD rfl|apply aF rfl|apply aG rfl|apply aH rfl);(focus (first|((apply az 5;(focus rfl);first|exact ar ⟨rfl,rfl,rfl⟩ rfl inferInstance inferInstance rfl rfl rfl rfl|exact au ⟨rfl,rfl,rfl⟩ rfl inferInstance inferInstance rfl rfl rfl rfl))|(apply bx;(focus rfl);apply ag rfl rfl rfl rfl rfl;first|((apply az 5;(focus rfl);first|exact ar ⟨rfl,rfl,rfl⟩ rfl inferInstance inferInstance rfl rfl rfl rfl|exact au ⟨rfl,rfl,rfl⟩ rfl inferInstance inferInstance rfl rfl rfl rfl)))));refine w0 ?_)));all_goals clear kc2 kc1)
       refine aQ ?_
       exact af rfl rfl
   · have hb1:b = true:=hb.2 (fun i hi=>h2 i (by omega))
     subst hb1
     clear hb h2
     (refine w0 ?_;(repeat' first|refine W2.mk ?_ ?_|refine W1.mk fun hc=>?_))
     refine aQ ?_
     exact af rfl rfl
theorem mw (l m:List Pc) (hl:eV l):Fn Tryz.prog 23 [bS l,bS m] (bO (decide (l = m))):=by
 have hl0:=hl.1
 refine fi Tryz.func23 Tryz.ntmps23 ?_
 (refine w0 ?_;(repeat' first|refine W2.mk ?_ ?_|refine W1.mk fun hc=>?_))
 · refine aQ ?_
   exact af rfl (by symm;rw [decide_eq_false_iff_not];intro h;subst h;omega)
 have hlm:l.length = m.length:=by omega
 refine ah (fun k=>k ≤ l.length ∧ l.take k = m.take k) (fun k=>aN [(0,bS l),(1,bS m),(4,bC false),(5,iC .i64 (k:Nat))] []) (fun k=>l.length - k) 0 ⟨Nat.zero_le _,rfl⟩ ?_ ?_
 · exact ab
 · rintro k ⟨hk,hpre⟩
   by_cases hlt:k < l.length
   · have hltm:k < m.length:=by omega
     have c1:=m0 l[k].set m[k].set (hl.at hlt).sz
     have hEo:=vT l[k].rg m[k].rg
     by_cases h1:l[k].rg = m[k].rg
     · rw [(kd _ _).2 h1] at hEo
       by_cases h2:l[k].set = m[k].set
       · rw [decide_eq_true h2] at c1
         have hlm1:l[k] = m[k]:=by
           cases hx:l[k];cases hy:m[k]
           rw [hx,hy] at h1 h2
           simp only at h1 h2
           rw [h1,h2]
         clear h2 h1
         (have kc1:=c1;refine w0 ?_;(repeat' (first|refine W2.mk ?_ ?_|refine W1.mk fun hc=>?_|((first|apply aD rfl|apply aF rfl|apply aG rfl|apply aH rfl);(focus (first|(exact bJ (us:=encRg l[k].rg) (vs:=encRg m[k].rg) ⟨rfl,rfl,rfl⟩ rfl rfl rfl (by first|exact .inl ⟨rfl,rfl⟩|exact .inr ⟨rfl,rfl⟩) xN rfl hEo)|((apply az 5;(focus rfl);first|exact ar ⟨rfl,rfl,rfl⟩ rfl inferInstance inferInstance rfl rfl rfl rfl|exact au ⟨rfl,rfl,rfl⟩ rfl inferInstance inferInstance rfl rfl rfl rfl))|(apply bx;(focus rfl);apply ag rfl rfl rfl rfl rfl;first|(exact bJ (us:=encRg l[k].rg) (vs:=encRg m[k].rg) ⟨rfl,rfl,rfl⟩ rfl rfl rfl (by first|exact .inl ⟨rfl,rfl⟩|exact .inr ⟨rfl,rfl⟩) xN rfl hEo)|((apply az 5;(focus rfl);first|exact ar ⟨rfl,rfl,rfl⟩ rfl inferInstance inferInstance rfl rfl rfl rfl|exact au ⟨rfl,rfl,rfl⟩ rfl inferInstance inferInstance rfl rfl rfl rfl)))));refine w0 ?_)));all_goals clear kc1)
         refine ⟨k + 1,⟨by omega,?_⟩,by omega,?_⟩
         · rw [aJ l k hlt,aJ m k hltm,hpre,hlm1]
         · exact ab
       · rw [decide_eq_false h2] at c1
         have hd:¬ l = m:=fun h=>h2 (by subst h;rfl)
         rw [decide_eq_false hd]
         clear h1 h2 hd
         (have kc1:=c1;refine w0 ?_;(repeat' (first|refine W2.mk ?_ ?_|refine W1.mk fun hc=>?_|((first|apply aD rfl|apply aF rfl|apply aG rfl|apply aH rfl);(focus (first|(exact bJ (us:=encRg l[k].rg) (vs:=encRg m[k].rg) ⟨rfl,rfl,rfl⟩ rfl rfl rfl (by first|exact .inl ⟨rfl,rfl⟩|exact .inr ⟨rfl,rfl⟩) xN rfl hEo)|((apply az 5;(focus rfl);first|exact ar ⟨rfl,rfl,rfl⟩ rfl inferInstance inferInstance rfl rfl rfl rfl|exact au ⟨rfl,rfl,rfl⟩ rfl inferInstance inferInstance rfl rfl rfl rfl))|(apply bx;(focus rfl);apply ag rfl rfl rfl rfl rfl;first|(exact bJ (us:=encRg l[k].rg) (vs:=encRg m[k].rg) ⟨rfl,rfl,rfl⟩ rfl rfl rfl (by first|exact .inl ⟨rfl,rfl⟩|exact .inr ⟨rfl,rfl⟩) xN rfl hEo)|((apply az 5;(focus rfl);first|exact ar ⟨rfl,rfl,rfl⟩ rfl inferInstance inferInstance rfl rfl rfl rfl|exact au ⟨rfl,rfl,rfl⟩ rfl inferInstance inferInstance rfl rfl rfl rfl)))));refine w0 ?_)));all_goals clear kc1)
         refine aQ ?_
         exact af rfl rfl
     · have hd:¬ l = m:=fun h=>h1 (by subst h;rfl)
       rw [decide_eq_false hd]
       have he:Ls l[k].rg m[k].rg = false:=by rw [← Bool.not_eq_true,kd];exact h1
       rw [he] at hEo
       clear hd h1 he
       (have kc1:=c1;refine w0 ?_;(repeat' (first|refine W2.mk ?_ ?_|refine W1.mk fun hc=>?_|((first|apply aD rfl|apply aF rfl|apply aG rfl|apply aH rfl);(focus (first|(exact bJ (us:=encRg l[k].rg) (vs:=encRg m[k].rg) ⟨rfl,rfl,rfl⟩ rfl rfl rfl (by first|exact .inl ⟨rfl,rfl⟩|exact .inr ⟨rfl,rfl⟩) xN rfl hEo)|((apply az 5;(focus rfl);first|exact ar ⟨rfl,rfl,rfl⟩ rfl inferInstance inferInstance rfl rfl rfl rfl|exact au ⟨rfl,rfl,rfl⟩ rfl inferInstance inferInstance rfl rfl rfl rfl))|(apply bx;(focus rfl);apply ag rfl rfl rfl rfl rfl;first|(exact bJ (us:=encRg l[k].rg) (vs:=encRg m[k].rg) ⟨rfl,rfl,rfl⟩ rfl rfl rfl (by first|exact .inl ⟨rfl,rfl⟩|exact .inr ⟨rfl,rfl⟩) xN rfl hEo)|((apply az 5;(focus rfl);first|exact ar ⟨rfl,rfl,rfl⟩ rfl inferInstance inferInstance rfl rfl rfl rfl|exact au ⟨rfl,rfl,rfl⟩ rfl inferInstance inferInstance rfl rfl rfl rfl)))));refine w0 ?_)));all_goals clear kc1)
       refine aQ ?_
       exact af rfl rfl
   · rw [List.take_of_length_le (by omega),List.take_of_length_le (by omega)] at hpre
     rw [decide_eq_true hpre]
     clear hpre
     (refine w0 ?_;(repeat' first|refine W2.mk ?_ ?_|refine W1.mk fun hc=>?_))
     refine aQ ?_
     exact af rfl rfl
def o3 (p:Pc):Bool:=decide (p.rg.lo.size > 40) || decide (p.rg.hi.size > 40) || fE p.set 16
def eI (l:List Pc) (most:Int):Bool:=decide ((l.length:Int) > most) || l.any o3
theorem qB (l:List Pc) (most:Int) (hl:most ≤ 1000000000000):Fn Tryz.prog 36 [bS l,iC .i64 most] (bO (eI l most)):=by
 refine fi Tryz.func36 Tryz.ntmps36 ?_
 (refine w0 ?_;(repeat' first|refine W2.mk ?_ ?_|refine W1.mk fun hc=>?_))
 · refine aQ ?_
   exact af rfl (by unfold eI;rw [decide_eq_true hc];rfl)
 refine ah (fun k=>k ≤ l.length ∧ (l.take k).any o3 = false) (fun k=>aN [(0,bS l),(1,iC .i64 most),(4,bC false),(5,iC .i64 (k:Nat))] []) (fun k=>l.length - k) 0 ⟨Nat.zero_le _,by simp⟩ ?_ ?_
 · exact ab
 · rintro k ⟨hk,hpre⟩
   by_cases hlt:k < l.length
   · have hsn:(l.take (k + 1)).any o3 = ((l.take k).any o3 || o3 l[k]):=by rw [aJ l k hlt,List.any_append];simp
     have hyes:o3 l[k] = true → eI l most = true:=fun hq=>by unfold eI;rw [Bool.or_eq_true,List.any_eq_true];exact .inr ⟨l[k],List.getElem_mem hlt,hq⟩
     have c1:=Fa l[k].set 16 (by decide)
     by_cases q1:l[k].rg.lo.size > 40
     · have hd:=hyes (by simp [o3,q1])
       rw [hd]
       clear hd hsn hpre hyes
       (have kc1:=c1;refine w0 ?_;(repeat' first|refine W2.mk ?_ ?_|refine W1.mk fun hc=>?_);all_goals clear kc1)
       refine aQ ?_
       exact af rfl rfl
     · by_cases q2:l[k].rg.hi.size > 40
       · have hd:=hyes (by simp [o3,q2])
         rw [hd]
         clear hd hsn hpre hyes
         (have kc1:=c1;refine w0 ?_;(repeat' first|refine W2.mk ?_ ?_|refine W1.mk fun hc=>?_);all_goals clear kc1)
         refine aQ ?_
         exact af rfl rfl
       · cases q3:fE l[k].set 16 with
         | true=>
           have hd:=hyes (by simp [o3,q3])
           rw [hd]
           rw [q3] at c1
           clear hd hsn hpre hyes
           (have kc1:=c1;refine w0 ?_;(repeat' first|refine W2.mk ?_ ?_|refine W1.mk fun hc=>?_);all_goals clear kc1)
           refine aQ ?_
           exact af rfl rfl
         | false=>
           have hf:o3 l[k] = false:=by simp [o3,q1,q2,q3]
           rw [hpre,hf] at hsn
           rw [q3] at c1
           clear hpre hyes hf
           (have kc1:=c1;refine w0 ?_;(repeat' first|refine W2.mk ?_ ?_|refine W1.mk fun hc=>?_);all_goals clear kc1)
           refine ⟨k + 1,⟨by omega,hsn⟩,by omega,?_⟩
           exact ab
   · have e:l.take k = l:=List.take_of_length_le (by omega)
     rw [e] at hpre
     have hd:eI l most = false:=by unfold eI;rw [hpre,Bool.or_false,decide_eq_false_iff_not];assumption
     rw [hd]
     clear hd hpre e
     (refine w0 ?_;(repeat' first|refine W2.mk ?_ ?_|refine W1.mk fun hc=>?_))
     refine aQ ?_
     exact af rfl rfl
theorem y7 {l:List Pc} {most:Int} (h:eI l most = false):(l.length:Int) ≤ most ∧ ∀ p ∈ l,p.rg.lo.size ≤ 40 ∧ p.rg.hi.size ≤ 40 ∧ fE p.set 16 = false:=by
 unfold eI at h
 rw [Bool.or_eq_false_iff,decide_eq_false_iff_not] at h
 refine ⟨by omega,fun p hp=>?_⟩
 have:=List.any_eq_false.1 h.2 p hp
 simp [o3] at this
 exact ⟨by omega,by omega,this.2⟩
end
end Go.Proofs.YtembiemaiacdfaaGreat
