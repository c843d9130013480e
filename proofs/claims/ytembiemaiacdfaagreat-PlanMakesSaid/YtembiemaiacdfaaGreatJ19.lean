/- Texts joined: KnO AbsZ Kw2. -/
import Derived.Test.YtembiemaiacdfaaGreatJ18
import Derived.Test.YtembiemaiacdfaaGreatJ05
import Derived.Test.YtembiemaiacdfaaGreatJ07
import Derived.Test.YtembiemaiacdfaaGreatJ17
set_option maxRecDepth 10000
set_option maxHeartbeats 8000000
namespace Go.Proofs.YtembiemaiacdfaaGreat
open Go.RowKit
theorem yi {M:Nat}:∀ (T:List (List Rn)) (i:Nat),(∀ l ∈ T,l.length ≤ M) → (aX ofR i T).length ≤ T.length ∧ ((aX ofR i T).flatMap Kn.runs).length ≤ T.length * M:=by
 intro T
 induction T with
 | nil=>intro i _;simp [aX]
 | cons l T ih=>
   intro i h
   have h1:=ih (i + 1) (fun x hx=>h x (List.mem_cons_of_mem _ hx))
   have h2:=h l (by simp)
   have h3:=zx l
   rw [aX,List.flatMap_append,List.length_append,List.length_append,List.length_cons,Nat.add_mul,Nat.one_mul]
   split
   · simp only [List.length_nil,List.flatMap_nil];omega
   · simp only [List.length_cons,List.length_nil,List.flatMap_cons,List.flatMap_nil,List.append_nil];omega
theorem tI {X:List Kn} {M:Nat} (h:(X.flatMap Kn.runs).length ≤ M):(fa ofR X).length ≤ 16 ∧ ((fa ofR X).flatMap Kn.runs).length ≤ 16 * M:=by
 have:=yi (M:=M) (bT X) 0 (fun l hl=>by
   obtain ⟨r,_,rfl⟩:=List.mem_map.1 hl
   have:=eX X r
   omega)
 rw [bg] at this
 exact this
theorem EO {k:List Pc} (hk:cJ k) (s:ByteArray):(kO k s).length ≤ 16 ∧ ((kO k s).flatMap Kn.runs).length ≤ 16000000:=by
 have h1:=fq Kn.runs (vS (vT s) k)
 have:=tI (X:=k.flatMap (gV s)) (M:=1000000) (by have:=hk.2.2;omega)
 exact this
theorem Iv {k:List Pc} {m:ByteArray} (h:m ∈ kn k):m.size ≤ 1000000000:=by
 have:=tE k m h;omega
theorem EP (k:List Pc):(kn k).length ≤ 1 + 2 * k.length:=by
 have:=jr (bI k) [emB]
 unfold kn
 unfold bI at *
 simp only [List.length_cons,List.length_nil,List.length_map,Nat.zero_add] at this
 exact this
section
theorem ER (k:List Pc) (hk:bd k) (hm:eZ k):Fn Tryz.prog 177 [cQ k] (m0 k):=by
 have hl:=hm.1
 refine fi Tryz.func177 Tryz.ntmps177 ?_
 (refine w0 ?_;(repeat' first|refine W2.mk ?_ ?_|refine W1.mk fun hc=>?_))
 refine cc (bv 3 700 110 4 rfl rfl) ?_
 refine ah (X:=Nat) (fun z=>z ≤ k.length)
   (fun z=>aJ [(3,.row 700 0),(6,cQ k),(7,iC .i64 (k.length:Nat)),(8,iC .i64 ((z:Nat):Int))] [(700,Iu (k.take z))]) (fun z=>k.length - z) 0 (Nat.zero_le _) ?_ ?_
 · exact ab
 · intro z hz
   by_cases hlt:z < k.length
   · have hset:=(hk z hlt hlt).2.2.1
     have htot:cC k[z].set:=hm.2 _ (List.getElem_mem hlt)
     have c1:=(kN k[z].set htot hset).frz
     have hsn:k.take (z + 1) = k.take z ++ [k[z]]:=by rw [List.take_succ_eq_append_getElem hlt]
     have hlk:(k.take z).length ≤ z:=by rw [List.length_take];omega
     generalize k.take z = A at *
     clear hk hm
     (have kc1:=c1;refine w0 ?_;(repeat' first|refine W2.mk ?_ ?_|refine W1.mk fun hc=>?_);all_goals clear kc1)
     refine ⟨z + 1,hlt,by omega,an (aM 700 701) (an (aM 701 700) ?_)⟩
     rw [hsn]
     exact ab
   · rw [List.take_of_length_le (show k.length ≤ z by omega)]
     (refine w0 ?_;(repeat' first|refine W2.mk ?_ ?_|refine W1.mk fun hc=>?_))
     refine aO ?_
     exact cn rfl rfl rfl
theorem cZ {k:List Pc} (h:cJ k):eZ k:=⟨by have:=h.1;omega,fun p hp=>by
 have h1:=eA Pc.set hp
 have h2:=fq Kn.runs (a:=p.set) (b:=k.flatMap Pc.set) (by
   clear h1 h
   induction k with
   | nil=>cases hp
   | cons q k ih=>
     rw [List.flatMap_cons]
     rcases List.mem_cons.1 hp with rfl|h
     · exact List.sublist_append_left _ _
     · exact (ih h).trans (List.sublist_append_right _ _))
 have h3:=h.2
 exact ⟨by omega,by omega⟩⟩
theorem Kc (k:List Pc) (s:ByteArray) (hk:cJ k) (hs:s.size ≤ 1000000000):Fn Tryz.prog 178 [sC s,.per (dX [ip k])] (lG (kO k s)):=by
 have h1:=Jz k s hk hs
 generalize kO k s = A at *
 refine fi Tryz.func178 Tryz.ntmps178 ?_
 (have ko1:=h1;refine w0 ?_;(repeat' first|refine W2.mk ?_ ?_|refine W1.mk fun hc=>?_);all_goals clear ko1)
 refine aO ?_
 exact cn rfl rfl rfl
theorem qo (k:List Pc) (hok:bd k) (hk:eZ k):Fn Tryz.prog 130 [l9 k] (m0 k):=by
 have h0:=j2 k hk true (by simp [hok])
 have h1:=ER k hok hk
 clear hok hk
 refine fi Tryz.func130 Tryz.ntmps130 ?_
 (have kc1:=h0;have kc2:=h1;refine w0 ?_;(repeat' first|refine W2.mk ?_ ?_|refine W1.mk fun hc=>?_);all_goals clear kc2 kc1)
 refine aO ?_
 exact cn rfl rfl rfl
theorem K2 (k:List Pc) (hk:cJ k):Fn Tryz.prog 130 [l9 k] (m0 (wP k)):=by
 have hl:=hk.1
 by_cases hok:bd k
 · rw [EK hok]
   exact qo k hok (cZ hk)
 · have h0:=j2 k (cZ hk) false (by simp [hok])
   have h1:=vW [k] (by simp) (by simp;omega)
   have e1:[k].flatten = k:=by simp
   rw [e1] at h1
   have hlE:=EP k
   have h2:=vY 178 [dX [ip k]] (kO k) (kn k) (by omega) (fun s hs=>(Kc k s hk (Iv hs)).frz.toM) (fun s _=>nY k s) (fun s _=>by
     have:=EO hk s
     exact ⟨by omega,by omega⟩)
   rw [show l5 (kO k) (kn k) = wP k from rfl] at h2
   generalize wP k = R at *
   generalize kn k = E at *
   clear hlE e1 hok hk
   refine fi Tryz.func130 Tryz.ntmps130 ?_
   (have kc1:=h0;refine w0 ?_;(repeat' first|refine W2.mk ?_ ?_|refine W1.mk fun hc=>?_);all_goals clear kc1)
   refine kg (tc 1 _ 24 rfl rfl rfl) ?_
   (repeat' (first|refine cl ?_|refine bh ?_|refine bx ?_|refine bz ?_|refine cm ?_|refine aW ?_|refine cv dm ?_|refine cj ?_|refine ck (by kernel_rfl) ?_|(refine eU rfl rfl ⟨fun hc=>?_,fun hc=>?_⟩ <;> (repeat rw [List.length_map] at hc) <;> (try exact cP hc))|((first|apply aB rfl|apply aC rfl|apply aD rfl|apply aF rfl);focus (first|((apply ax 22;(focus rfl);exact zN ⟨rfl,rfl,rfl⟩ rfl rfl))|(apply bt;(focus rfl);apply ag rfl rfl rfl rfl rfl;((apply ax 22;(focus rfl);exact zN ⟨rfl,rfl,rfl⟩ rfl rfl)))|exact dn|((refine Cr (h1) (hg:=?_);((repeat (first|exact GL.nil|(refine GL.cons ?_ ?_;focus (first|exact aL rfl|exact aR rfl|exact bM rfl rfl rfl|exact aU rfl|exact bN rfl|exact bf rfl))));done)))|(apply bt;(focus rfl);apply ag rfl rfl rfl rfl rfl;((refine Cr (h1) (hg:=?_);((repeat (first|exact GL.nil|(refine GL.cons ?_ ?_;focus (first|exact aL rfl|exact aR rfl|exact bM rfl rfl rfl|exact aU rfl|exact bN rfl|exact bf rfl))));done))))|((refine Cr (h2) (hg:=?_);((repeat (first|exact GL.nil|(refine GL.cons ?_ ?_;focus (first|exact aL rfl|exact aR rfl|exact bM rfl rfl rfl|exact aU rfl|exact bN rfl|exact bf rfl))));done)))|(apply bt;(focus rfl);apply ag rfl rfl rfl rfl rfl;((refine Cr (h2) (hg:=?_);((repeat (first|exact GL.nil|(refine GL.cons ?_ ?_;focus (first|exact aL rfl|exact aR rfl|exact bM rfl rfl rfl|exact aU rfl|exact bN rfl|exact bf rfl))));done))))|fail))|refine bB ?_|refine bD ?_|refine bF ?_|refine dv ?_|refine dw ?_|refine bG ?_|refine bi rfl ?_|((first|refine eV rfl rfl rfl ⟨fun hc=>?_,fun hc=>?_⟩|refine eW rfl rfl rfl ⟨fun hc=>?_,fun hc=>?_⟩) <;> (fail_if_success (have q:(true = true):=hc)) <;> (fail_if_success (have q:(false = false):=hc)) <;> (repeat rw [List.length_map] at hc) <;> (try exact cP hc))|refine aZ rfl rfl (fun hc=>?_) ?_))
   refine aO ?_
   exact cn rfl rfl rfl
theorem Iw (ls:List (List Pc)) (hl:ls.length ≤ 1000) (hk:cJ ls.flatten):Fn Tryz.prog 70 [.bor 1 (ls.map fun k=>[ip k])] (m0 (wP ls.flatten)):=by
 have h1:=K2 ls.flatten hk
 have hkl:=hk.1
 generalize wP ls.flatten = R at *
 clear hk
 refine fi Tryz.func70 Tryz.ntmps70 ?_
 (refine w0 ?_;(repeat' first|refine W2.mk ?_ ?_|refine W1.mk fun hc=>?_))
 refine cc (bv 3 700 110 4 rfl rfl) ?_
 refine ah (X:=Nat) (fun z=>z ≤ ls.length)
   (fun z=>aJ [(3,.row 700 0),(6,.bor 1 (ls.map fun k=>[ip k])),(7,iC .i64 (ls.length:Nat)),(8,iC .i64 ((z:Nat):Int))] [(700,Iu (ls.take z).flatten)]) (fun z=>ls.length - z) 0 (Nat.zero_le _) ?_ ?_
 · exact ab
 · intro z hz
   by_cases hlt:z < ls.length
   · have htk:(ls.take (z + 1)).flatten = (ls.take z).flatten ++ ls[z]:=by rw [List.take_succ_eq_append_getElem hlt,List.flatten_append];simp
     have hsub:(ls.take (z + 1)).flatten.length ≤ ls.flatten.length:=by
       have:ls.flatten = (ls.take (z + 1)).flatten ++ (ls.drop (z + 1)).flatten:=by rw [← List.flatten_append,List.take_append_drop]
       rw [this,List.length_append];omega
     rw [htk,List.length_append] at hsub
     generalize (ls.take z).flatten = A at *
     clear h1
     (refine w0 ?_;(repeat' first|refine W2.mk ?_ ?_|refine W1.mk fun hc=>?_))
     refine ⟨z + 1,hlt,by omega,an (aM 700 701) (an (aM 701 700) ?_)⟩
     rw [htk]
     exact ab
   · rw [List.take_of_length_le (show ls.length ≤ z by omega)]
     generalize ls.flatten = A at *
     (refine w0 ?_;(repeat' first|refine W2.mk ?_ ?_|refine W1.mk fun hc=>?_))
     refine kg (gl 700 _ 110 4 rfl rfl) ?_
     (have kc1:=h1;refine w0 ?_;(repeat' first|refine W2.mk ?_ ?_|refine W1.mk fun hc=>?_);all_goals clear kc1)
     refine aO ?_
     exact cn rfl rfl rfl
end
section
variable {P:Program} {n:Nat} {ops:Array Oper} {o:Oper} {S:St} {t:Nat}
theorem qp {cs:List PV} {k:Nat} {N:BP} {w:World} {f:Nat → Option Value} (h:∀ (j:Nat) (A:PV),cs[j]? = some A → ∃ y,f j = some y ∧ y.oneCell' = true ∧ A.p N w y) :
   ∀ (j:Nat) (A:PV),(cs.take k)[j]? = some A → ∃ y,f j = some y ∧ y.oneCell' = true ∧ A.p N w y:=fun j A hj=>by
 rw [List.getElem?_take] at hj
 split at hj
 · exact h j A hj
 · cases hj
theorem au {ty:TypeId} {x:Operand} {cs As:List PV} {k:Nat} (hp:Pl n o t) (ho:o.op = .load ty x) (hT:bc P ty true) (hk:ct P ty k) (h0:Nat.blt 0 k = true) (hx:S.opd x = .bpt cs) (hl:Nat.ble k cs.length = true) (hc:cs.take k = As) :
   ak n P ops o (ap x) (.per (bW As)) [] S:=
 aA hp fun C T g a w hAg hR=>by
   obtain ⟨d,hT,hd⟩:=hT.h
   have h:=aw (x:=x) hAg (fun k h=>h) hR
   rw [hx] at h
   obtain ⟨b,of,hv,hb,hn,hcs⟩:=h
   obtain ⟨vs,g1,g2,g3⟩:=cW (cs.take k) (qp hcs)
   subst hc
   have hkl:=Nat.le_of_ble_eq_true hl
   have h0:=Nat.le_of_ble_eq_true h0
   have hlen:(cs.take k).length = k:=by rw [List.length_take];omega
   refine ⟨.agg vs.toArray,?_,⟨vs.toArray,rfl,g3⟩⟩
   simp only [execOp,ho,hv,Sem.run_bind,dL hT hd (by rw [hk.h,g1,hlen]) (by omega) g2];rfl
theorem av {ty:TypeId} {x:Operand} {cs As:List PV} {k:Nat} (hp:Pl n o t) (ho:o.op = .load ty x) (hT:bc P ty true) (hk:ct P ty k) (h0:Nat.blt 0 k = true) (hx:S.opd x = .per (dX cs)) (hl:Nat.ble k cs.length = true) (hc:cs.take k = As) :
   ak n P ops o (ap x) (.per (bW As)) [] S:=
 aA hp fun C T g a w hAg hR=>by
   obtain ⟨d,hT,hd⟩:=hT.h
   have h:=aw (x:=x) hAg (fun k h=>h) hR
   rw [hx] at h
   obtain ⟨b,of,hv,hb,hn,hcs⟩:=h
   obtain ⟨vs,g1,g2,g3⟩:=cW (cs.take k) (qp hcs)
   subst hc
   have hkl:=Nat.le_of_ble_eq_true hl
   have h0:=Nat.le_of_ble_eq_true h0
   have hlen:(cs.take k).length = k:=by rw [List.length_take];omega
   refine ⟨.agg vs.toArray,?_,⟨vs.toArray,rfl,g3⟩⟩
   simp only [execOp,ho,hv,Sem.run_bind,dL hT hd (by rw [hk.h,g1,hlen]) (by omega) g2];rfl
end
section
theorem oD (k:List Pc) (hk:eZ k) (b:Bool) (hb:b = true ↔ bd k):Fn Tryz.prog 39 [cQ k] (cU b):=by
 have hl0:=hk.1
 refine fi Tryz.func39 Tryz.ntmps39 ?_
 (refine w0 ?_;(repeat' first|refine W2.mk ?_ ?_|refine W1.mk fun hc=>?_))
 refine ah (X:=Nat) (fun z=>z ≤ k.length ∧ ∀ i,i < z → p5 k i)
   (fun z=>aJ [(0,cQ k),(3,iC .i64 (z:Nat))] []) (fun z=>k.length - z) 0 ⟨Nat.zero_le _,fun i h=>absurd h (Nat.not_lt_zero _)⟩ ?_ ?_
 · exact ab
 · rintro z ⟨h1,h2⟩
   by_cases hz:z < k.length
   · have c1:=iM k[z].rg
     have c2:=A3 k[z].set (hk.at hz).sz (decide (bX k[z].set)) (by simp)
     have hE:k[z].set ≠ [] ↔ ¬ k[z].set.length = 0:=by simp
     have hno:¬ p5 k z → b = false:=fun h=>by rw [← Bool.not_eq_true,hb];exact fun q=>h (q z hz)
     by_cases q1:eo k[z].rg = true
     · rw [q1] at c1
       by_cases q2:k[z].set.length = 0
       · have hb0:=hno (fun h=>absurd q2 (hE.1 (h hz).2.1))
         subst hb0
         clear hb hno h2 hE q1
         (have kc1:=c1;have kc2:=c2;refine w0 ?_;(repeat' (first|refine W2.mk ?_ ?_|refine W1.mk fun hc=>?_|((first|apply aB rfl|apply aC rfl|apply aD rfl|apply aF rfl);(focus (first|((apply ax 5;(focus rfl);first|exact au ⟨rfl,rfl,rfl⟩ rfl inferInstance inferInstance rfl rfl rfl rfl|exact av ⟨rfl,rfl,rfl⟩ rfl inferInstance inferInstance rfl rfl rfl rfl))|(apply bt;(focus rfl);apply ag rfl rfl rfl rfl rfl;first|((apply ax 5;(focus rfl);first|exact au ⟨rfl,rfl,rfl⟩ rfl inferInstance inferInstance rfl rfl rfl rfl|exact av ⟨rfl,rfl,rfl⟩ rfl inferInstance inferInstance rfl rfl rfl rfl)))));refine w0 ?_)));all_goals clear kc2 kc1)
         refine aO ?_
         exact af rfl rfl
       · by_cases q3:bX k[z].set
         · rw [decide_eq_true q3] at c2
           by_cases h0:0 < z
           · obtain ⟨q,rfl⟩:∃ q,z = q + 1:=⟨z - 1,by omega⟩
             have hqE:((q + 1:Nat):Int) - 1 = (q:Nat):=by omega
             have hq:=(h2 q (by omega)) (by omega)
             have hrq:=(bH _).1 q1
             have c3:=gn k[q + 1].rg.lo k[q].rg.hi (by omega)
             have hsw:=Bi k[q].rg.hi k[q + 1].rg.lo
             have c5:=mP k[q].set k[q + 1].set (hk.at (by omega)).sz
             have hiff:p5 k (q + 1) ↔ k[q].rg.op = false ∧ bO k[q].rg.hi k[q + 1].rg.lo ≤ 0 ∧ ¬ (k[q].rg.hi = k[q + 1].rg.lo ∧ k[q].set = k[q + 1].set):=
               ⟨fun h=>(h hz).2.2.2 (by omega),fun h _=>⟨q1,hE.2 q2,q3,fun _=>h⟩⟩
             clear hq hrq
             have hE2:((k[q + 1].set.length:Nat):Int) ≠ 0:=by omega
             cases o:k[q].rg.op with
             | true=>
               have hb0:=hno (fun h=>by have:=(hiff.1 h).1;rw [o] at this;cases this)
               subst hb0
               clear hb hno h2 hE q1 q3 hiff hsw
               (have ke1:=Lib.hid (hqE);have kc1:=c1;have kc2:=c2;have kc3:=c3;have kc4:=c5;refine bm ?_;(repeat' (first|refine W2.mk ?_ ?_|refine W1.mk fun hc=>?_|((first|apply aB rfl|apply aC rfl|apply aD rfl|apply aF rfl);(focus (first|((apply ax 5;(focus rfl);first|exact au ⟨rfl,rfl,rfl⟩ rfl inferInstance inferInstance rfl rfl rfl rfl|exact av ⟨rfl,rfl,rfl⟩ rfl inferInstance inferInstance rfl rfl rfl rfl))|(apply bt;(focus rfl);apply ag rfl rfl rfl rfl rfl;first|((apply ax 5;(focus rfl);first|exact au ⟨rfl,rfl,rfl⟩ rfl inferInstance inferInstance rfl rfl rfl rfl|exact av ⟨rfl,rfl,rfl⟩ rfl inferInstance inferInstance rfl rfl rfl rfl)))));refine bm ?_)));all_goals clear kc4 kc3 kc2 kc1 ke1)
               all_goals first|(exfalso;simp_all;done)|skip
               refine aO ?_
               exact af rfl rfl
             | false=>
               by_cases g:bO k[q].rg.hi k[q + 1].rg.lo ≤ 0
               · rw [decide_eq_false (by omega)] at c3
                 by_cases e:k[q].rg.hi = k[q + 1].rg.lo
                 · by_cases s:k[q].set = k[q + 1].set
                   · rw [decide_eq_true s] at c5
                     have hb0:=hno (fun h=>(hiff.1 h).2.2 ⟨e,s⟩)
                     subst hb0
                     clear hb hno h2 hE q1 q3 hiff s hsw
                     (have ke1:=Lib.hid (hqE);have kc1:=c1;have kc2:=c2;have kc3:=c3;have kc4:=c5;refine bm ?_;(repeat' (first|refine W2.mk ?_ ?_|refine W1.mk fun hc=>?_|((first|apply aB rfl|apply aC rfl|apply aD rfl|apply aF rfl);(focus (first|((apply ax 5;(focus rfl);first|exact au ⟨rfl,rfl,rfl⟩ rfl inferInstance inferInstance rfl rfl rfl rfl|exact av ⟨rfl,rfl,rfl⟩ rfl inferInstance inferInstance rfl rfl rfl rfl))|(apply bt;(focus rfl);apply ag rfl rfl rfl rfl rfl;first|((apply ax 5;(focus rfl);first|exact au ⟨rfl,rfl,rfl⟩ rfl inferInstance inferInstance rfl rfl rfl rfl|exact av ⟨rfl,rfl,rfl⟩ rfl inferInstance inferInstance rfl rfl rfl rfl)))));refine bm ?_)));all_goals clear kc4 kc3 kc2 kc1 ke1)
                     all_goals first|(exfalso;simp_all;done)|skip
                     refine aO ?_
                     exact af rfl rfl
                   · rw [decide_eq_false s] at c5
                     have hok:=hiff.2 ⟨o,g,fun h=>s h.2⟩
                     clear hb hno hE q1 q3 hiff s hsw
                     (have ke1:=Lib.hid (hqE);have kc1:=c1;have kc2:=c2;have kc3:=c3;have kc4:=c5;refine bm ?_;(repeat' (first|refine W2.mk ?_ ?_|refine W1.mk fun hc=>?_|((first|apply aB rfl|apply aC rfl|apply aD rfl|apply aF rfl);(focus (first|((apply ax 5;(focus rfl);first|exact au ⟨rfl,rfl,rfl⟩ rfl inferInstance inferInstance rfl rfl rfl rfl|exact av ⟨rfl,rfl,rfl⟩ rfl inferInstance inferInstance rfl rfl rfl rfl))|(apply bt;(focus rfl);apply ag rfl rfl rfl rfl rfl;first|((apply ax 5;(focus rfl);first|exact au ⟨rfl,rfl,rfl⟩ rfl inferInstance inferInstance rfl rfl rfl rfl|exact av ⟨rfl,rfl,rfl⟩ rfl inferInstance inferInstance rfl rfl rfl rfl)))));refine bm ?_)));all_goals clear kc4 kc3 kc2 kc1 ke1)
                     all_goals first|(exfalso;simp_all;done)|skip
                     refine ⟨q + 1 + 1,⟨by omega,el h2 hok⟩,by omega,?_⟩
                     exact ab
                 · have hok:=hiff.2 ⟨o,g,fun h=>e h.1⟩
                   rw [← gp] at e
                   clear hb hno hE q1 q3 hiff c5 hsw
                   (have ke1:=Lib.hid (hqE);have kc1:=c1;have kc2:=c2;have kc3:=c3;refine bm ?_;(repeat' (first|refine W2.mk ?_ ?_|refine W1.mk fun hc=>?_|((first|apply aB rfl|apply aC rfl|apply aD rfl|apply aF rfl);(focus (first|((apply ax 5;(focus rfl);first|exact au ⟨rfl,rfl,rfl⟩ rfl inferInstance inferInstance rfl rfl rfl rfl|exact av ⟨rfl,rfl,rfl⟩ rfl inferInstance inferInstance rfl rfl rfl rfl))|(apply bt;(focus rfl);apply ag rfl rfl rfl rfl rfl;first|((apply ax 5;(focus rfl);first|exact au ⟨rfl,rfl,rfl⟩ rfl inferInstance inferInstance rfl rfl rfl rfl|exact av ⟨rfl,rfl,rfl⟩ rfl inferInstance inferInstance rfl rfl rfl rfl)))));refine bm ?_)));all_goals clear kc3 kc2 kc1 ke1)
                   all_goals first|(exfalso;simp_all;done)|skip
                   refine ⟨q + 1 + 1,⟨by omega,el h2 hok⟩,by omega,?_⟩
                   exact ab
               · have hb0:=hno (fun h=>g (hiff.1 h).2.1)
                 rw [decide_eq_true (by omega)] at c3
                 subst hb0
                 clear hb hno h2 hE q1 q3 hiff hsw
                 (have ke1:=Lib.hid (hqE);have kc1:=c1;have kc2:=c2;have kc3:=c3;have kc4:=c5;refine bm ?_;(repeat' (first|refine W2.mk ?_ ?_|refine W1.mk fun hc=>?_|((first|apply aB rfl|apply aC rfl|apply aD rfl|apply aF rfl);(focus (first|((apply ax 5;(focus rfl);first|exact au ⟨rfl,rfl,rfl⟩ rfl inferInstance inferInstance rfl rfl rfl rfl|exact av ⟨rfl,rfl,rfl⟩ rfl inferInstance inferInstance rfl rfl rfl rfl))|(apply bt;(focus rfl);apply ag rfl rfl rfl rfl rfl;first|((apply ax 5;(focus rfl);first|exact au ⟨rfl,rfl,rfl⟩ rfl inferInstance inferInstance rfl rfl rfl rfl|exact av ⟨rfl,rfl,rfl⟩ rfl inferInstance inferInstance rfl rfl rfl rfl)))));refine bm ?_)));all_goals clear kc4 kc3 kc2 kc1 ke1)
                 all_goals first|(exfalso;simp_all;done)|skip
                 refine aO ?_
                 exact af rfl rfl
           · have hok:p5 k z:=fun _=>⟨q1,hE.2 q2,q3,fun h=>absurd h h0⟩
             obtain rfl:z = 0:=by omega
             clear hb hno hE q1 q3
             (have kc1:=c1;have kc2:=c2;refine w0 ?_;(repeat' (first|refine W2.mk ?_ ?_|refine W1.mk fun hc=>?_|((first|apply aB rfl|apply aC rfl|apply aD rfl|apply aF rfl);(focus (first|((apply ax 5;(focus rfl);first|exact au ⟨rfl,rfl,rfl⟩ rfl inferInstance inferInstance rfl rfl rfl rfl|exact av ⟨rfl,rfl,rfl⟩ rfl inferInstance inferInstance rfl rfl rfl rfl))|(apply bt;(focus rfl);apply ag rfl rfl rfl rfl rfl;first|((apply ax 5;(focus rfl);first|exact au ⟨rfl,rfl,rfl⟩ rfl inferInstance inferInstance rfl rfl rfl rfl|exact av ⟨rfl,rfl,rfl⟩ rfl inferInstance inferInstance rfl rfl rfl rfl)))));refine w0 ?_)));all_goals clear kc2 kc1)
             refine ⟨0 + 1,⟨by omega,el h2 hok⟩,by omega,?_⟩
             exact ab
         · rw [decide_eq_false q3] at c2
           have hb0:=hno (fun h=>q3 (h hz).2.2.1)
           subst hb0
           clear hb hno h2 hE q1 q3
           (have kc1:=c1;have kc2:=c2;refine w0 ?_;(repeat' (first|refine W2.mk ?_ ?_|refine W1.mk fun hc=>?_|((first|apply aB rfl|apply aC rfl|apply aD rfl|apply aF rfl);(focus (first|((apply ax 5;(focus rfl);first|exact au ⟨rfl,rfl,rfl⟩ rfl inferInstance inferInstance rfl rfl rfl rfl|exact av ⟨rfl,rfl,rfl⟩ rfl inferInstance inferInstance rfl rfl rfl rfl))|(apply bt;(focus rfl);apply ag rfl rfl rfl rfl rfl;first|((apply ax 5;(focus rfl);first|exact au ⟨rfl,rfl,rfl⟩ rfl inferInstance inferInstance rfl rfl rfl rfl|exact av ⟨rfl,rfl,rfl⟩ rfl inferInstance inferInstance rfl rfl rfl rfl)))));refine w0 ?_)));all_goals clear kc2 kc1)
           refine aO ?_
           exact af rfl rfl
     · rw [Bool.not_eq_true] at q1
       rw [q1] at c1
       have hb0:=hno (fun h=>by have:=(h hz).1;rw [q1] at this;cases this)
       subst hb0
       clear hb hno h2 hE q1
       (have kc1:=c1;have kc2:=c2;refine w0 ?_;(repeat' (first|refine W2.mk ?_ ?_|refine W1.mk fun hc=>?_|((first|apply aB rfl|apply aC rfl|apply aD rfl|apply aF rfl);(focus (first|((apply ax 5;(focus rfl);first|exact au ⟨rfl,rfl,rfl⟩ rfl inferInstance inferInstance rfl rfl rfl rfl|exact av ⟨rfl,rfl,rfl⟩ rfl inferInstance inferInstance rfl rfl rfl rfl))|(apply bt;(focus rfl);apply ag rfl rfl rfl rfl rfl;first|((apply ax 5;(focus rfl);first|exact au ⟨rfl,rfl,rfl⟩ rfl inferInstance inferInstance rfl rfl rfl rfl|exact av ⟨rfl,rfl,rfl⟩ rfl inferInstance inferInstance rfl rfl rfl rfl)))));refine w0 ?_)));all_goals clear kc2 kc1)
       refine aO ?_
       exact af rfl rfl
   · have hb1:b = true:=hb.2 (fun i hi=>h2 i (by omega))
     subst hb1
     clear hb h2
     (refine w0 ?_;(repeat' first|refine W2.mk ?_ ?_|refine W1.mk fun hc=>?_))
     refine aO ?_
     exact af rfl rfl
theorem mb (l m:List Pc) (hl:eZ l):Fn Tryz.prog 23 [cQ l,cQ m] (cU (decide (l = m))):=by
 have hl0:=hl.1
 refine fi Tryz.func23 Tryz.ntmps23 ?_
 (refine w0 ?_;(repeat' first|refine W2.mk ?_ ?_|refine W1.mk fun hc=>?_))
 · refine aO ?_
   exact af rfl (by symm;rw [decide_eq_false_iff_not];intro h;subst h;omega)
 have hlm:l.length = m.length:=by omega
 refine ah (fun k=>k ≤ l.length ∧ l.take k = m.take k) (fun k=>aJ [(0,cQ l),(1,cQ m),(4,bC false),(5,iC .i64 (k:Nat))] []) (fun k=>l.length - k) 0 ⟨Nat.zero_le _,rfl⟩ ?_ ?_
 · exact ab
 · rintro k ⟨hk,hpre⟩
   by_cases hlt:k < l.length
   · have hltm:k < m.length:=by omega
     have c1:=mP l[k].set m[k].set (hl.at hlt).sz
     have hEo:=DX l[k].rg m[k].rg
     by_cases h1:l[k].rg = m[k].rg
     · rw [(mM _ _).2 h1] at hEo
       by_cases h2:l[k].set = m[k].set
       · rw [decide_eq_true h2] at c1
         have hlm1:l[k] = m[k]:=by
           cases hx:l[k];cases hy:m[k]
           rw [hx,hy] at h1 h2
           simp only at h1 h2
           rw [h1,h2]
         clear h2 h1
         (have kc1:=c1;refine w0 ?_;(repeat' (first|refine W2.mk ?_ ?_|refine W1.mk fun hc=>?_|((first|apply aB rfl|apply aC rfl|apply aD rfl|apply aF rfl);(focus (first|(exact bw (us:=encRg l[k].rg) (vs:=encRg m[k].rg) ⟨rfl,rfl,rfl⟩ rfl rfl rfl (by first|exact .inl ⟨rfl,rfl⟩|exact .inr ⟨rfl,rfl⟩) zr rfl hEo)|((apply ax 5;(focus rfl);first|exact au ⟨rfl,rfl,rfl⟩ rfl inferInstance inferInstance rfl rfl rfl rfl|exact av ⟨rfl,rfl,rfl⟩ rfl inferInstance inferInstance rfl rfl rfl rfl))|(apply bt;(focus rfl);apply ag rfl rfl rfl rfl rfl;first|(exact bw (us:=encRg l[k].rg) (vs:=encRg m[k].rg) ⟨rfl,rfl,rfl⟩ rfl rfl rfl (by first|exact .inl ⟨rfl,rfl⟩|exact .inr ⟨rfl,rfl⟩) zr rfl hEo)|((apply ax 5;(focus rfl);first|exact au ⟨rfl,rfl,rfl⟩ rfl inferInstance inferInstance rfl rfl rfl rfl|exact av ⟨rfl,rfl,rfl⟩ rfl inferInstance inferInstance rfl rfl rfl rfl)))));refine w0 ?_)));all_goals clear kc1)
         refine ⟨k + 1,⟨by omega,?_⟩,by omega,?_⟩
         · rw [aN l k hlt,aN m k hltm,hpre,hlm1]
         · exact ab
       · rw [decide_eq_false h2] at c1
         have hd:¬ l = m:=fun h=>h2 (by subst h;rfl)
         rw [decide_eq_false hd]
         clear h1 h2 hd
         (have kc1:=c1;refine w0 ?_;(repeat' (first|refine W2.mk ?_ ?_|refine W1.mk fun hc=>?_|((first|apply aB rfl|apply aC rfl|apply aD rfl|apply aF rfl);(focus (first|(exact bw (us:=encRg l[k].rg) (vs:=encRg m[k].rg) ⟨rfl,rfl,rfl⟩ rfl rfl rfl (by first|exact .inl ⟨rfl,rfl⟩|exact .inr ⟨rfl,rfl⟩) zr rfl hEo)|((apply ax 5;(focus rfl);first|exact au ⟨rfl,rfl,rfl⟩ rfl inferInstance inferInstance rfl rfl rfl rfl|exact av ⟨rfl,rfl,rfl⟩ rfl inferInstance inferInstance rfl rfl rfl rfl))|(apply bt;(focus rfl);apply ag rfl rfl rfl rfl rfl;first|(exact bw (us:=encRg l[k].rg) (vs:=encRg m[k].rg) ⟨rfl,rfl,rfl⟩ rfl rfl rfl (by first|exact .inl ⟨rfl,rfl⟩|exact .inr ⟨rfl,rfl⟩) zr rfl hEo)|((apply ax 5;(focus rfl);first|exact au ⟨rfl,rfl,rfl⟩ rfl inferInstance inferInstance rfl rfl rfl rfl|exact av ⟨rfl,rfl,rfl⟩ rfl inferInstance inferInstance rfl rfl rfl rfl)))));refine w0 ?_)));all_goals clear kc1)
         refine aO ?_
         exact af rfl rfl
     · have hd:¬ l = m:=fun h=>h1 (by subst h;rfl)
       rw [decide_eq_false hd]
       have he:KI l[k].rg m[k].rg = false:=by rw [← Bool.not_eq_true,mM];exact h1
       rw [he] at hEo
       clear hd h1 he
       (have kc1:=c1;refine w0 ?_;(repeat' (first|refine W2.mk ?_ ?_|refine W1.mk fun hc=>?_|((first|apply aB rfl|apply aC rfl|apply aD rfl|apply aF rfl);(focus (first|(exact bw (us:=encRg l[k].rg) (vs:=encRg m[k].rg) ⟨rfl,rfl,rfl⟩ rfl rfl rfl (by first|exact .inl ⟨rfl,rfl⟩|exact .inr ⟨rfl,rfl⟩) zr rfl hEo)|((apply ax 5;(focus rfl);first|exact au ⟨rfl,rfl,rfl⟩ rfl inferInstance inferInstance rfl rfl rfl rfl|exact av ⟨rfl,rfl,rfl⟩ rfl inferInstance inferInstance rfl rfl rfl rfl))|(apply bt;(focus rfl);apply ag rfl rfl rfl rfl rfl;first|(exact bw (us:=encRg l[k].rg) (vs:=encRg m[k].rg) ⟨rfl,rfl,rfl⟩ rfl rfl rfl (by first|exact .inl ⟨rfl,rfl⟩|exact .inr ⟨rfl,rfl⟩) zr rfl hEo)|((apply ax 5;(focus rfl);first|exact au ⟨rfl,rfl,rfl⟩ rfl inferInstance inferInstance rfl rfl rfl rfl|exact av ⟨rfl,rfl,rfl⟩ rfl inferInstance inferInstance rfl rfl rfl rfl)))));refine w0 ?_)));all_goals clear kc1)
       refine aO ?_
       exact af rfl rfl
   · rw [List.take_of_length_le (by omega),List.take_of_length_le (by omega)] at hpre
     rw [decide_eq_true hpre]
     clear hpre
     (refine w0 ?_;(repeat' first|refine W2.mk ?_ ?_|refine W1.mk fun hc=>?_))
     refine aO ?_
     exact af rfl rfl
def oU (p:Pc):Bool:=decide (p.rg.lo.size > 40) || decide (p.rg.hi.size > 40) || fm p.set 16
def em (l:List Pc) (most:Int):Bool:=decide ((l.length:Int) > most) || l.any oU
theorem qq (l:List Pc) (most:Int) (hl:most ≤ 1000000000000):Fn Tryz.prog 36 [cQ l,iC .i64 most] (cU (em l most)):=by
 refine fi Tryz.func36 Tryz.ntmps36 ?_
 (refine w0 ?_;(repeat' first|refine W2.mk ?_ ?_|refine W1.mk fun hc=>?_))
 · refine aO ?_
   exact af rfl (by unfold em;rw [decide_eq_true hc];rfl)
 refine ah (fun k=>k ≤ l.length ∧ (l.take k).any oU = false) (fun k=>aJ [(0,cQ l),(1,iC .i64 most),(4,bC false),(5,iC .i64 (k:Nat))] []) (fun k=>l.length - k) 0 ⟨Nat.zero_le _,by simp⟩ ?_ ?_
 · exact ab
 · rintro k ⟨hk,hpre⟩
   by_cases hlt:k < l.length
   · have hsn:(l.take (k + 1)).any oU = ((l.take k).any oU || oU l[k]):=by rw [aN l k hlt,List.any_append];simp
     have hyes:oU l[k] = true → em l most = true:=fun hq=>by unfold em;rw [Bool.or_eq_true,List.any_eq_true];exact .inr ⟨l[k],List.getElem_mem hlt,hq⟩
     have c1:=Eh l[k].set 16 (by decide)
     by_cases q1:l[k].rg.lo.size > 40
     · have hd:=hyes (by simp [oU,q1])
       rw [hd]
       clear hd hsn hpre hyes
       (have kc1:=c1;refine w0 ?_;(repeat' first|refine W2.mk ?_ ?_|refine W1.mk fun hc=>?_);all_goals clear kc1)
       refine aO ?_
       exact af rfl rfl
     · by_cases q2:l[k].rg.hi.size > 40
       · have hd:=hyes (by simp [oU,q2])
         rw [hd]
         clear hd hsn hpre hyes
         (have kc1:=c1;refine w0 ?_;(repeat' first|refine W2.mk ?_ ?_|refine W1.mk fun hc=>?_);all_goals clear kc1)
         refine aO ?_
         exact af rfl rfl
       · cases q3:fm l[k].set 16 with
         | true=>
           have hd:=hyes (by simp [oU,q3])
           rw [hd]
           rw [q3] at c1
           clear hd hsn hpre hyes
           (have kc1:=c1;refine w0 ?_;(repeat' first|refine W2.mk ?_ ?_|refine W1.mk fun hc=>?_);all_goals clear kc1)
           refine aO ?_
           exact af rfl rfl
         | false=>
           have hf:oU l[k] = false:=by simp [oU,q1,q2,q3]
           rw [hpre,hf] at hsn
           rw [q3] at c1
           clear hpre hyes hf
           (have kc1:=c1;refine w0 ?_;(repeat' first|refine W2.mk ?_ ?_|refine W1.mk fun hc=>?_);all_goals clear kc1)
           refine ⟨k + 1,⟨by omega,hsn⟩,by omega,?_⟩
           exact ab
   · have e:l.take k = l:=List.take_of_length_le (by omega)
     rw [e] at hpre
     have hd:em l most = false:=by unfold em;rw [hpre,Bool.or_false,decide_eq_false_iff_not];assumption
     rw [hd]
     clear hd hpre e
     (refine w0 ?_;(repeat' first|refine W2.mk ?_ ?_|refine W1.mk fun hc=>?_))
     refine aO ?_
     exact af rfl rfl
theorem yj {l:List Pc} {most:Int} (h:em l most = false):(l.length:Int) ≤ most ∧ ∀ p ∈ l,p.rg.lo.size ≤ 40 ∧ p.rg.hi.size ≤ 40 ∧ fm p.set 16 = false:=by
 unfold em at h
 rw [Bool.or_eq_false_iff,decide_eq_false_iff_not] at h
 refine ⟨by omega,fun p hp=>?_⟩
 have:=List.any_eq_false.1 h.2 p hp
 simp [oU] at this
 exact ⟨by omega,by omega,this.2⟩
end
end Go.Proofs.YtembiemaiacdfaaGreat
