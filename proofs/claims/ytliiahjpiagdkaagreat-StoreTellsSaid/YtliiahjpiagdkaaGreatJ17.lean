/- Texts joined: KnO AbsZ Kw2 Law16 Kk DeP. -/
import Derived.Test.YtliiahjpiagdkaaGreatJ16
import Derived.Test.YtliiahjpiagdkaaGreatJ05
import Derived.Test.YtliiahjpiagdkaaGreatJ07
import Derived.Test.YtliiahjpiagdkaaGreatJ15
import Derived.Test.YtliiahjpiagdkaaGreatJ12
import Derived.Test.YtliiahjpiagdkaaGreatJ08
set_option maxRecDepth 10000
set_option maxHeartbeats 8000000
namespace Go.Proofs.YtliiahjpiagdkaaGreat
open Go.RowKit
theorem Bj {M:Nat}:∀ (T:List (List Rn)) (i:Nat),(∀ l ∈ T,l.length ≤ M) → (bj ofR i T).length ≤ T.length ∧ ((bj ofR i T).flatMap Kn.runs).length ≤ T.length * M:=by
 intro T
 induction T with
 | nil=>intro i _;simp [bj]
 | cons l T ih=>
  intro i h
  have h1:=ih (i + 1) (fun x hx=>h x (List.mem_cons_of_mem _ hx))
  have h2:=h l (by simp)
  have h3:=vQ l
  rw [bj,List.flatMap_append,List.length_append,List.length_append,List.length_cons,Nat.add_mul,Nat.one_mul]
  split
  ·simp only [List.length_nil,List.flatMap_nil];omega
  ·simp only [List.length_cons,List.length_nil,List.flatMap_cons,List.flatMap_nil,List.append_nil];omega
theorem q9 {X:List Kn} {M:Nat} (h:(X.flatMap Kn.runs).length ≤ M):(ff ofR X).length ≤ 16 ∧ ((ff ofR X).flatMap Kn.runs).length ≤ 16 * M:=by
 have:=Bj (M:=M) (b6 X) 0 (fun l hl=>by
  obtain ⟨r,_,rfl⟩:=List.mem_map.1 hl
  have:=d6 X r
  omega)
 rw [bG] at this
 exact this
theorem v8 {k:List Pc} (hk:bS k) (s:ByteArray):(iW k s).length ≤ 16 ∧ ((iW k s).flatMap Kn.runs).length ≤ 16000000:=by
 have h1:=gq Kn.runs (yE (yF s) k)
 have:=q9 (X:=k.flatMap (iY s)) (M:=1000000) (by have:=hk.2.2;omega)
 exact this
theorem oW {k:List Pc} (hk:bS k) (s:ByteArray):pJ (iW k s):=by
 have:=v8 hk s
 exact ⟨by omega,by omega⟩
theorem CS {k:List Pc} {m:ByteArray} (h:m ∈ gP k):m.size ≤ 1000000000:=by
 have:=vZ k m h;omega
theorem yL (k:List Pc):(gP k).length ≤ 1 + 2 * k.length:=by
 have:=jY (bB k) [emB]
 unfold gP
 unfold bB at *
 simp only [List.length_cons,List.length_nil,List.length_map,Nat.zero_add] at this
 exact this
section
theorem Iw (k:List Pc) (hk:aY k) (hm:fH k):Fn Tryz.prog 172 [bV k] (l8 k):=by
 have hl:=hm.1
 refine fi Tryz.func172 Tryz.ntmps172 ?_
 (refine w0 ?_;repeat' first|apply ai|refine aj fun hc=>?_)
 refine bZ (b7 3 700 66 4 rfl rfl) ?_
 refine an (X:=Nat) (fun z=>z ≤ k.length)
  (fun z=>ba [(3,.row 700 0),(6,bV k),(7,iC .i64 (k.length:Nat)),(8,iC .i64 ((z:Nat):Int))] [(700,LL (k.take z))]) (fun z=>k.length - z) 0 (Nat.zero_le _) ?_ ?_
 ·exact ae
 ·intro z hz
  by_cases hlt:z < k.length
  ·have hset:=(hk z hlt hlt).2.2.1
   have htot:cR k[z].set:=hm.2 _ (List.getElem_mem hlt)
   have c1:=(lZ k[z].set htot hset).frz
   have hsn:k.take (z + 1) = k.take z ++ [k[z]]:=by rw [List.take_succ_eq_append_getElem hlt]
   have hlk:(k.take z).length ≤ z:=by rw [List.length_take];omega
   generalize k.take z = A at *
   clear hk hm
   (refine az c1 ?_;repeat' first|apply ai|refine aj fun hc=>?_)
   refine ⟨z + 1,hlt,by omega,ay (aN 700 701) (ay (aN 701 700) ?_)⟩
   rw [hsn]
   exact ae
  ·rw [List.take_of_length_le (show k.length ≤ z by omega)]
   (refine w0 ?_;repeat' first|apply ai|refine aj fun hc=>?_)
   refine aU ?_
   exact cI rfl rfl rfl
theorem cS {k:List Pc} (h:bS k):fH k:=⟨by have:=h.1;omega,fun p hp=>by
 have h1:=fG Pc.set hp
 have h2:=gq Kn.runs (a:=p.set) (b:=k.flatMap Pc.set) (by
  clear h1 h
  induction k with
  | nil=>cases hp
  | cons q k ih=>
   rw [List.flatMap_cons]
   rcases List.mem_cons.1 hp with rfl|h
   ·exact List.sublist_append_left _ _
   ·exact (ih h).trans (List.sublist_append_right _ _))
 have h3:=h.2
 exact ⟨by omega,by omega⟩⟩
theorem NS (k:List Pc) (s:ByteArray) (hk:bS k) (hs:s.size ≤ 1000000000):Fn Tryz.prog 173 [sC s,.per (dw [iq k])] (k9 (iW k s)):=by
 have h1:=M5 k s hk hs
 generalize iW k s = A at *
 refine fi Tryz.func173 Tryz.ntmps173 ?_
 (refine M0 h1 ?_;repeat' first|apply ai|refine aj fun hc=>?_)
 refine aU ?_
 exact cI rfl rfl rfl
theorem sx (k:List Pc) (hok:aY k) (hk:fH k):Fn Tryz.prog 125 [gr k] (l8 k):=by
 have h0:=kP k hk true (by simp [hok])
 have h1:=Iw k hok hk
 clear hok hk
 refine fi Tryz.func125 Tryz.ntmps125 ?_
 (refine aL h0 h1 ?_;repeat' first|apply ai|refine aj fun hc=>?_)
 refine aU ?_
 exact cI rfl rfl rfl
theorem Pb (k:List Pc) (hk:bS k):Fn Tryz.prog 125 [gr k] (l8 (qu k)):=by
 have hl:=hk.1
 by_cases hok:aY k
 ·rw [Bh hok]
  exact sx k hok (cS hk)
 ·have h0:=kP k (cS hk) false (by simp [hok])
  have h1:=yI [k] (by simp) (by simp;omega)
  have e1:[k].flatten = k:=by simp
  rw [e1] at h1
  have hlE:=yL k
  have h2:=yK 173 [dw [iq k]] (iW k) (gP k) (by omega) (fun s hs=>(NS k s hk (CS hs)).frz.toM) (fun s _=>pN k s) (fun s _=>by
   have:=v8 hk s
   exact ⟨by omega,by omega⟩)
  rw [show kL (iW k) (gP k) = qu k from rfl] at h2
  generalize qu k = R at *
  generalize gP k = E at *
  clear hlE e1 hok hk
  refine fi Tryz.func125 Tryz.ntmps125 ?_
  (refine az h0 ?_;repeat' first|apply ai|refine aj fun hc=>?_)
  refine jx (Ax 1 _ 24 rfl rfl rfl) ?_
  (repeat' (first|refine fS ?_|refine dx ?_|refine ei ?_|refine ej ?_|refine fT ?_|refine cO ?_|refine e9 gK ?_|refine fQ ?_|refine fR (by kernel_rfl) ?_|(refine nf rfl rfl ⟨fun hc=>?_,fun hc=>?_⟩ <;> (repeat rw [List.length_map] at hc) <;> (try exact gg hc))|((first|apply aO rfl|apply aP rfl|apply aQ rfl|apply aR rfl);focus (first|((apply bn 22;(focus rfl);exact CQ ⟨rfl,rfl,rfl⟩ rfl rfl))|(apply b8;(focus rfl);apply ah rfl rfl rfl rfl rfl;((apply bn 22;(focus rfl);exact CQ ⟨rfl,rfl,rfl⟩ rfl rfl)))|exact iH|((refine FF (h1) (hg:=?_);((repeat (first|exact GL.nil|(refine GL.cons ?_ ?_;focus (first|exact bq rfl|exact bI rfl|exact cP rfl rfl rfl|exact bJ rfl|exact cQ rfl|exact ce rfl))));done)))|(apply b8;(focus rfl);apply ah rfl rfl rfl rfl rfl;((refine FF (h1) (hg:=?_);((repeat (first|exact GL.nil|(refine GL.cons ?_ ?_;focus (first|exact bq rfl|exact bI rfl|exact cP rfl rfl rfl|exact bJ rfl|exact cQ rfl|exact ce rfl))));done))))|((refine FF (h2) (hg:=?_);((repeat (first|exact GL.nil|(refine GL.cons ?_ ?_;focus (first|exact bq rfl|exact bI rfl|exact cP rfl rfl rfl|exact bJ rfl|exact cQ rfl|exact ce rfl))));done)))|(apply b8;(focus rfl);apply ah rfl rfl rfl rfl rfl;((refine FF (h2) (hg:=?_);((repeat (first|exact GL.nil|(refine GL.cons ?_ ?_;focus (first|exact bq rfl|exact bI rfl|exact cP rfl rfl rfl|exact bJ rfl|exact cQ rfl|exact ce rfl))));done))))|fail))|refine ep ?_|refine eu ?_|refine ev ?_|refine jb ?_|refine jc ?_|refine ew ?_|refine dy rfl ?_|((first|refine ng rfl rfl rfl ⟨fun hc=>?_,fun hc=>?_⟩|refine nh rfl rfl rfl ⟨fun hc=>?_,fun hc=>?_⟩) <;> (fail_if_success (have q:(true = true):=hc)) <;> (fail_if_success (have q:(false = false):=hc)) <;> (repeat rw [List.length_map] at hc) <;> (try exact gg hc))|refine cX rfl rfl (fun hc=>?_) ?_))
  refine aU ?_
  exact cI rfl rfl rfl
theorem CT (ls:List (List Pc)) (hl:ls.length ≤ 1000) (hk:bS ls.flatten):Fn Tryz.prog 85 [.bor 1 (ls.map fun k=>[iq k])] (l8 (qu ls.flatten)):=by
 have h1:=Pb ls.flatten hk
 have hkl:=hk.1
 generalize qu ls.flatten = R at *
 clear hk
 refine fi Tryz.func85 Tryz.ntmps85 ?_
 (refine w0 ?_;repeat' first|apply ai|refine aj fun hc=>?_)
 refine bZ (b7 3 700 66 4 rfl rfl) ?_
 refine an (X:=Nat) (fun z=>z ≤ ls.length)
  (fun z=>ba [(3,.row 700 0),(6,.bor 1 (ls.map fun k=>[iq k])),(7,iC .i64 (ls.length:Nat)),(8,iC .i64 ((z:Nat):Int))] [(700,LL (ls.take z).flatten)]) (fun z=>ls.length - z) 0 (Nat.zero_le _) ?_ ?_
 ·exact ae
 ·intro z hz
  by_cases hlt:z < ls.length
  ·have htk:(ls.take (z + 1)).flatten = (ls.take z).flatten ++ ls[z]:=by rw [List.take_succ_eq_append_getElem hlt,List.flatten_append];simp
   have hsub:(ls.take (z + 1)).flatten.length ≤ ls.flatten.length:=by
    have:ls.flatten = (ls.take (z + 1)).flatten ++ (ls.drop (z + 1)).flatten:=by rw [← List.flatten_append,List.take_append_drop]
    rw [this,List.length_append];omega
   rw [htk,List.length_append] at hsub
   generalize (ls.take z).flatten = A at *
   clear h1
   (refine w0 ?_;repeat' first|apply ai|refine aj fun hc=>?_)
   refine ⟨z + 1,hlt,by omega,ay (aN 700 701) (ay (aN 701 700) ?_)⟩
   rw [htk]
   exact ae
  ·rw [List.take_of_length_le (show ls.length ≤ z by omega)]
   generalize ls.flatten = A at *
   (refine w0 ?_;repeat' first|apply ai|refine aj fun hc=>?_)
   refine jx (je 700 _ 66 4 rfl rfl) ?_
   (refine az h1 ?_;repeat' first|apply ai|refine aj fun hc=>?_)
   refine aU ?_
   exact cI rfl rfl rfl
end
section
variable {P:Program} {n:Nat} {ops:Array Oper} {o:Oper} {S:St} {t:Nat}
theorem sy {cs:List PV} {k:Nat} {N:BP} {w:World} {f:Nat → Option Value} (h:∀ (j:Nat) (A:PV),cs[j]? = some A → ∃ y,f j = some y ∧ y.oneCell' = true ∧ A.p N w y) :
 ∀ (j:Nat) (A:PV),(cs.take k)[j]? = some A → ∃ y,f j = some y ∧ y.oneCell' = true ∧ A.p N w y:=fun j A hj=>by
 rw [List.getElem?_take] at hj
 split at hj
 ·exact h j A hj
 ·cases hj
theorem bg {ty:TypeId} {x:Operand} {cs As:List PV} {k:Nat} (hp:Pl n o t) (ho:o.op = .load ty x) (hT:bD P ty true) (hk:cT P ty k) (h0:Nat.blt 0 k = true) (hx:S.opd x = .bpt cs) (hl:Nat.ble k cs.length = true) (hc:cs.take k = As) :
 aw n P ops o (aA x) (.per (bX As)) [] S:=
 aM hp fun C T g a w hAg hR=>by
  obtain ⟨d,hT,hd⟩:=hT.h
  have h:=aD (x:=x) hAg (fun k h=>h) hR
  rw [hx] at h
  obtain ⟨b,of,hv,hb,hn,hcs⟩:=h
  obtain ⟨vs,g1,g2,g3⟩:=cU (cs.take k) (sy hcs)
  subst hc
  have hkl:=Nat.le_of_ble_eq_true hl
  have h0:=Nat.le_of_ble_eq_true h0
  have hlen:(cs.take k).length = k:=by rw [List.length_take];omega
  refine ⟨.agg vs.toArray,?_,⟨vs.toArray,rfl,g3⟩⟩
  simp only [execOp,ho,hv,Sem.run_bind,el hT hd (by rw [hk.h,g1,hlen]) (by omega) g2];rfl
theorem bh {ty:TypeId} {x:Operand} {cs As:List PV} {k:Nat} (hp:Pl n o t) (ho:o.op = .load ty x) (hT:bD P ty true) (hk:cT P ty k) (h0:Nat.blt 0 k = true) (hx:S.opd x = .per (dw cs)) (hl:Nat.ble k cs.length = true) (hc:cs.take k = As) :
 aw n P ops o (aA x) (.per (bX As)) [] S:=
 aM hp fun C T g a w hAg hR=>by
  obtain ⟨d,hT,hd⟩:=hT.h
  have h:=aD (x:=x) hAg (fun k h=>h) hR
  rw [hx] at h
  obtain ⟨b,of,hv,hb,hn,hcs⟩:=h
  obtain ⟨vs,g1,g2,g3⟩:=cU (cs.take k) (sy hcs)
  subst hc
  have hkl:=Nat.le_of_ble_eq_true hl
  have h0:=Nat.le_of_ble_eq_true h0
  have hlen:(cs.take k).length = k:=by rw [List.length_take];omega
  refine ⟨.agg vs.toArray,?_,⟨vs.toArray,rfl,g3⟩⟩
  simp only [execOp,ho,hv,Sem.run_bind,el hT hd (by rw [hk.h,g1,hlen]) (by omega) g2];rfl
end
section
theorem qv (k:List Pc) (hk:fH k) (b:Bool) (hb:b = true ↔ aY k):Fn Tryz.prog 50 [bV k] (cw b):=by
 have hl0:=hk.1
 refine fi Tryz.func50 Tryz.ntmps50 ?_
 (refine w0 ?_;repeat' first|apply ai|refine aj fun hc=>?_)
 refine an (X:=Nat) (fun z=>z ≤ k.length ∧ ∀ i,i < z → rY k i)
  (fun z=>ba [(0,bV k),(3,iC .i64 (z:Nat))] []) (fun z=>k.length - z) 0 ⟨Nat.zero_le _,fun i h=>absurd h (Nat.not_lt_zero _)⟩ ?_ ?_
 ·exact ae
 ·rintro z ⟨h1,h2⟩
  by_cases hz:z < k.length
  ·have c1:=jz k[z].rg
   have c2:=Ed k[z].set (hk.at hz).sz (decide (cg k[z].set)) (by simp)
   have hE:k[z].set ≠ [] ↔ ¬ k[z].set.length = 0:=by simp
   have hno:¬ rY k z → b = false:=fun h=>by rw [← Bool.not_eq_true,hb];exact fun q=>h (q z hz)
   by_cases q1:eO k[z].rg = true
   ·rw [q1] at c1
    by_cases q2:k[z].set.length = 0
    ·have hb0:=hno (fun h=>absurd q2 (hE.1 (h hz).2.1))
     subst hb0
     clear hb hno h2 hE q1
     (refine aL c1 c2 ?_;repeat' first|apply ai|refine aj fun hc=>?_|((first|apply aO rfl|apply aP rfl|apply aQ rfl|apply aR rfl);(focus ((try (apply b8;(focus rfl);apply ah rfl rfl rfl rfl rfl));first|((apply bn 5;(focus rfl);first|exact bg ⟨rfl,rfl,rfl⟩ rfl inferInstance inferInstance rfl rfl rfl rfl|exact bh ⟨rfl,rfl,rfl⟩ rfl inferInstance inferInstance rfl rfl rfl rfl))));refine aL c1 c2 ?_))
     refine aU ?_
     exact af rfl rfl
    ·by_cases q3:cg k[z].set
     ·rw [decide_eq_true q3] at c2
      by_cases h0:0 < z
      ·obtain ⟨q,rfl⟩:∃ q,z = q + 1:=⟨z - 1,by omega⟩
       have hqE:((q + 1:Nat):Int) - 1 = (q:Nat):=by omega
       have hq:=(h2 q (by omega)) (by omega)
       have hrq:=(bT _).1 q1
       have c3:=eZ k[q + 1].rg.lo k[q].rg.hi (by omega)
       have hsw:=Eu k[q].rg.hi k[q + 1].rg.lo
       have c5:=oJ k[q].set k[q + 1].set (hk.at (by omega)).sz
       have hiff:rY k (q + 1) ↔ k[q].rg.op = false ∧ bu k[q].rg.hi k[q + 1].rg.lo ≤ 0 ∧ ¬ (k[q].rg.hi = k[q + 1].rg.lo ∧ k[q].set = k[q + 1].set):=
        ⟨fun h=>(h hz).2.2.2 (by omega),fun h _=>⟨q1,hE.2 q2,q3,fun _=>h⟩⟩
       clear hq hrq
       have hE2:((k[q + 1].set.length:Nat):Int) ≠ 0:=by omega
       cases o:k[q].rg.op with
       | true=>
        have hb0:=hno (fun h=>by have:=(hiff.1 h).1;rw [o] at this;cases this)
        subst hb0
        clear hb hno h2 hE q1 q3 hiff hsw
        (refine fc hqE c1 c2 c3 c5 ?_;repeat' first|apply ai|refine aj fun hc=>?_|((first|apply aO rfl|apply aP rfl|apply aQ rfl|apply aR rfl);(focus ((try (apply b8;(focus rfl);apply ah rfl rfl rfl rfl rfl));first|((apply bn 5;(focus rfl);first|exact bg ⟨rfl,rfl,rfl⟩ rfl inferInstance inferInstance rfl rfl rfl rfl|exact bh ⟨rfl,rfl,rfl⟩ rfl inferInstance inferInstance rfl rfl rfl rfl))));refine fc hqE c1 c2 c3 c5 ?_))
        all_goals first|(exfalso;simp_all;done)|skip
        refine aU ?_
        exact af rfl rfl
       | false=>
        by_cases g:bu k[q].rg.hi k[q + 1].rg.lo ≤ 0
        ·rw [decide_eq_false (by omega)] at c3
         by_cases e:k[q].rg.hi = k[q + 1].rg.lo
         ·by_cases s:k[q].set = k[q + 1].set
          ·rw [decide_eq_true s] at c5
           have hb0:=hno (fun h=>(hiff.1 h).2.2 ⟨e,s⟩)
           subst hb0
           clear hb hno h2 hE q1 q3 hiff s hsw
           (refine fc hqE c1 c2 c3 c5 ?_;repeat' first|apply ai|refine aj fun hc=>?_|((first|apply aO rfl|apply aP rfl|apply aQ rfl|apply aR rfl);(focus ((try (apply b8;(focus rfl);apply ah rfl rfl rfl rfl rfl));first|((apply bn 5;(focus rfl);first|exact bg ⟨rfl,rfl,rfl⟩ rfl inferInstance inferInstance rfl rfl rfl rfl|exact bh ⟨rfl,rfl,rfl⟩ rfl inferInstance inferInstance rfl rfl rfl rfl))));refine fc hqE c1 c2 c3 c5 ?_))
           all_goals first|(exfalso;simp_all;done)|skip
           refine aU ?_
           exact af rfl rfl
          ·rw [decide_eq_false s] at c5
           have hok:=hiff.2 ⟨o,g,fun h=>s h.2⟩
           clear hb hno hE q1 q3 hiff s hsw
           (refine fc hqE c1 c2 c3 c5 ?_;repeat' first|apply ai|refine aj fun hc=>?_|((first|apply aO rfl|apply aP rfl|apply aQ rfl|apply aR rfl);(focus ((try (apply b8;(focus rfl);apply ah rfl rfl rfl rfl rfl));first|((apply bn 5;(focus rfl);first|exact bg ⟨rfl,rfl,rfl⟩ rfl inferInstance inferInstance rfl rfl rfl rfl|exact bh ⟨rfl,rfl,rfl⟩ rfl inferInstance inferInstance rfl rfl rfl rfl))));refine fc hqE c1 c2 c3 c5 ?_))
           all_goals first|(exfalso;simp_all;done)|skip
           refine ⟨q + 1 + 1,⟨by omega,fe h2 hok⟩,by omega,?_⟩
           exact ae
         ·have hok:=hiff.2 ⟨o,g,fun h=>e h.1⟩
          rw [← ip] at e
          clear hb hno hE q1 q3 hiff c5 hsw
          (refine jW hqE c1 c2 c3 ?_;repeat' first|apply ai|refine aj fun hc=>?_|((first|apply aO rfl|apply aP rfl|apply aQ rfl|apply aR rfl);(focus ((try (apply b8;(focus rfl);apply ah rfl rfl rfl rfl rfl));first|((apply bn 5;(focus rfl);first|exact bg ⟨rfl,rfl,rfl⟩ rfl inferInstance inferInstance rfl rfl rfl rfl|exact bh ⟨rfl,rfl,rfl⟩ rfl inferInstance inferInstance rfl rfl rfl rfl))));refine jW hqE c1 c2 c3 ?_))
          all_goals first|(exfalso;simp_all;done)|skip
          refine ⟨q + 1 + 1,⟨by omega,fe h2 hok⟩,by omega,?_⟩
          exact ae
        ·have hb0:=hno (fun h=>g (hiff.1 h).2.1)
         rw [decide_eq_true (by omega)] at c3
         subst hb0
         clear hb hno h2 hE q1 q3 hiff hsw
         (refine fc hqE c1 c2 c3 c5 ?_;repeat' first|apply ai|refine aj fun hc=>?_|((first|apply aO rfl|apply aP rfl|apply aQ rfl|apply aR rfl);(focus ((try (apply b8;(focus rfl);apply ah rfl rfl rfl rfl rfl));first|((apply bn 5;(focus rfl);first|exact bg ⟨rfl,rfl,rfl⟩ rfl inferInstance inferInstance rfl rfl rfl rfl|exact bh ⟨rfl,rfl,rfl⟩ rfl inferInstance inferInstance rfl rfl rfl rfl))));refine fc hqE c1 c2 c3 c5 ?_))
         all_goals first|(exfalso;simp_all;done)|skip
         refine aU ?_
         exact af rfl rfl
      ·have hok:rY k z:=fun _=>⟨q1,hE.2 q2,q3,fun h=>absurd h h0⟩
       obtain rfl:z = 0:=by omega
       clear hb hno hE q1 q3
       (refine aL c1 c2 ?_;repeat' first|apply ai|refine aj fun hc=>?_|((first|apply aO rfl|apply aP rfl|apply aQ rfl|apply aR rfl);(focus ((try (apply b8;(focus rfl);apply ah rfl rfl rfl rfl rfl));first|((apply bn 5;(focus rfl);first|exact bg ⟨rfl,rfl,rfl⟩ rfl inferInstance inferInstance rfl rfl rfl rfl|exact bh ⟨rfl,rfl,rfl⟩ rfl inferInstance inferInstance rfl rfl rfl rfl))));refine aL c1 c2 ?_))
       refine ⟨0 + 1,⟨by omega,fe h2 hok⟩,by omega,?_⟩
       exact ae
     ·rw [decide_eq_false q3] at c2
      have hb0:=hno (fun h=>q3 (h hz).2.2.1)
      subst hb0
      clear hb hno h2 hE q1 q3
      (refine aL c1 c2 ?_;repeat' first|apply ai|refine aj fun hc=>?_|((first|apply aO rfl|apply aP rfl|apply aQ rfl|apply aR rfl);(focus ((try (apply b8;(focus rfl);apply ah rfl rfl rfl rfl rfl));first|((apply bn 5;(focus rfl);first|exact bg ⟨rfl,rfl,rfl⟩ rfl inferInstance inferInstance rfl rfl rfl rfl|exact bh ⟨rfl,rfl,rfl⟩ rfl inferInstance inferInstance rfl rfl rfl rfl))));refine aL c1 c2 ?_))
      refine aU ?_
      exact af rfl rfl
   ·rw [Bool.not_eq_true] at q1
    rw [q1] at c1
    have hb0:=hno (fun h=>by have:=(h hz).1;rw [q1] at this;cases this)
    subst hb0
    clear hb hno h2 hE q1
    (refine aL c1 c2 ?_;repeat' first|apply ai|refine aj fun hc=>?_|((first|apply aO rfl|apply aP rfl|apply aQ rfl|apply aR rfl);(focus ((try (apply b8;(focus rfl);apply ah rfl rfl rfl rfl rfl));first|((apply bn 5;(focus rfl);first|exact bg ⟨rfl,rfl,rfl⟩ rfl inferInstance inferInstance rfl rfl rfl rfl|exact bh ⟨rfl,rfl,rfl⟩ rfl inferInstance inferInstance rfl rfl rfl rfl))));refine aL c1 c2 ?_))
    refine aU ?_
    exact af rfl rfl
  ·have hb1:b = true:=hb.2 (fun i hi=>h2 i (by omega))
   subst hb1
   clear hb h2
   (refine w0 ?_;repeat' first|apply ai|refine aj fun hc=>?_)
   refine aU ?_
   exact af rfl rfl
theorem Bl (l m:List Pc) (hl:fH l):Fn Tryz.prog 51 [bV l,bV m] (cw (decide (l = m))):=by
 have hl0:=hl.1
 refine fi Tryz.func51 Tryz.ntmps51 ?_
 (refine w0 ?_;repeat' first|apply ai|refine aj fun hc=>?_)
 ·refine aU ?_
  exact af rfl (by symm;rw [decide_eq_false_iff_not];intro h;subst h;omega)
 have hlm:l.length = m.length:=by omega
 refine an (fun k=>k ≤ l.length ∧ l.take k = m.take k) (fun k=>ba [(0,bV l),(1,bV m),(4,bC false),(5,iC .i64 (k:Nat))] []) (fun k=>l.length - k) 0 ⟨Nat.zero_le _,rfl⟩ ?_ ?_
 ·exact ae
 ·rintro k ⟨hk,hpre⟩
  by_cases hlt:k < l.length
  ·have hltm:k < m.length:=by omega
   have c1:=oJ l[k].set m[k].set (hl.at hlt).sz
   have hEo:=Hl l[k].rg m[k].rg
   by_cases h1:l[k].rg = m[k].rg
   ·rw [(oG _ _).2 h1] at hEo
    by_cases h2:l[k].set = m[k].set
    ·rw [decide_eq_true h2] at c1
     have hlm1:l[k] = m[k]:=by
      cases hx:l[k];cases hy:m[k]
      rw [hx,hy] at h1 h2
      simp only at h1 h2
      rw [h1,h2]
     clear h2 h1
     (refine az c1 ?_;repeat' first|apply ai|refine aj fun hc=>?_|((first|apply aO rfl|apply aP rfl|apply aQ rfl|apply aR rfl);(focus ((try (apply b8;(focus rfl);apply ah rfl rfl rfl rfl rfl));first|(exact dR (us:=encRg l[k].rg) (vs:=encRg m[k].rg) ⟨rfl,rfl,rfl⟩ rfl rfl rfl (by first|exact .inl ⟨rfl,rfl⟩|exact .inr ⟨rfl,rfl⟩) NF rfl hEo)|((apply bn 5;(focus rfl);first|exact bg ⟨rfl,rfl,rfl⟩ rfl inferInstance inferInstance rfl rfl rfl rfl|exact bh ⟨rfl,rfl,rfl⟩ rfl inferInstance inferInstance rfl rfl rfl rfl))));refine az c1 ?_))
     refine ⟨k + 1,⟨by omega,?_⟩,by omega,?_⟩
     ·rw [aJ l k hlt,aJ m k hltm,hpre,hlm1]
     ·exact ae
    ·rw [decide_eq_false h2] at c1
     have hd:¬ l = m:=fun h=>h2 (by subst h;rfl)
     rw [decide_eq_false hd]
     clear h1 h2 hd
     (refine az c1 ?_;repeat' first|apply ai|refine aj fun hc=>?_|((first|apply aO rfl|apply aP rfl|apply aQ rfl|apply aR rfl);(focus ((try (apply b8;(focus rfl);apply ah rfl rfl rfl rfl rfl));first|(exact dR (us:=encRg l[k].rg) (vs:=encRg m[k].rg) ⟨rfl,rfl,rfl⟩ rfl rfl rfl (by first|exact .inl ⟨rfl,rfl⟩|exact .inr ⟨rfl,rfl⟩) NF rfl hEo)|((apply bn 5;(focus rfl);first|exact bg ⟨rfl,rfl,rfl⟩ rfl inferInstance inferInstance rfl rfl rfl rfl|exact bh ⟨rfl,rfl,rfl⟩ rfl inferInstance inferInstance rfl rfl rfl rfl))));refine az c1 ?_))
     refine aU ?_
     exact af rfl rfl
   ·have hd:¬ l = m:=fun h=>h1 (by subst h;rfl)
    rw [decide_eq_false hd]
    have he:OS l[k].rg m[k].rg = false:=by rw [← Bool.not_eq_true,oG];exact h1
    rw [he] at hEo
    clear hd h1 he
    (refine az c1 ?_;repeat' first|apply ai|refine aj fun hc=>?_|((first|apply aO rfl|apply aP rfl|apply aQ rfl|apply aR rfl);(focus ((try (apply b8;(focus rfl);apply ah rfl rfl rfl rfl rfl));first|(exact dR (us:=encRg l[k].rg) (vs:=encRg m[k].rg) ⟨rfl,rfl,rfl⟩ rfl rfl rfl (by first|exact .inl ⟨rfl,rfl⟩|exact .inr ⟨rfl,rfl⟩) NF rfl hEo)|((apply bn 5;(focus rfl);first|exact bg ⟨rfl,rfl,rfl⟩ rfl inferInstance inferInstance rfl rfl rfl rfl|exact bh ⟨rfl,rfl,rfl⟩ rfl inferInstance inferInstance rfl rfl rfl rfl))));refine az c1 ?_))
    refine aU ?_
    exact af rfl rfl
  ·rw [List.take_of_length_le (by omega),List.take_of_length_le (by omega)] at hpre
   rw [decide_eq_true hpre]
   clear hpre
   (refine w0 ?_;repeat' first|apply ai|refine aj fun hc=>?_)
   refine aU ?_
   exact af rfl rfl
def qH (p:Pc):Bool:=decide (p.rg.lo.size > 40) || decide (p.rg.hi.size > 40) || gp p.set 16
def eA (l:List Pc) (most:Int):Bool:=decide ((l.length:Int) > most) || l.any qH
theorem nM (l:List Pc) (most:Int) (hl:most ≤ 1000000000000):Fn Tryz.prog 8 [bV l,iC .i64 most] (cw (eA l most)):=by
 refine fi Tryz.func8 Tryz.ntmps8 ?_
 (refine w0 ?_;repeat' first|apply ai|refine aj fun hc=>?_)
 ·refine aU ?_
  exact af rfl (by unfold eA;rw [decide_eq_true hc];rfl)
 refine an (fun k=>k ≤ l.length ∧ (l.take k).any qH = false) (fun k=>ba [(0,bV l),(1,iC .i64 most),(4,bC false),(5,iC .i64 (k:Nat))] []) (fun k=>l.length - k) 0 ⟨Nat.zero_le _,by simp⟩ ?_ ?_
 ·exact ae
 ·rintro k ⟨hk,hpre⟩
  by_cases hlt:k < l.length
  ·have hsn:(l.take (k + 1)).any qH = ((l.take k).any qH || qH l[k]):=by rw [aJ l k hlt,List.any_append];simp
   have hyes:qH l[k] = true → eA l most = true:=fun hq=>by unfold eA;rw [Bool.or_eq_true,List.any_eq_true];exact .inr ⟨l[k],List.getElem_mem hlt,hq⟩
   have c1:=Hw l[k].set 16 (by decide)
   by_cases q1:l[k].rg.lo.size > 40
   ·have hd:=hyes (by simp [qH,q1])
    rw [hd]
    clear hd hsn hpre hyes
    (refine az c1 ?_;repeat' first|apply ai|refine aj fun hc=>?_)
    refine aU ?_
    exact af rfl rfl
   ·by_cases q2:l[k].rg.hi.size > 40
    ·have hd:=hyes (by simp [qH,q2])
     rw [hd]
     clear hd hsn hpre hyes
     (refine az c1 ?_;repeat' first|apply ai|refine aj fun hc=>?_)
     refine aU ?_
     exact af rfl rfl
    ·cases q3:gp l[k].set 16 with
     | true=>
      have hd:=hyes (by simp [qH,q3])
      rw [hd]
      rw [q3] at c1
      clear hd hsn hpre hyes
      (refine az c1 ?_;repeat' first|apply ai|refine aj fun hc=>?_)
      refine aU ?_
      exact af rfl rfl
     | false=>
      have hf:qH l[k] = false:=by simp [qH,q1,q2,q3]
      rw [hpre,hf] at hsn
      rw [q3] at c1
      clear hpre hyes hf
      (refine az c1 ?_;repeat' first|apply ai|refine aj fun hc=>?_)
      refine ⟨k + 1,⟨by omega,hsn⟩,by omega,?_⟩
      exact ae
  ·have e:l.take k = l:=List.take_of_length_le (by omega)
   rw [e] at hpre
   have hd:eA l most = false:=by unfold eA;rw [hpre,Bool.or_false,decide_eq_false_iff_not];assumption
   rw [hd]
   clear hd hpre e
   (refine w0 ?_;repeat' first|apply ai|refine aj fun hc=>?_)
   refine aU ?_
   exact af rfl rfl
theorem Bm {l:List Pc} {most:Int} (h:eA l most = false):(l.length:Int) ≤ most ∧ ∀ p ∈ l,p.rg.lo.size ≤ 40 ∧ p.rg.hi.size ≤ 40 ∧ gp p.set 16 = false:=by
 unfold eA at h
 rw [Bool.or_eq_false_iff,decide_eq_false_iff_not] at h
 refine ⟨by omega,fun p hp=>?_⟩
 have:=List.any_eq_false.1 h.2 p hp
 simp [qH] at this
 exact ⟨by omega,by omega,this.2⟩
end
section
end
section
end
end Go.Proofs.YtliiahjpiagdkaaGreat
namespace Go.Proofs.YtliiahjpiagdkaaGreat
theorem nN (s:List Kn) {r:Nat} (hr:r < 16):aK (ff ofR s) r = ofR (aK s r):=by
 have h:=nJ s
 have h1:=b9 (ff ofR s) hr
 rw [h,List.getElem?_map,b9 _ hr] at h1
 exact (Option.some.inj h1).symm
theorem pT (a b:List Kn) (r:Nat):aK (a ++ b) r = aK a r ++ aK b r:=by unfold aK;rw [List.flatMap_append]
theorem wa (a b:List Pc) (s:ByteArray):iW (a ++ b) s = ff ofR (iW a s ++ iW b s):=by
 rw [← CM]
 have:=yB (iW a s) (iW b s)
 rw [kO (pN a s),kO (pN b s)] at this
 exact this
end Go.Proofs.YtliiahjpiagdkaaGreat
