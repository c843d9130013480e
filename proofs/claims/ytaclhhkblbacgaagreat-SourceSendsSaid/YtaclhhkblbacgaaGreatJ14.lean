/- Texts joined: Kw AbsZ Kw2 Law16 Kk. -/
import Derived.Test.YtaclhhkblbacgaaGreatJ13
set_option maxRecDepth 10000
set_option maxHeartbeats 8000000
namespace Go.Proofs.YtaclhhkblbacgaaGreat
open Go.RowKit Go.Proofs.Tryz
variable {k:Nat}
theorem Iy:∀a b:List UInt8,dr b a = - dr a b:=by
 intro a
 induction a with
 | nil=>intro b;cases b<;>rfl
 | cons x a ih=>
  intro b
  cases b with
  | nil=>rfl
  | cons y b=>
   simp only[dr]
   by_cases h1:x.toNat<y.toNat
   ·rw[V3 (show ¬y.toNat<x.toNat by omega),V6 h1,V6 h1];rfl
   ·by_cases h2:y.toNat<x.toNat
    ·rw[V6 h2,V3 h1,V6 h2]
    ·rw[V3 h2,V3 h1,V3 h1,V3 h2,ih]
theorem Iz (s t:ByteArray):cP t s = - cP s t:=Iy _ _
def fe (k:List Pc):Prop:=k.length≤1000000000∧∀p∈k,dx p.set
theorem fe.at {k:List Pc}(h:fe k){i:Nat}(hi:i<k.length):dx k[i].set:=h.2 _ (Wk hi)
def iW (a b:Rg):Bool:=!a.op&&decide (a.hi=b.lo)
theorem pL (a b:Rg):Fn prog 148 [LC a,LC b] (dq (iW a b)):=by
 obtain⟨lo,hi,op⟩:=a
 obtain⟨lo',hi',op'⟩:=b
 show Fn prog _ [.per (cB [ak (.string lo),ak (.string hi),ak (.bool op)]),.per (cB [ak (.string lo'),ak (.string hi'),ak (.bool op')])] _
 cases op with
 | true=>
  refine fi func148 ntmps148 ?_
  (refine w0 ?_)
  exact dp
 | false=>
  refine fi func148 ntmps148 ?_
  (refine w0 ?_)
  refine dw ?_
  exact aL rfl (by unfold iW;rw[Wo];simp[g9])
theorem iv (k:List Pc)(hk:fe k)(b:Bool)(hb:b=true↔aX k):Fn prog 82 [dC k] (dq b):=by
 have hl0:=hk.1
 refine fi func82 ntmps82 ?_
 (refine w0 ?_)
 refine aj (X:=Nat) (fun z=>z≤k.length∧∀i,i<z→uL k i)
  (fun z=>ay [(0,dC k),(6,dC k),(7,iC .i64 (k.length:Nat)),(8,iC .i64 (z:Nat))] []) (fun z=>k.length-z) 0 ⟨Wa _,fun i h=>absurd h (W4 _)⟩ ?_
 rintro z ⟨h1,h2⟩
 by_cases hz:z<k.length
 ·have c1:=ir k[z].rg
  have c2:=LX k[z].set (hk.at hz).sz (decide (cu k[z].set)) au
  have hE:k[z].set≠[]↔¬k[z].set.length=0:=au
  have hno:¬uL k z→b=false:=fun h=>by rw[←Wy,hb];exact fun q=>h (q z hz)
  by_cases q1:fX k[z].rg=true
  ·rw[q1]at c1
   by_cases q2:k[z].set.length=0
   ·have hb0:=hno (fun h=>absurd q2 (hE.1 (h hz).2.1))
    subst hb0
    clear hb hno h2 hE q1
    (refine bg c1 c2 ?_;repeat' first|apply ah|refine ai fun hc=>?_)
    exact dp
   ·by_cases q3:cu k[z].set
    ·rw[Wb q3]at c2
     by_cases h0:0<z
     ·obtain⟨q,rfl⟩:∃q,z=q+1:=⟨z-1,ab⟩
      have hqE:((q+1:Nat):Int)-1=(q:Nat):=ab
      have hq:=(h2 q ab) ab
      have hrq:=(b0 _).1 hq.1
      have c3:=ii k[q].rg.hi k[q+1].rg.lo ab
      have c4:=pL k[q].rg k[q+1].rg
      have c5:=pK k[q].set k[q+1].set (hk.at ab) (hk.at hz) hq.2.2.1 q3
      have hiff:uL k (q+1)↔k[q].rg.op=false∧cP k[q].rg.hi k[q+1].rg.lo≤0∧¬(k[q].rg.hi=k[q+1].rg.lo∧k[q].set=k[q+1].set):=
       ⟨fun h=>(h hz).2.2.2 ab,fun h _=>⟨q1,hE.2 q2,q3,fun _=>h⟩⟩
      clear hq hrq
      have hE2:((k[q+1].set.length:Nat):Int)≠0:=ab
      cases o:k[q].rg.op with
      | true=>
       have hb0:=hno (fun h=>by have:=(hiff.1 h).1;rw[o]at this;cases this)
       subst hb0
       clear hb hno h2 hE q1 q3 hiff
       (refine ou hqE c1 c2 c3 c4 c5 ?_;repeat' first|apply ah|refine ai fun hc=>?_)
       all_goals first|(exfalso;simp_all;done)|skip
       exact dp
      | false=>
       by_cases g:cP k[q].rg.hi k[q+1].rg.lo≤0
       ·by_cases e:k[q].rg.hi=k[q+1].rg.lo
        ·have ht:iW k[q].rg k[q+1].rg=true:=by simp[iW,o,e]
         rw[ht]at c4
         by_cases s:k[q].set=k[q+1].set
         ·rw[Wb s]at c5
          have hb0:=hno (fun h=>(hiff.1 h).2.2 ⟨e,s⟩)
          subst hb0
          clear hb hno h2 hE q1 q3 hiff s ht e
          (refine ou hqE c1 c2 c3 c4 c5 ?_;repeat' first|apply ah|refine ai fun hc=>?_)
          all_goals first|(exfalso;simp_all;done)|skip
          exact dp
         ·rw[Wj s]at c5
          have hok:=hiff.2 ⟨o,g,fun h=>s h.2⟩
          clear hb hno hE q1 q3 hiff s ht e
          (refine ou hqE c1 c2 c3 c4 c5 ?_;repeat' first|apply ah|refine ai fun hc=>?_)
          all_goals first|(exfalso;simp_all;done)|skip
          refine⟨q+1+1,⟨ab,gR h2 hok⟩,ab,?_⟩
          exact ae
        ·have ht:iW k[q].rg k[q+1].rg=false:=by simp[iW,o,e]
         rw[ht]at c4
         have hok:=hiff.2 ⟨o,g,fun h=>e h.1⟩
         clear hb hno hE q1 q3 hiff ht e c5
         (refine gP hqE c1 c2 c3 c4 ?_;repeat' first|apply ah|refine ai fun hc=>?_)
         all_goals first|(exfalso;simp_all;done)|skip
         refine⟨q+1+1,⟨ab,gR h2 hok⟩,ab,?_⟩
         exact ae
       ·have hb0:=hno (fun h=>g (hiff.1 h).2.1)
        subst hb0
        clear hb hno h2 hE q1 q3 hiff
        (refine ou hqE c1 c2 c3 c4 c5 ?_;repeat' first|apply ah|refine ai fun hc=>?_)
        all_goals first|(exfalso;simp_all;done)|skip
        exact dp
     ·have hok:uL k z:=fun _=>⟨q1,hE.2 q2,q3,fun h=>absurd h h0⟩
      obtain rfl:z=0:=ab
      clear hb hno hE q1 q3
      (refine bg c1 c2 ?_;repeat' first|apply ah|refine ai fun hc=>?_)
      refine⟨0+1,⟨ab,gR h2 hok⟩,ab,?_⟩
      exact ae
    ·rw[Wj q3]at c2
     have hb0:=hno (fun h=>q3 (h hz).2.2.1)
     subst hb0
     clear hb hno h2 hE q1 q3
     (refine bg c1 c2 ?_;repeat' first|apply ah|refine ai fun hc=>?_)
     exact dp
  ·rw[Wy]at q1
   rw[q1]at c1
   have hb0:=hno (fun h=>by have:=(h hz).1;rw[q1]at this;cases this)
   subst hb0
   clear hb hno h2 hE q1
   (refine bg c1 c2 ?_;repeat' first|apply ah|refine ai fun hc=>?_)
   exact dp
 ·have hb1:b=true:=hb.2 (fun i hi=>h2 i ab)
  subst hb1
  clear hb h2
  (refine w0 ?_;repeat' first|apply ah|refine ai fun hc=>?_)
  exact dp
section
variable {P:Program} {n:Nat} {ops:Array Oper} {o:Oper} {S:St} {t:Nat}
theorem uV {cs:List PV}{N:BP}{w:World}{f:Nat→Option Value}(h:∀(j:Nat)(A:PV),cs[j]?=some A→∃y,f j=some y∧y.oneCell'=true∧A.p N w y) :
 ∀(j:Nat)(A:PV),(cs.take k)[j]?=some A→∃y,f j=some y∧y.oneCell'=true∧A.p N w y:=fun j A hj=>by
 rw[WI]at hj
 split at hj
 ·exact h j A hj
 ·cases hj
theorem bO {ty:TypeId}{x:Operand}{cs As:List PV}(hp:Pl n o t)(ho:o.op=.load ty x)(hT:dZ P ty true)(hk:gN P ty k)(h0:Nat.blt 0 k=true)(hx:S.opd x=.bpt cs)(hl:Nat.ble k cs.length=true)(hc:cs.take k=As) :
 aw n P ops o (az x) (.per (cB As)) [] S:=
 aV hp fun C T g a w hAg hR=>by
  obtain⟨d,hT,hd⟩:=hT.h
  have h:=aG (x:=x) hAg (fun k h=>h) hR
  rw[hx]at h
  obtain⟨b,of,hv,hb,hn,hcs⟩:=h
  obtain⟨vs,g1,g2,g3⟩:=dY (cs.take k) (uV hcs)
  subst hc
  have hkl:=Wc hl
  have h0:=Wc h0
  have hlen:(cs.take k).length=k:=by rw[WA];omega
  refine⟨.agg vs.toArray,?_,⟨vs.toArray,rfl,g3⟩⟩
  simp only[execOp,ho,hv,Sem.run_bind,fg hT hd (by rw[hk.h,g1,hlen]) ab g2];rfl
theorem bP {ty:TypeId}{x:Operand}{cs As:List PV}(hp:Pl n o t)(ho:o.op=.load ty x)(hT:dZ P ty true)(hk:gN P ty k)(h0:Nat.blt 0 k=true)(hx:S.opd x=.per (fM cs))(hl:Nat.ble k cs.length=true)(hc:cs.take k=As) :
 aw n P ops o (az x) (.per (cB As)) [] S:=
 aV hp fun C T g a w hAg hR=>by
  obtain⟨d,hT,hd⟩:=hT.h
  have h:=aG (x:=x) hAg (fun k h=>h) hR
  rw[hx]at h
  obtain⟨b,of,hv,hb,hn,hcs⟩:=h
  obtain⟨vs,g1,g2,g3⟩:=dY (cs.take k) (uV hcs)
  subst hc
  have hkl:=Wc hl
  have h0:=Wc h0
  have hlen:(cs.take k).length=k:=by rw[WA];omega
  refine⟨.agg vs.toArray,?_,⟨vs.toArray,rfl,g3⟩⟩
  simp only[execOp,ho,hv,Sem.run_bind,fg hT hd (by rw[hk.h,g1,hlen]) ab g2];rfl
end
theorem dh.frz3 {P:Program}{f:FuncId}{As:List Cnt}{pre:List (Nat×Blk)}{B:Blk}{e:Nat}{es:List (List PV)}(h:dh P f As pre (.row 3000 0) [(1000,B),(3000,.row e k es)]) :
 dh P f As pre (.per (cA k es)) [(1000,B)]:=by
 refine⟨h.ent,fun C w vs hw hN hd hl ha hp=>(h.run C w vs hw hN hd hl ha hp).mono ?_⟩
 rintro ex w' ⟨v,g',he,hF,hv,hB⟩
 subst hw
 let g'':Gh:=⟨fun b=>if g'.ow b=some 3000 then none else g'.ow b,g'.ph,g'.rh⟩
 have hg:∀b,g''.ow b=if g'.ow b=some 3000 then none else g'.ow b:=fun _=>rfl
 have hst:pa C (fun i=>i=3000) z0 z0 g' g'' w' w':=by
  refine⟨V8 _,fun _ _ _=>rfl,fun b _ hn=>by rw[hg,V3 (hn 3000 rfl)],fun b _ hn=>?_,fun b i e=>?_,fun _=>.inl rfl,fun _ _=>⟨rfl,rfl⟩,fun _ _=>⟨rfl,rfl⟩,rfl,rfl,rfl⟩
  ·rw[hg]at hn
   by_cases q:g'.ow b=some 3000
   ·rw[q];simp
   ·rwa [V3 q]at hn
  ·rw[hg]at e
   by_cases q:g'.ow b=some 3000
   ·rw[V6 q]at e;cases e
   ·rw[V3 q]at e;exact hF.dom b i e
 refine⟨v,g'',he,⟨hF.os,hF.tape,hF.output,hF.size,hF.old,fun b id e=>hst.dom b id e,hF.keep⟩,?_,fun id=>?_⟩
 ·have hrow:=hB 3000
  have hval:v=g'.rh 3000:=hv.2 rfl
  rw[hval]
  show eH (g''.N C) (g''.N C) k es w' (g'.rh 3000)
  rcases(show brep C z0 g' w' 3000 (.row e k es)from hrow)with⟨q1,rfl⟩|⟨cap,cs,q1,q2,q3,q4,q5,q6,q7⟩
  ·exact⟨none,0,0,0,by rw[q1];rfl,au,bz,fun _=>rfl,au,fun i cs hi=>by simp at hi⟩
  ·have hdm:=hF.dom _ _ q3
   refine⟨_,cap,g'.ph 3000,0,q1,q4,q5,au,fun _=>⟨rfl,hdm.1,fun hn=>?_⟩,fun i ps hi=>?_⟩
   ·rcases hn with hn|hn
    ·have h1:=hN _ hn
     rcases hdm.2 with q|q
     ·omega
     ·exact h1.2 q
    ·rw[hg,V6 q3]at hn;exact hn rfl
   ·obtain⟨r1,r2⟩:=q7 i ps hi
    refine⟨r1,fun j A hj=>?_⟩
    obtain⟨y,s1,s2,s3⟩:=r2 j A hj
    exact⟨y,by rw[WF,eo q2];exact s1,s2,A.mono (V8 _) (fun _ _ _=>rfl) hst.n s3⟩
 ·have hid:=hB id
  unfold eO
  cases hb:Nat.beq id 1000 with
  | false=>trivial
  | true=>
   obtain rfl:=bq.1 hb
   exact hst.brep (fun b i e=>(hF.dom b i e).1) (fun h=>by cases h) (show brep C z0 g' w' 1000 B from hid)
theorem ld (k:List Pc)(hk:fe k)(b:Bool)(hb:b=true↔aX k):Fn prog 27 [dC k] (dq b):=by
 have hl0:=hk.1
 refine fi func27 ntmps27 ?_
 (refine w0 ?_)
 refine aj (X:=Nat) (fun z=>z≤k.length∧∀i,i<z→uL k i)
  (fun z=>ay [(0,dC k),(3,iC .i64 (z:Nat))] []) (fun z=>k.length-z) 0 ⟨Wa _,fun i h=>absurd h (W4 _)⟩ ?_
 rintro z ⟨h1,h2⟩
 by_cases hz:z<k.length
 ·have c1:=jS k[z].rg
  have c2:=Ir k[z].set (hk.at hz).sz (decide (cu k[z].set)) au
  have hE:k[z].set≠[]↔¬k[z].set.length=0:=au
  have hno:¬uL k z→b=false:=fun h=>by rw[←Wy,hb];exact fun q=>h (q z hz)
  by_cases q1:fX k[z].rg=true
  ·rw[q1]at c1
   by_cases q2:k[z].set.length=0
   ·have hb0:=hno (fun h=>absurd q2 (hE.1 (h hz).2.1))
    subst hb0
    clear hb hno h2 hE q1
    (refine bg c1 c2 ?_;repeat' first|apply ah|refine ai fun hc=>?_|((first|apply aB rfl|apply aC rfl|apply aD rfl|apply aF rfl);(focus ((try (apply bI;(focus rfl);apply ag rfl rfl rfl rfl rfl));first|((apply aZ 5;(focus rfl);first|exact bO ⟨rfl,rfl,rfl⟩ rfl inferInstance inferInstance rfl rfl rfl rfl|exact bP ⟨rfl,rfl,rfl⟩ rfl inferInstance inferInstance rfl rfl rfl rfl))));refine bg c1 c2 ?_))
    exact dp
   ·by_cases q3:cu k[z].set
    ·rw[Wb q3]at c2
     by_cases h0:0<z
     ·obtain⟨q,rfl⟩:∃q,z=q+1:=⟨z-1,ab⟩
      have hqE:((q+1:Nat):Int)-1=(q:Nat):=ab
      have hq:=(h2 q ab) ab
      have hrq:=(b0 _).1 q1
      have c3:=jR k[q+1].rg.lo k[q].rg.hi ab
      have hsw:=Iz k[q].rg.hi k[q+1].rg.lo
      have c5:=qu k[q].set k[q+1].set (hk.at ab).sz
      have hiff:uL k (q+1)↔k[q].rg.op=false∧cP k[q].rg.hi k[q+1].rg.lo≤0∧¬(k[q].rg.hi=k[q+1].rg.lo∧k[q].set=k[q+1].set):=
       ⟨fun h=>(h hz).2.2.2 ab,fun h _=>⟨q1,hE.2 q2,q3,fun _=>h⟩⟩
      clear hq hrq
      have hE2:((k[q+1].set.length:Nat):Int)≠0:=ab
      cases o:k[q].rg.op with
      | true=>
       have hb0:=hno (fun h=>by have:=(hiff.1 h).1;rw[o]at this;cases this)
       subst hb0
       clear hb hno h2 hE q1 q3 hiff hsw
       (refine gP hqE c1 c2 c3 c5 ?_;repeat' first|apply ah|refine ai fun hc=>?_|((first|apply aB rfl|apply aC rfl|apply aD rfl|apply aF rfl);(focus ((try (apply bI;(focus rfl);apply ag rfl rfl rfl rfl rfl));first|((apply aZ 5;(focus rfl);first|exact bO ⟨rfl,rfl,rfl⟩ rfl inferInstance inferInstance rfl rfl rfl rfl|exact bP ⟨rfl,rfl,rfl⟩ rfl inferInstance inferInstance rfl rfl rfl rfl))));refine gP hqE c1 c2 c3 c5 ?_))
       all_goals first|(exfalso;simp_all;done)|skip
       exact dp
      | false=>
       by_cases g:cP k[q].rg.hi k[q+1].rg.lo≤0
       ·rw[Wj ab]at c3
        by_cases e:k[q].rg.hi=k[q+1].rg.lo
        ·by_cases s:k[q].set=k[q+1].set
         ·rw[Wb s]at c5
          have hb0:=hno (fun h=>(hiff.1 h).2.2 ⟨e,s⟩)
          subst hb0
          clear hb hno h2 hE q1 q3 hiff s hsw
          (refine gP hqE c1 c2 c3 c5 ?_;repeat' first|apply ah|refine ai fun hc=>?_|((first|apply aB rfl|apply aC rfl|apply aD rfl|apply aF rfl);(focus ((try (apply bI;(focus rfl);apply ag rfl rfl rfl rfl rfl));first|((apply aZ 5;(focus rfl);first|exact bO ⟨rfl,rfl,rfl⟩ rfl inferInstance inferInstance rfl rfl rfl rfl|exact bP ⟨rfl,rfl,rfl⟩ rfl inferInstance inferInstance rfl rfl rfl rfl))));refine gP hqE c1 c2 c3 c5 ?_))
          all_goals first|(exfalso;simp_all;done)|skip
          exact dp
         ·rw[Wj s]at c5
          have hok:=hiff.2 ⟨o,g,fun h=>s h.2⟩
          clear hb hno hE q1 q3 hiff s hsw
          (refine gP hqE c1 c2 c3 c5 ?_;repeat' first|apply ah|refine ai fun hc=>?_|((first|apply aB rfl|apply aC rfl|apply aD rfl|apply aF rfl);(focus ((try (apply bI;(focus rfl);apply ag rfl rfl rfl rfl rfl));first|((apply aZ 5;(focus rfl);first|exact bO ⟨rfl,rfl,rfl⟩ rfl inferInstance inferInstance rfl rfl rfl rfl|exact bP ⟨rfl,rfl,rfl⟩ rfl inferInstance inferInstance rfl rfl rfl rfl))));refine gP hqE c1 c2 c3 c5 ?_))
          all_goals first|(exfalso;simp_all;done)|skip
          refine⟨q+1+1,⟨ab,gR h2 hok⟩,ab,?_⟩
          exact ae
        ·have hok:=hiff.2 ⟨o,g,fun h=>e h.1⟩
         rw[←g9]at e
         clear hb hno hE q1 q3 hiff c5 hsw
         (refine ot hqE c1 c2 c3 ?_;repeat' first|apply ah|refine ai fun hc=>?_|((first|apply aB rfl|apply aC rfl|apply aD rfl|apply aF rfl);(focus ((try (apply bI;(focus rfl);apply ag rfl rfl rfl rfl rfl));first|((apply aZ 5;(focus rfl);first|exact bO ⟨rfl,rfl,rfl⟩ rfl inferInstance inferInstance rfl rfl rfl rfl|exact bP ⟨rfl,rfl,rfl⟩ rfl inferInstance inferInstance rfl rfl rfl rfl))));refine ot hqE c1 c2 c3 ?_))
         all_goals first|(exfalso;simp_all;done)|skip
         refine⟨q+1+1,⟨ab,gR h2 hok⟩,ab,?_⟩
         exact ae
       ·have hb0:=hno (fun h=>g (hiff.1 h).2.1)
        rw[Wb ab]at c3
        subst hb0
        clear hb hno h2 hE q1 q3 hiff hsw
        (refine gP hqE c1 c2 c3 c5 ?_;repeat' first|apply ah|refine ai fun hc=>?_|((first|apply aB rfl|apply aC rfl|apply aD rfl|apply aF rfl);(focus ((try (apply bI;(focus rfl);apply ag rfl rfl rfl rfl rfl));first|((apply aZ 5;(focus rfl);first|exact bO ⟨rfl,rfl,rfl⟩ rfl inferInstance inferInstance rfl rfl rfl rfl|exact bP ⟨rfl,rfl,rfl⟩ rfl inferInstance inferInstance rfl rfl rfl rfl))));refine gP hqE c1 c2 c3 c5 ?_))
        all_goals first|(exfalso;simp_all;done)|skip
        exact dp
     ·have hok:uL k z:=fun _=>⟨q1,hE.2 q2,q3,fun h=>absurd h h0⟩
      obtain rfl:z=0:=ab
      clear hb hno hE q1 q3
      (refine bg c1 c2 ?_;repeat' first|apply ah|refine ai fun hc=>?_|((first|apply aB rfl|apply aC rfl|apply aD rfl|apply aF rfl);(focus ((try (apply bI;(focus rfl);apply ag rfl rfl rfl rfl rfl));first|((apply aZ 5;(focus rfl);first|exact bO ⟨rfl,rfl,rfl⟩ rfl inferInstance inferInstance rfl rfl rfl rfl|exact bP ⟨rfl,rfl,rfl⟩ rfl inferInstance inferInstance rfl rfl rfl rfl))));refine bg c1 c2 ?_))
      refine⟨0+1,⟨ab,gR h2 hok⟩,ab,?_⟩
      exact ae
    ·rw[Wj q3]at c2
     have hb0:=hno (fun h=>q3 (h hz).2.2.1)
     subst hb0
     clear hb hno h2 hE q1 q3
     (refine bg c1 c2 ?_;repeat' first|apply ah|refine ai fun hc=>?_|((first|apply aB rfl|apply aC rfl|apply aD rfl|apply aF rfl);(focus ((try (apply bI;(focus rfl);apply ag rfl rfl rfl rfl rfl));first|((apply aZ 5;(focus rfl);first|exact bO ⟨rfl,rfl,rfl⟩ rfl inferInstance inferInstance rfl rfl rfl rfl|exact bP ⟨rfl,rfl,rfl⟩ rfl inferInstance inferInstance rfl rfl rfl rfl))));refine bg c1 c2 ?_))
     exact dp
  ·rw[Wy]at q1
   rw[q1]at c1
   have hb0:=hno (fun h=>by have:=(h hz).1;rw[q1]at this;cases this)
   subst hb0
   clear hb hno h2 hE q1
   (refine bg c1 c2 ?_;repeat' first|apply ah|refine ai fun hc=>?_|((first|apply aB rfl|apply aC rfl|apply aD rfl|apply aF rfl);(focus ((try (apply bI;(focus rfl);apply ag rfl rfl rfl rfl rfl));first|((apply aZ 5;(focus rfl);first|exact bO ⟨rfl,rfl,rfl⟩ rfl inferInstance inferInstance rfl rfl rfl rfl|exact bP ⟨rfl,rfl,rfl⟩ rfl inferInstance inferInstance rfl rfl rfl rfl))));refine bg c1 c2 ?_))
   exact dp
 ·have hb1:b=true:=hb.2 (fun i hi=>h2 i ab)
  subst hb1
  clear hb h2
  (refine w0 ?_;repeat' first|apply ah|refine ai fun hc=>?_)
  exact dp
theorem Ex (l m:List Pc)(hl:fe l):Fn prog 28 [dC l,dC m] (dq (decide (l=m))):=by
 have hl0:=hl.1
 refine fi func28 ntmps28 ?_
 (refine w0 ?_;repeat' first|apply ah|refine ai fun hc=>?_)
 ·refine dw ?_
  exact aL rfl (by symm;rw[Wt];intro h;subst h;omega)
 have hlm:l.length=m.length:=ab
 refine aj (fun k=>k≤l.length∧l.take k=m.take k) (fun k=>ay [(0,dC l),(1,dC m),(4,bC false),(5,iC .i64 (k:Nat))] []) (fun k=>l.length-k) 0 ⟨Wa _,rfl⟩ ?_
 rintro k ⟨hk,hpre⟩
 by_cases hlt:k<l.length
 ·have hltm:k<m.length:=ab
  have c1:=qu l[k].set m[k].set (hl.at hlt).sz
  have hEo:=LD l[k].rg m[k].rg
  by_cases h1:l[k].rg=m[k].rg
  ·rw[(qq _ _).2 h1]at hEo
   by_cases h2:l[k].set=m[k].set
   ·rw[Wb h2]at c1
    have hlm1:l[k]=m[k]:=by
     cases hx:l[k];cases hy:m[k]
     rw[hx,hy]at h1 h2
     simp only at h1 h2
     rw[h1,h2]
    clear h2 h1
    (refine aq c1 ?_;repeat' first|apply ah|refine ai fun hc=>?_|((first|apply aB rfl|apply aC rfl|apply aD rfl|apply aF rfl);(focus ((try (apply bI;(focus rfl);apply ag rfl rfl rfl rfl rfl));first|(exact gX (us:=encRg l[k].rg) (vs:=encRg m[k].rg) ⟨rfl,rfl,rfl⟩ rfl rfl rfl (by first|exact .inl ⟨rfl,rfl⟩|exact .inr ⟨rfl,rfl⟩) Sv rfl hEo)|((apply aZ 5;(focus rfl);first|exact bO ⟨rfl,rfl,rfl⟩ rfl inferInstance inferInstance rfl rfl rfl rfl|exact bP ⟨rfl,rfl,rfl⟩ rfl inferInstance inferInstance rfl rfl rfl rfl))));refine aq c1 ?_))
    refine⟨k+1,⟨ab,?_⟩,ab,?_⟩
    ·rw[bc l k hlt,bc m k hltm,hpre,hlm1]
    ·exact ae
   ·rw[Wj h2]at c1
    have hd:¬l=m:=fun h=>h2 (by subst h;rfl)
    rw[Wj hd]
    clear h1 h2 hd
    (refine aq c1 ?_;repeat' first|apply ah|refine ai fun hc=>?_|((first|apply aB rfl|apply aC rfl|apply aD rfl|apply aF rfl);(focus ((try (apply bI;(focus rfl);apply ag rfl rfl rfl rfl rfl));first|(exact gX (us:=encRg l[k].rg) (vs:=encRg m[k].rg) ⟨rfl,rfl,rfl⟩ rfl rfl rfl (by first|exact .inl ⟨rfl,rfl⟩|exact .inr ⟨rfl,rfl⟩) Sv rfl hEo)|((apply aZ 5;(focus rfl);first|exact bO ⟨rfl,rfl,rfl⟩ rfl inferInstance inferInstance rfl rfl rfl rfl|exact bP ⟨rfl,rfl,rfl⟩ rfl inferInstance inferInstance rfl rfl rfl rfl))));refine aq c1 ?_))
    exact dp
  ·have hd:¬l=m:=fun h=>h1 (by subst h;rfl)
   rw[Wj hd]
   have he:TA l[k].rg m[k].rg=false:=by rw[←Wy,qq];exact h1
   rw[he]at hEo
   clear hd h1 he
   (refine aq c1 ?_;repeat' first|apply ah|refine ai fun hc=>?_|((first|apply aB rfl|apply aC rfl|apply aD rfl|apply aF rfl);(focus ((try (apply bI;(focus rfl);apply ag rfl rfl rfl rfl rfl));first|(exact gX (us:=encRg l[k].rg) (vs:=encRg m[k].rg) ⟨rfl,rfl,rfl⟩ rfl rfl rfl (by first|exact .inl ⟨rfl,rfl⟩|exact .inr ⟨rfl,rfl⟩) Sv rfl hEo)|((apply aZ 5;(focus rfl);first|exact bO ⟨rfl,rfl,rfl⟩ rfl inferInstance inferInstance rfl rfl rfl rfl|exact bP ⟨rfl,rfl,rfl⟩ rfl inferInstance inferInstance rfl rfl rfl rfl))));refine aq c1 ?_))
   exact dp
 ·rw[Wd ab,Wd ab]at hpre
  rw[Wb hpre]
  clear hpre
  (refine w0 ?_;repeat' first|apply ah|refine ai fun hc=>?_)
  exact dp
def sU (p:Pc):Bool:=decide (p.rg.lo.size>40)||decide (p.rg.hi.size>40)||iV p.set 16
def fZ (l:List Pc)(most:Int):Bool:=decide ((l.length:Int)>most)||l.any sU
theorem uW (l:List Pc)(most:Int)(hl:most≤1000000000000):Fn prog 24 [dC l,iC .i64 most] (dq (fZ l most)):=by
 refine fi func24 ntmps24 ?_
 (refine w0 ?_;repeat' first|apply ah|refine ai fun hc=>?_)
 ·refine dw ?_
  exact aL rfl (by unfold fZ;rw[Wb hc];rfl)
 refine aj (fun k=>k≤l.length∧(l.take k).any sU=false) (fun k=>ay [(0,dC l),(1,iC .i64 most),(4,bC false),(5,iC .i64 (k:Nat))] []) (fun k=>l.length-k) 0 ⟨Wa _,au⟩ ?_
 rintro k ⟨hk,hpre⟩
 by_cases hlt:k<l.length
 ·have hsn:(l.take (k+1)).any sU=((l.take k).any sU||sU l[k]):=by rw[bc l k hlt,List.any_append];simp
  have hyes:sU l[k]=true→fZ l most=true:=fun hq=>by unfold fZ;rw[WN,Xc];exact .inr ⟨l[k],Wk hlt,hq⟩
  have c1:=LY l[k].set 16 bz
  by_cases q1:l[k].rg.lo.size>40
  ·have hd:=hyes (by simp[sU,q1])
   rw[hd]
   clear hd hsn hpre hyes
   (refine aq c1 ?_;repeat' first|apply ah|refine ai fun hc=>?_)
   exact dp
  ·by_cases q2:l[k].rg.hi.size>40
   ·have hd:=hyes (by simp[sU,q2])
    rw[hd]
    clear hd hsn hpre hyes
    (refine aq c1 ?_;repeat' first|apply ah|refine ai fun hc=>?_)
    exact dp
   ·cases q3:iV l[k].set 16 with
    | true=>
     have hd:=hyes (by simp[sU,q3])
     rw[hd]
     rw[q3]at c1
     clear hd hsn hpre hyes
     (refine aq c1 ?_;repeat' first|apply ah|refine ai fun hc=>?_)
     exact dp
    | false=>
     have hf:sU l[k]=false:=by simp[sU,q1,q2,q3]
     rw[hpre,hf]at hsn
     rw[q3]at c1
     clear hpre hyes hf
     (refine aq c1 ?_;repeat' first|apply ah|refine ai fun hc=>?_)
     refine⟨k+1,⟨ab,hsn⟩,ab,?_⟩
     exact ae
 ·have e:l.take k=l:=Wd ab
  rw[e]at hpre
  have hd:fZ l most=false:=by unfold fZ;rw[hpre,Bool.or_false,Wt];assumption
  rw[hd]
  clear hd hpre e
  (refine w0 ?_;repeat' first|apply ah|refine ai fun hc=>?_)
  exact dp
theorem pM {l:List Pc}{most:Int}(h:fZ l most=false):(l.length:Int)≤most∧∀p∈l,p.rg.lo.size≤40∧p.rg.hi.size≤40∧iV p.set 16=false:=by
 unfold fZ at h
 rw[Xs,Wt]at h
 refine⟨ab,fun p hp=>?_⟩
 have:=List.any_eq_false.1 h.2 p hp
 simp[sU]at this
 exact⟨ab,ab,this.2⟩
theorem IA:∀(l:List Rn)(was:Int),0≤was→(∀r∈l,jk r=true)→(jV was l).length≤20*l.length:=by
 intro l
 induction l with
 | nil=>intro was _ _;simp[jV]
 | cons x l ih=>
  intro was h0 h
  have hx:=(cD x).1 (h x WG)
  have h1:=bf (x.fr-was) ab
  have h2:=bf (x.to-x.fr) ab
  have h3:=ih x.to ab (fun r hr=>h r (Ww _ hr))
  rw[jV,V5,V5,Wh]
  omega
theorem P4 {k:Kn}(h1:1≤k.rep)(h2:k.rep≤16)(h3:dX k.runs)(hf:k.runs.length≤4096):(Gc k).length≤90000:=by
 have q1:=bf k.rep ab
 have q2:=bf (k.runs.length:Int) ab
 have q3:=IA k.runs 0 ab (fun r hr=>by
  obtain⟨i,hi,rfl⟩:=List.getElem_of_mem hr
  exact(h3 i hi hi).1)
 unfold Gc
 rw[V5,V5];omega
theorem xL {α:Type}{B:α→List UInt8}(c:Nat):∀l:List α,(∀x∈l,(B x).length≤c)→(l.flatMap B).length≤c*l.length:=by
 intro l
 induction l with
 | nil=>intro _;simp
 | cons x l ih=>
  intro h
  have h1:=h x WG
  have h2:=ih (fun y hy=>h y (Ww _ hy))
  rw[List.flatMap_cons,V5,Wh,Nat.mul_add];omega
theorem B9 {s:List Kn}(h:cu s)(hf:sS s):(lw s).length≤1500000:=by
 have h1:=xL (B:=Gc) 90000 s (fun k hk=>by
  have hfk:=hf k hk
  obtain⟨i,hi,rfl⟩:=List.getElem_of_mem hk
  obtain⟨a,b,_,d⟩:=iE h hi
  exact P4 a b d hfk)
 have h2:=oH h
 have h3:=bf (s.length:Int) ab
 unfold lw
 rw[V5];omega
theorem zl {p:Pc}(h1:fX p.rg=true)(h2:cu p.set)(h3:sS p.set):(Ao p).length≤1500040:=by
 have q1:=oD h1
 have q2:=B9 h2 h3
 unfold Ao
 rw[V5];omega
theorem rM {k:List Pc}(h:aX k){i:Nat}(hi:i<k.length):fX k[i].rg=true∧cu k[i].set:=let⟨a,_,c,_⟩:=h i hi hi;⟨a,c⟩
def sV (k:List Pc):Prop:=∀p∈k,sS p.set
theorem P5 (l:List UInt8)(e:Int):dx (cN gA 16 l e).1:=by
 have h1:=oG (st:=gA) (most:=16) ab l e
 have h2:=(B3 l e).2
 have:∀l:List Kn,(∀k∈l,k.runs.length≤4096)→(l.flatMap Kn.runs).length≤4096*l.length:=by
  intro l
  induction l with
  | nil=>intro _;simp
  | cons x l ih=>
   intro h
   have h1:=h x WG
   have h2:=ih (fun y hy=>h y (Ww _ hy))
   rw[List.flatMap_cons,V5,Wh];omega
 have:=this _ h2
 exact⟨ab,ab⟩
theorem IB (l:List UInt8)(e:Int):dx (kX l e).1.set∧sS (kX l e).1.set:=⟨P5 _ _,(B3 _ _).2⟩
theorem uX (l:List UInt8)(e:Int):fe (cN kX 4096 l e).1∧sV (cN kX 4096 l e).1:=by
 have h1:=oG (st:=kX) (most:=4096) ab l e
 have h2:=xH (p:=fun p:Pc=>dx p.set∧sS p.set) IB 4096 l e
 exact⟨⟨ab,fun p hp=>(h2 p hp).1⟩,fun p hp=>(h2 p hp).2⟩
theorem Gi (k:List Pc)(hk:fe k)(hf:sV k)(hl:k.length≤4096)(b:Bool)(hb:b=true↔aX k):Fn prog 116 [dC k] (.tup2 (gz (if b then fw k else [])) (el (if b then 0 else 2))):=by
 have h0:=iv k hk b hb
 cases b with
 | false=>
  show Fn _ _ _ (.tup2 (gz []) (el 2))
  clear hb
  refine fi func116 ntmps116 ?_
  (refine aq h0 ?_;repeat' first|apply ah|refine ai fun hc=>?_)
  all_goals refine d9 ?_ ?_
  all_goals first|exact dv rfl|exact al rfl rfl
 | true=>
  show Fn _ _ _ (.tup2 (gz (fw k)) (el 0))
  have hok:=hb.1 rfl
  clear hb
  have hp0:=rL [] [(k.length:Int)] au (kJ ab ab)
  have hn0:=bf (k.length:Int) ab
  refine fi func116 ntmps116 ?_
  (refine bg h0 hp0 ?_;repeat' first|apply ah|refine ai fun hc=>?_)
  refine bQ (aN 18 600) ?_
  refine aj (X:=Nat×List UInt8) (fun x=>x.1≤k.length∧x.2.length≤10+1500040*x.1∧x.2++(k.drop x.1).flatMap Ao=fw k)
   (fun x=>ay [(4,.row 600 0),(19,dC k),(20,iC .i64 (k.length:Nat)),(21,iC .i64 (x.1:Nat))] [(600,.row 5 1 (x.2.map byteP))]) (fun x=>k.length-x.1) (0,[(k.length:Int)].flatMap aJ) ⟨Wa _,bn,by simp[fw]⟩ ?_
  clear h0 hp0
  rintro⟨i,acc⟩ ⟨h1,h2,h3⟩
  simp only at h1 h2 h3 ⊢
  by_cases hlt:i<k.length
  ·obtain⟨hr,hs⟩:=rM hok hlt
   have hfi:=hf _ (Wk hlt)
   have hbl:=zl hr hs hfi
   have hrl:=oD hr
   have hsz:=(b0 _).1 hr
   have t1:=cv k[i].rg.lo ab
   have t2:=cv k[i].rg.hi ab
   have n0:=kI (n:=0) ab ab
   rw[List.drop_eq_getElem_cons hlt,List.flatMap_cons]at h3
   have c0:=SA k[i].set (hk.at hlt).1 hfi
   have c1:=fb acc [k[i].rg.lo] bn
   clear hok hk hf
   by_cases ho:k[i].rg.op=true
   ·have e:Ao k[i]=bu k[i].rg.lo++aJ 1++lw k[i].set:=by unfold Ao tw;rw[V6 ho]
    have n1:=kI (n:=1) ab ab
    rw[e]at h3 hbl
    have c2:=rL (acc++[k[i].rg.lo].flatMap bu) [1] bn (kJ ab ab)
    have c4:=LZ (acc++[k[i].rg.lo].flatMap bu++[(1:Int)].flatMap aJ) k[i].set bn hs hfi
    clear hs hfi hr
    (refine pj c0 c1 c2 c4 ?_;repeat' first|apply ah|refine ai fun hc=>?_)
    all_goals first|(exfalso;simp_all;done)|skip
    refine⟨(i+1,acc++[k[i].rg.lo].flatMap bu++[(1:Int)].flatMap aJ++lw k[i].set),⟨aA,by simp at hbl ⊢;omega,by rw[←h3];simp⟩,aA,av (aN 52 600) ?_⟩
    exact ae
   ·have e:Ao k[i]=bu k[i].rg.lo++(aJ 0++bu k[i].rg.hi)++lw k[i].set:=by unfold Ao tw;rw[V3 ho]
    rw[e]at h3 hbl
    rw[Wy]at ho
    have c2:=rL (acc++[k[i].rg.lo].flatMap bu) [0] bn (kJ ab ab)
    have c3:=fb (acc++[k[i].rg.lo].flatMap bu++[(0:Int)].flatMap aJ) [k[i].rg.hi] bn
    have c4:=LZ (acc++[k[i].rg.lo].flatMap bu++[(0:Int)].flatMap aJ++[k[i].rg.hi].flatMap bu) k[i].set bn hs hfi
    clear hs hfi hr
    (refine xj c0 c1 c2 c3 c4 ?_;repeat' first|apply ah|refine ai fun hc=>?_)
    all_goals first|(exfalso;simp_all;done)|skip
    refine⟨(i+1,acc++[k[i].rg.lo].flatMap bu++[(0:Int)].flatMap aJ++[k[i].rg.hi].flatMap bu++lw k[i].set),⟨aA,by simp at hbl ⊢;omega,by rw[←h3];simp⟩,aA,av (aN 52 600) ?_⟩
    exact ae
  ·rw[Wv ab,WC,Wg]at h3
   (refine w0 ?_;repeat' first|apply ah|refine ai fun hc=>?_)
   exact d9 (cJ rfl rfl rfl h3) (al rfl rfl)
theorem Ca (k:List Pc)(hf:sV k)(hl:k.length≤4096)(hok:aX k):Fn prog 97 [dC k] (gz (fw k)):=by
 have hp0:=iB (k.length:Int) (by unfold bL;omega)
 have hn0:=bf (k.length:Int) ab
 refine fi func97 ntmps97 ?_
 (refine aq hp0 ?_)
 refine bQ (aN 8 600) ?_
 refine aj (X:=Nat×List UInt8) (fun x=>x.1≤k.length∧x.2.length≤10+1500040*x.1∧x.2++(k.drop x.1).flatMap Ao=fw k)
  (fun x=>ay [(0,dC k),(3,.row 600 0),(4,iC .i64 (x.1:Nat))] [(600,.row 5 1 (x.2.map byteP))]) (fun x=>k.length-x.1) (0,aJ (k.length:Int)) ⟨Wa _,aA,by simp[fw]⟩ ?_
 clear hp0
 rintro⟨i,acc⟩ ⟨h1,h2,h3⟩
 simp only at h1 h2 h3 ⊢
 by_cases hlt:i<k.length
 ·obtain⟨hr,hs⟩:=rM hok hlt
  have hfi:=hf _ (Wk hlt)
  have hbl:=zl hr hs hfi
  have hrl:=oD hr
  have hsz:=(b0 _).1 hr
  have t1:=cv k[i].rg.lo ab
  have t2:=cv k[i].rg.hi ab
  have n0:=kI (n:=0) ab ab
  have n1:=kI (n:=1) ab ab
  rw[List.drop_eq_getElem_cons hlt,List.flatMap_cons]at h3
  have c1:=iR k[i].rg.lo ab
  have c2:=iR k[i].rg.hi ab
  have c4:=P2 k[i].set hs hfi
  have hsl:=B9 hs hfi
  clear hok hf hs hfi hr
  by_cases ho:k[i].rg.op=true
  ·have e:Ao k[i]=bu k[i].rg.lo++aJ 1++lw k[i].set:=by unfold Ao tw;rw[V6 ho]
   rw[e]at h3 hbl
   (refine jP c4 c1 c2 ?_;repeat' first|apply ah|refine ai fun hc=>?_|((first|apply aB rfl|apply aC rfl|apply aD rfl|apply aF rfl);(focus ((try (apply bI;(focus rfl);apply ag rfl rfl rfl rfl rfl));first|((apply aZ 5;(focus rfl);first|exact bO ⟨rfl,rfl,rfl⟩ rfl inferInstance inferInstance rfl rfl rfl rfl|exact bP ⟨rfl,rfl,rfl⟩ rfl inferInstance inferInstance rfl rfl rfl rfl))));refine jP c4 c1 c2 ?_))
   all_goals first|(exfalso;simp_all;done)|skip
   refine⟨(i+1,acc++bu k[i].rg.lo++aJ 1++lw k[i].set),⟨aA,by simp at hbl ⊢;omega,by rw[←h3];simp⟩,aA,?_⟩
   (refine kd ?_ ?_;(focus ((repeat (first|exact f9.nil|(refine f9.cons ?_ ?_;rotate_left)));(all_goals try (first|rfl|(refine Dx ?_;first|omega|(simp;done)|(simp;omega))|(refine pb ?_;first|(simp;done)|(simp[*];done))))));(focus ((repeat (first|exact ga.nil|(refine ga.cons ?_ ?_;rotate_left)));(all_goals try (first|rfl|(refine mD ?_;(rw[List.map_append]<;>rfl);done)|(refine ke ?_;(rw[List.map_append]<;>rfl);done))))))
   show Blk.row _ _ (((acc.map byteP++_)++[[ak (.int .u8 1)]])++_)=_
   rw[←Eg,←List.map_append,←List.map_append,←List.map_append]
  ·have e:Ao k[i]=bu k[i].rg.lo++(aJ 0++bu k[i].rg.hi)++lw k[i].set:=by unfold Ao tw;rw[V3 ho]
   rw[e]at h3 hbl
   rw[Wy]at ho
   (refine jP c4 c1 c2 ?_;repeat' first|apply ah|refine ai fun hc=>?_|((first|apply aB rfl|apply aC rfl|apply aD rfl|apply aF rfl);(focus ((try (apply bI;(focus rfl);apply ag rfl rfl rfl rfl rfl));first|((apply aZ 5;(focus rfl);first|exact bO ⟨rfl,rfl,rfl⟩ rfl inferInstance inferInstance rfl rfl rfl rfl|exact bP ⟨rfl,rfl,rfl⟩ rfl inferInstance inferInstance rfl rfl rfl rfl))));refine jP c4 c1 c2 ?_))
   all_goals first|(exfalso;simp_all;done)|skip
   refine⟨(i+1,acc++bu k[i].rg.lo++aJ 0++bu k[i].rg.hi++lw k[i].set),⟨aA,by simp at hbl ⊢;omega,by rw[←h3];simp⟩,aA,?_⟩
   (refine kd ?_ ?_;(focus ((repeat (first|exact f9.nil|(refine f9.cons ?_ ?_;rotate_left)));(all_goals try (first|rfl|(refine Dx ?_;first|omega|(simp;done)|(simp;omega))|(refine pb ?_;first|(simp;done)|(simp[*];done))))));(focus ((repeat (first|exact ga.nil|(refine ga.cons ?_ ?_;rotate_left)));(all_goals try (first|rfl|(refine mD ?_;(rw[List.map_append]<;>rfl);done)|(refine ke ?_;(rw[List.map_append]<;>rfl);done))))))
   show Blk.row _ _ ((((acc.map byteP++_)++[[ak (.int .u8 0)]])++_)++_)=_
   rw[←Ef,←List.map_append,←List.map_append,←List.map_append,←List.map_append]
 ·rw[Wv ab,WC,Wg]at h3
  (refine w0 ?_;repeat' first|apply ah|refine ai fun hc=>?_)
  refine dw ?_
  exact cJ rfl rfl rfl h3
theorem L6 (l:List UInt8)(e:Int):dh prog 209 [.aggK lN .aggN] [(1000,ct l e)] (Vh (kX l e).1) [(1000,ct (kX l e).2.1 (kX l e).2.2)]:=by
 dsimp only [kX,j5]
 have h1:=mM l e 17
 generalize aW 17 l e=t at *
 have h2:=rI t.2.1 t.2.2
 generalize af 0 1 t.2.1 t.2.2=o at *
 by_cases ho:(o.1==1)=true
 ·rw[V6 ho]
  rw[ho]at h2
  dsimp only
  have h4:=(Gd o.2.1 o.2.2).frz3
  generalize cN gA 16 o.2.1 o.2.2=s at *
  refine dH func209 ntmps209 ?_
  (have kr1:=h1;have kr2:=h2;have km1:=(show kW [(1000,1000)] _ _ _ _ _ _ from h4);refine w0 ?_;(repeat' first|apply ah|refine ai fun hc=>?_);all_goals clear km1 kr2 kr1)
  refine gM ?_
  exact D0
 ·rw[V3 ho]
  rw[show(o.1==1)=false by simpa using ho]at h2
  dsimp only
  have h3:=mM o.2.1 o.2.2 17
  generalize aW 17 o.2.1 o.2.2=h at *
  have h4:=(Gd h.2.1 h.2.2).frz3
  generalize cN gA 16 h.2.1 h.2.2=s at *
  refine dH func209 ntmps209 ?_
  (refine BG h1 h2 h3 (fD h4) ?_;repeat' first|apply ah|refine ai fun hc=>?_)
  refine gM ?_
  exact D0
end Go.Proofs.YtaclhhkblbacgaaGreat
