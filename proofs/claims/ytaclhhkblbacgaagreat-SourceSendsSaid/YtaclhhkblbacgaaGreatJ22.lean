/- Texts joined: Span Clo KnW. -/
import Derived.Test.YtaclhhkblbacgaaGreatJ21
set_option maxRecDepth 10000
set_option maxHeartbeats 8000000
namespace Go.Proofs.YtaclhhkblbacgaaGreat
open Go.RowKit Go.Proofs.Tryz
variable {f:FuncId} {α β:Type}
theorem qM (r:Rg)(s:ByteArray)(hs:s.size≤1000000000):Fn prog 162 [LC r,sC s] (dq (cO r s)):=by
 have h1:=ir r
 obtain⟨lo,hi,op⟩:=r
 have hR:=b0 ⟨lo,hi,op⟩
 have hH:cO ⟨lo,hi,op⟩ s=(fX ⟨lo,hi,op⟩&&(decide (lo≤s)&&(op||decide (s<hi)))):=rfl
 generalize cO ⟨lo,hi,op⟩ s=b at *
 generalize fX ⟨lo,hi,op⟩=q at *
 subst hH
 show Fn prog _ [.per (cB [ak (.string lo),ak (.string hi),ak (.bool op)]),sC s] (dq _)
 cases q with
 | false=>
  refine fi func162 ntmps162 ?_
  (refine aq h1 ?_)
  exact dp
 | true=>
  have hlo:=(hR.1 rfl).1
  simp only at hlo
  clear hR
  have h2:=ii lo s ab
  have h3:=ii s hi ab
  by_cases q1:cP lo s≤0
  ·rw[Wb (show lo≤s from q1)]
   cases op with
   | true=>
    refine fi func162 ntmps162 ?_
    (refine kG h1 h2 h3 ?_;repeat' first|apply ah|refine ai fun hc=>?_)
    exact dp
   | false=>
    refine fi func162 ntmps162 ?_
    (refine kG h1 h2 h3 ?_;repeat' first|apply ah|refine ai fun hc=>?_)
    exact dp
  ·rw[Wj (show ¬lo≤s from q1)]
   refine fi func162 ntmps162 ?_
   (refine bg h1 h2 ?_;repeat' first|apply ah|refine ai fun hc=>?_)
   exact dp
theorem rX (r:Rg)(s:ByteArray)(hs:s.size≤1000000000):Fn prog 77 [LC r,sC s] (dq (cO r s)):=by
 have h1:=jS r
 obtain⟨lo,hi,op⟩:=r
 have hR:=b0 ⟨lo,hi,op⟩
 have hH:cO ⟨lo,hi,op⟩ s=(fX ⟨lo,hi,op⟩&&(decide (lo≤s)&&(op||decide (s<hi)))):=rfl
 generalize cO ⟨lo,hi,op⟩ s=b at *
 generalize fX ⟨lo,hi,op⟩=q at *
 subst hH
 show Fn prog _ [.per (cB [ak (.string lo),ak (.string hi),ak (.bool op)]),sC s] (dq _)
 cases q with
 | false=>
  refine fi func77 ntmps77 ?_
  (refine aq h1 ?_)
  exact dp
 | true=>
  have hlo:=(hR.1 rfl).1
  simp only at hlo
  clear hR
  have h2:=jR s lo ab
  have h3:=jR s hi ab
  by_cases q1:cP s lo<0
  ·rw[Wj (show ¬lo≤s by have:=(i7 s lo).1 q1;grind)]
   rw[Wb q1]at h2
   refine fi func77 ntmps77 ?_
   (refine bg h1 h2 ?_)
   exact dp
  ·rw[Wb (show lo≤s by rw[i7]at q1;grind)]
   rw[Wj q1]at h2
   cases op with
   | true=>
    refine fi func77 ntmps77 ?_
    (refine bg h1 h2 ?_)
    exact dp
   | false=>
    refine fi func77 ntmps77 ?_
    (refine kG h1 h2 h3 ?_)
    exact dp
theorem qN (l:List Rg)(s:ByteArray)(hl:l.length≤1000000000)(hs:s.size≤1000000000):Fn prog 32 [ec l,sC s] (dq (cQ l s)):=by
 generalize hb:cQ l s=b
 refine fi func32 ntmps32 ?_
 (refine w0 ?_)
 refine aj (X:=Nat) (fun z=>z≤l.length∧cQ (l.drop z) s=b)
  (fun z=>ay [(0,ec l),(1,sC s),(5,iC .i64 (z:Nat))] []) (fun z=>l.length-z) 0 ⟨Wa _,by rw[Xw];exact hb⟩ ?_
 rintro z ⟨h1,h2⟩
 by_cases hz:z<l.length
 ·have h3:=rX l[z] s hs
  rw[List.drop_eq_getElem_cons hz,cQ,List.any_cons]at h2
  cases hr:cO l[z] s with
  | true=>
   rw[hr]at h3 h2
   rw[Bool.true_or]at h2
   subst h2
   clear hb
   (refine aq h3 ?_;repeat' first|apply ah|refine ai fun hc=>?_)
   exact dp
  | false=>
   rw[hr]at h3 h2
   rw[Xo]at h2
   clear hb
   (refine aq h3 ?_;repeat' first|apply ah|refine ai fun hc=>?_)
   refine⟨z+1,⟨ab,h2⟩,ab,?_⟩
   exact ae
 ·obtain rfl:z=l.length:=ab
  rw[Xk]at h2
  simp only[cQ,List.any_nil]at h2
  subst h2
  clear hb
  (refine w0 ?_;repeat' first|apply ah|refine ai fun hc=>?_)
  exact dp
theorem IR (x y:Rg)(hx:fX x=true)(hy:fX y=true):Fn prog 226 [LC x,LC y] (el (IM x y)):=by
 have h1:=ir x
 have h2:=ir y
 have hR:=(b0 x).1 hx
 rw[hx]at h1
 rw[hy]at h2
 clear hx hy
 obtain⟨lo,hi,op⟩:=x
 obtain⟨lo',hi',op'⟩:=y
 have hhi:=hR.2.1
 simp only at hhi
 clear hR
 have h3:=ii hi hi' ab
 have hE:IM ⟨lo,hi,op⟩ ⟨lo',hi',op'⟩=(if op&&op' then 0 else if op then 1 else if op' then -1 else cP hi hi'):=rfl
 rw[hE]
 show Fn prog _ [.per (cB [ak (.string lo),ak (.string hi),ak (.bool op)]),.per (cB [ak (.string lo'),ak (.string hi'),ak (.bool op')])] (el _)
 cases op<;>cases op'
 all_goals
  refine fi func226 ntmps226 ?_
  (refine kG h3 h1 h2 ?_;repeat' first|apply ah|refine ai fun hc=>?_)
  exact wo
def IU (f:FuncId)(As:List PV):PV:=⟨fun N w v=>∃xs:List Value,v=.func (.func f) #[] xs.toArray∧xs.length=As.length∧∀(j:Nat)(x:Value)(A:PV),xs[j]?=some x→As[j]?=some A→A.p N w x,
 fun h1 h2 h3 ⟨xs,e,l,h⟩=>⟨xs,e,l,fun j x A a b=>A.mono h1 h2 h3 (h j x A a b)⟩⟩
section
variable {P:Program} {n t:Nat} {ops:Array Oper} {o:Oper} {F:List Nat} {S:St}
theorem GI {x:Operand}{A:PV}(hp:Pl n o t)(ho:o.op=.makeFunc (.func f) #[] #[x])(hx:S.opd x=.per A):aw n P ops o (az x) (.per (IU f [A])) [] S:=
 aV hp fun C T g a w hA hR=>⟨.func (.func f) #[] #[a.eval x],by simp[execOp,ho,Instr.makeFunc],[a.eval x],rfl,rfl,fun j v B h1 h2=>by
  have h:=aG (x:=x) hA (fun k h=>by simp[h]) hR
  rw[hx]at h
  match j with
  | 0=>cases h1;cases h2;exact h
  | j+1=>cases h1⟩
theorem GJ {x y:Operand}{A B:PV}(hp:Pl n o t)(ho:o.op=.makeFunc (.func f) #[] #[x,y])(hx:S.opd x=.per A)(hy:S.opd y=.per B):aw n P ops o (az x++az y) (.per (IU f [A,B])) [] S:=
 aV hp fun C T g a w hA hR=>⟨.func (.func f) #[] #[a.eval x,a.eval y],by simp[execOp,ho,Instr.makeFunc],[a.eval x,a.eval y],rfl,rfl,fun j v B' h1 h2=>by
  have h:=aG (x:=x) hA (fun k h=>by simp[h]) hR
  have h':=aG (x:=y) hA (fun k h=>by simp[h]) hR
  rw[hx]at h
  rw[hy]at h'
  match j with
  | 0=>cases h1;cases h2;exact h
  | 1=>cases h1;cases h2;exact h'
  | j+2=>cases h1⟩
theorem IV {x0:Operand}{As:List PV}(hx:S.opd x0=.per (IU f As))(hF:∀k∈az x0,k∈F):yV F S x0 f (As.map .per):=fun n C T g a w hA hR=>by
 have h:=aG (x:=x0) hA hF hR
 rw[hx]at h
 obtain⟨xs,e,l,h⟩:=h
 refine⟨xs,e,by rw[l,V7],fun j v c h1 h2=>?_⟩
 rw[List.getElem?_map]at h2
 obtain⟨A,hA',rfl⟩:=Option.map_eq_some_iff.1 h2
 exact h j v A h1 hA'
theorem Qw {bo:Bool}{ρ:Nat→Option Nat}{old new:Nat→Nat}(As:List PV):(As.map Cnt.per).map (Cnt.mp bo ρ old new)=As.map Cnt.per:=by
 rw[List.map_map];exact List.map_congr_left fun _ _=>rfl
theorem wK {x0:Operand}{xs:List Operand}(Bs:List Cnt){As:List PV}{full:List Cnt}{r:Cnt}(hf:dh P f full [] r [])(hfl:Bs++As.map Cnt.per=full:=by rfl)(hp:H3 n o:=by exact⟨rfl,rfl⟩)(ho:kp o x0 xs:=by exact⟨_,rfl⟩)(hx:S.opd x0=.per (IU f As):=by rfl)
 (hg:sy S [] xs Bs:=by first|((repeat (first|exact sy.nil|(refine sy.cons ?_ ?_;focus (first|exact pD rfl|exact pE rfl|exact gq_row rfl rfl rfl rfl|exact pF rfl|exact gq_nil rfl|exact gq_nil' rfl|exact nw rfl rfl))));done)|fail):aw n P ops o (az x0++(fN S xs++Dy [])) (r.mp false (kV []) z0 (wn S.ver [])) (nr S [] [] []) S:=
 lH (cs:=As.map .per) [] hp ho (IV hx (fun k h=>by simp[h])) (by rw[Qw,hfl];exact hf) rfl (fun p h=>by cases h) (hg.gives (fun _ h=>by simp at h ⊢;exact .inr (.inl h)) (fun _ h=>by simp[h])) .nil
end
def ew (k:List Pc):Prop:=k.length≤1000000∧(k.flatMap Pc.set).length≤1000000∧((k.flatMap Pc.set).flatMap Kn.runs).length≤1000000
def j1 (s:ByteArray)(p:Pc):List Kn:=if cO p.rg s then p.set else []
theorem vv {f g:α→List β}(h:∀x,(f x).Sublist (g x)):∀l:List α,(l.flatMap f).Sublist (l.flatMap g):=by
 intro l
 induction l with
 | nil=>exact .slnil
 | cons x l ih=>rw[List.flatMap_cons,List.flatMap_cons];exact(h x).append ih
theorem gS (f:α→List β){a b:List α}(h:a.Sublist b):(a.flatMap f).length≤(b.flatMap f).length:=by
 induction h with
 | slnil=>exact V8 _
 | cons x _ ih=>rw[List.flatMap_cons,V5];omega
 | cons_cons x _ ih=>rw[List.flatMap_cons,List.flatMap_cons,V5,V5];omega
theorem vx (s:ByteArray)(p:Pc):(j1 s p).Sublist p.set:=by
 unfold j1;split
 ·exact List.Sublist.refl _
 ·exact List.nil_sublist _
theorem ew.has {k:List Pc}(h:ew k)(s:ByteArray):vo (k.flatMap (j1 s)):=by
 have h1:=vv (vx s) k
 have h2:=h1.length_le
 have h3:=gS Kn.runs h1
 exact⟨by have:=h.2.1;omega,by have:=h.2.2;omega⟩
theorem rY (f:α→List β)(l:List α)(z:Nat):(l.take z).flatMap f=(l.take z).flatMap f∧((l.take z).flatMap f).length≤(l.flatMap f).length:=⟨rfl,gS f (List.take_sublist _ _)⟩
theorem rZ (f:α→List β)(l:List α)(z:Nat)(h:z<l.length):(l.take (z+1)).flatMap f=(l.take z).flatMap f++f l[z]:=by
 rw[List.take_succ_eq_append_getElem h,List.flatMap_append,List.flatMap_cons,WC,Wg]
theorem gj (f:α→List β){l:List α}{x:α}(h:x∈l):(f x).length≤(l.flatMap f).length:=by
 induction l with
 | nil=>cases h
 | cons y l ih=>
  rw[List.flatMap_cons,V5]
  rcases Wp.1 h with rfl|h
  ·omega
  ·have:=ih h;omega
theorem RL (k:List Pc)(s:ByteArray)(hk:ew k)(hs:s.size≤1000000000):Fn prog 157 [dC k,sC s] (qG (lC k s)):=by
 have hk1:=hk.1
 have hO:=Qp (k.flatMap (j1 s)) (hk.has s).tot
 rw[show gH ofR (k.flatMap (j1 s))=lC k s from rfl]at hO
 generalize lC k s=R at *
 refine fi func157 ntmps157 ?_
 (refine w0 ?_)
 refine bQ (bU 5 700 142 2 rfl rfl) ?_
 refine aj (X:=Nat) (fun z=>z≤k.length)
  (fun z=>ay [(1,sC s),(5,.row 700 0),(8,dC k),(9,iC .i64 (k.length:Nat)),(10,iC .i64 ((z:Nat):Int))] [(700,.row 142 2 (((k.take z).flatMap (j1 s)).map zh))]) (fun z=>k.length-z) 0 (Wa _) ?_
 intro z hz
 by_cases hlt:z<k.length
 ·have hsn:=rZ (j1 s) k z hlt
  have h1:=(rY (j1 s) k z).2
  have h2:=(hk.has s).1
  have h3:=gj Pc.set (Wk hlt)
  have h4:=hk.2.1
  have c1:=qM k[z].rg s hs
  generalize (k.take z).flatMap (j1 s)=A at *
  unfold j1 at hsn
  clear hk
  cases c:cO k[z].rg s with
  | true=>
   rw[c]at c1 hsn
   rw[V6 rfl]at hsn
   (refine aq c1 ?_;repeat' first|apply ah|refine ai fun hc=>?_)
   refine⟨z+1,hlt,ab,av (aN 700 701) (av (aN 701 700) ?_)⟩
   rw[show(k.take (z+1)).flatMap (j1 s)=_ from hsn]
   exact ae
  | false=>
   rw[c]at c1 hsn
   rw[V3 au,Wg]at hsn
   (refine aq c1 ?_;repeat' first|apply ah|refine ai fun hc=>?_)
   refine⟨z+1,hlt,ab,?_⟩
   rw[show(k.take (z+1)).flatMap (j1 s)=_ from hsn]
   exact ae
 ·rw[Wd (show k.length≤z by omega)]
  clear hk
  generalize k.flatMap (j1 s)=A at *
  (refine aq hO ?_;repeat' first|apply ah|refine ai fun hc=>?_)
  exact nx
def rawE (p:Pc):List ByteArray:=if fX p.rg then(if p.rg.op then [p.rg.lo]else [p.rg.lo,p.rg.hi])else []
theorem CB (p:Pc)(m:ByteArray):m∈rawE p↔ly p.rg m:=by
 unfold rawE ly
 by_cases c:fX p.rg=true
 ·rw[V6 c]
  cases o:p.rg.op with
  | true=>simp[c]
  | false=>simp[c]
 ·rw[V3 c]
  simp[c]
theorem CC (k:List Pc)(m:ByteArray):m∈k.flatMap rawE↔∃r∈cK k,ly r m:=by
 unfold cK
 rw[List.mem_flatMap]
 constructor
 ·rintro⟨p,hp,h⟩
  exact⟨p.rg,List.mem_map_of_mem hp,(CB p m).1 h⟩
 ·rintro⟨r,hr,h⟩
  obtain⟨p,hp,rfl⟩:=List.mem_map.1 hr
  exact⟨p,hp,(CB p m).2 h⟩
theorem M8 (p:Pc):(rawE p).length≤2:=by unfold rawE;split;split<;>simp;simp
theorem r0:∀k:List Pc,(k.flatMap rawE).length≤2*k.length:=by
 intro k
 induction k with
 | nil=>simp
 | cons p k ih=>rw[List.flatMap_cons,V5,Wh];have:=M8 p;omega
theorem zF {k:List Pc}{m:ByteArray}(h:m∈emB::k.flatMap rawE):m.size≤1000000000000:=by
 rcases Wp.1 h with rfl|h
 ·decide
 ·obtain⟨r,_,c,q⟩:=(CC k m).1 h
  have:=(b0 r).1 c
  rcases q with q|⟨_,q⟩<;>rw[q]<;>omega
theorem IW (k:List Pc):jo (pl (emB::k.flatMap rawE))=mb k:=
 M6 (fun _ h=>zF h) (zA k) (fun s=>by
  unfold mb
  rw[j0,Wp (a:=s) (b:=emB) (l:=k.flatMap rawE),CC,Xl])
abbrev nc (l:List Pc):Cnt:=.per (gG l)
abbrev VF (l:List ByteArray):Blk:=.row 9 1 (l.map strP)
theorem CD (ls:List (List Pc))(hl:ls.length≤1000)(hk:ls.flatten.length≤1000000):Fn prog 155 [.bor 1 (ls.map fun k=>[gG k])] (.own 9 1 ((mb ls.flatten).map strP)):=by
 have hsort:=IW ls.flatten
 have hlen:=r0 ls.flatten
 have s1:=MA (emB::ls.flatten.flatMap rawE) (fun s h=>zF h) (by rw[Wh];omega)
 have s2:=M7 (pl (emB::ls.flatten.flatMap rawE)) (by
  have:=(vj (l:=emB::ls.flatten.flatMap rawE) (fun s h=>zF h)).1.length_eq
  rw[this,Wh];omega)
 rw[hsort]at s2
 generalize mb ls.flatten=R at *
 generalize pl (emB::ls.flatten.flatMap rawE)=Q at *
 clear hsort
 refine fi func155 ntmps155 ?_
 (repeat' (first|refine ck ?_|refine bi ?_|refine bA ?_|refine bB ?_|refine cn ?_|refine aU ?_|refine bV cI ?_|refine ci ?_|refine cj (by kernel_rfl) ?_|(refine dL rfl rfl ⟨fun hc=>?_,fun hc=>?_⟩<;>(repeat rw[V7]at hc)<;>(try exact ce hc))|((first|apply aB rfl|apply aC rfl|apply aD rfl|apply aF rfl);focus (first|((apply aZ 15;(focus rfl);solve|(apply cq<;>first|exact⟨rfl,rfl,rfl⟩|rfl|infer_instance|(repeat (first|exact bM.nil|(apply bM.cons;(focus (first|exact aY rfl rfl rfl|exact dm rfl|exact dn rfl))))))))|(apply bI;(focus rfl);apply ag rfl rfl rfl rfl rfl;((apply aZ 15;(focus rfl);solve|(apply cq<;>first|exact⟨rfl,rfl,rfl⟩|rfl|infer_instance|(repeat (first|exact bM.nil|(apply bM.cons;(focus (first|exact aY rfl rfl rfl|exact dm rfl|exact dn rfl)))))))))|exact cz|fail))|refine bD ?_|refine bF ?_|refine bG ?_|refine de ?_|refine dg ?_|refine bH ?_|refine bj rfl ?_|((first|refine dM rfl rfl rfl ⟨fun hc=>?_,fun hc=>?_⟩|refine dN rfl rfl rfl ⟨fun hc=>?_,fun hc=>?_⟩)<;>(fail_if_success (have q:(true=true):=hc))<;>(fail_if_success (have q:(false=false):=hc))<;>(repeat rw[V7]at hc)<;>(try exact ce hc))|refine aH rfl rfl (fun hc=>?_) ?_))
 refine bQ (aN 8 700) ?_
 refine aj (X:=Nat) (fun z=>z≤ls.length)
  (fun z=>ay [(3,.row 700 0),(9,.bor 1 (ls.map fun k=>[gG k])),(10,iC .i64 (ls.length:Nat)),(11,iC .i64 ((z:Nat):Int))] [(700,VF (emB::(ls.take z).flatten.flatMap rawE))]) (fun z=>ls.length-z) 0 (Wa _) ?_
 intro z hz
 by_cases hlt:z<ls.length
 ·have htk:(ls.take (z+1)).flatten=(ls.take z).flatten++ls[z]:=by rw[List.take_succ_eq_append_getElem hlt,List.flatten_append];simp
  have hsub:(ls.take (z+1)).flatten.length≤ls.flatten.length:=by
   have:ls.flatten=(ls.take (z+1)).flatten++(ls.drop (z+1)).flatten:=by rw[←List.flatten_append,WL]
   rw[this,V5];omega
  have hl2:=Wx List.length htk
  rw[V5]at hl2
  have hraw:(ls.take (z+1)).flatten.flatMap rawE=(ls.take z).flatten.flatMap rawE++ls[z].flatMap rawE:=by rw[htk,List.flatMap_append]
  have hA:=r0 (ls.take z).flatten
  generalize (ls.take z).flatten.flatMap rawE=A at *
  clear s1 s2 htk
  (refine w0 ?_;repeat' first|apply ah|refine ai fun hc=>?_)
  refine bZ (X:=Nat) (fun y=>y≤ls[z].length)
   (fun y=>ay [(3,.row 700 0),(9,.bor 1 (ls.map fun k=>[gG k])),(10,iC .i64 (ls.length:Nat)),(11,iC .i64 ((z:Nat):Int)),(15,nc ls[z]),(16,iC .i64 (ls[z].length:Nat)),(17,iC .i64 ((y:Nat):Int))] [(700,VF (emB::(A++(ls[z].take y).flatMap rawE)))]) (fun y=>ls[z].length-y) 0 (Wa _) ?_ ?_
  ·(refine kd ?_ ?_;(focus ((repeat (first|exact f9.nil|(refine f9.cons ?_ ?_;rotate_left)));(all_goals try (first|rfl|(refine Dx ?_;first|omega|(simp;done)|(simp;omega))|(refine pb ?_;first|(simp;done)|(simp[*];done))))));(focus ((repeat (first|exact ga.nil|(refine ga.cons ?_ ?_;rotate_left)));(all_goals try (first|rfl|(refine mD ?_;(rw[List.map_append]<;>rfl);done)|(refine ke ?_;(rw[List.map_append]<;>rfl);done))))))
   rw[List.take_zero,WC,Wg]
   rfl
  ·intro y hy
   by_cases hly:y<ls[z].length
   ·have hsn:=rZ rawE ls[z] y hly
    have hB:=(rY rawE ls[z] y).2
    have hB2:=r0 ls[z]
    have c1:=ir ls[z][y].rg
    generalize (ls[z].take y).flatMap rawE=B at *
    unfold rawE at hsn
    cases c:fX ls[z][y].rg with
    | false=>
     rw[c]at c1 hsn
     rw[V3 au,Wg]at hsn
     (refine aq c1 ?_;repeat' first|apply ah|refine ai fun hc=>?_)
     refine⟨y+1,hly,ab,?_⟩
     rw[show(ls[z].take (y+1)).flatMap rawE=_ from hsn]
     exact ae
    | true=>
     rw[c]at c1 hsn
     rw[V6 rfl]at hsn
     cases o:ls[z][y].rg.op with
     | true=>
      rw[o,V6 rfl]at hsn
      (refine aq c1 ?_;repeat' first|apply ah|refine ai fun hc=>?_)
      all_goals first
       | (exfalso;simp[o]at hc;done)
       | (refine⟨y+1,hly,ab,av (aN 700 701) (av (aN 701 700) ?_)⟩
          rw[show(ls[z].take (y+1)).flatMap rawE=_ from hsn]
          (refine kd ?_ ?_;(focus ((repeat (first|exact f9.nil|(refine f9.cons ?_ ?_;rotate_left)));(all_goals try (first|rfl|(refine Dx ?_;first|omega|(simp;done)|(simp;omega))|(refine pb ?_;first|(simp;done)|(simp[*];done))))));(focus ((repeat (first|exact ga.nil|(refine ga.cons ?_ ?_;rotate_left)));(all_goals try (first|rfl|(refine mD ?_;(rw[List.map_append]<;>rfl);done)|(refine ke ?_;(rw[List.map_append]<;>rfl);done))))))
          show Blk.row _ _ _=Blk.row _ _ _
          simp
          try rfl)
     | false=>
      rw[o,V3 au]at hsn
      (refine aq c1 ?_;repeat' first|apply ah|refine ai fun hc=>?_)
      all_goals first
       | (exfalso;simp[o]at hc;done)
       | (refine⟨y+1,hly,ab,av (aN 700 701) (av (aN 701 700) ?_)⟩
          rw[show(ls[z].take (y+1)).flatMap rawE=_ from hsn]
          (refine kd ?_ ?_;(focus ((repeat (first|exact f9.nil|(refine f9.cons ?_ ?_;rotate_left)));(all_goals try (first|rfl|(refine Dx ?_;first|omega|(simp;done)|(simp;omega))|(refine pb ?_;first|(simp;done)|(simp[*];done))))));(focus ((repeat (first|exact ga.nil|(refine ga.cons ?_ ?_;rotate_left)));(all_goals try (first|rfl|(refine mD ?_;(rw[List.map_append]<;>rfl);done)|(refine ke ?_;(rw[List.map_append]<;>rfl);done))))))
          show Blk.row _ _ _=Blk.row _ _ _
          simp
          try rfl)
   ·rw[Wd (show ls[z].length≤y by omega)]
    rw[←hraw]
    (refine w0 ?_;repeat' first|apply ah|refine ai fun hc=>?_)
    refine⟨z+1,hlt,ab,?_⟩
    exact ae
 ·rw[Wd (show ls.length≤z by omega)]
  (refine TZ (xi [(1000,700)] s1) (xi [(2000,700),(3000,800)] s2) ?_;repeat' first|apply ah|refine ai fun hc=>?_)
  exact nx
end Go.Proofs.YtaclhhkblbacgaaGreat
