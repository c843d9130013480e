/- Lemmas, walks. -/
import Derived.Test.YtecdgdoledkdfaaGreatJ12
set_option maxRecDepth 10000
set_option maxHeartbeats 8000000
namespace Go.Proofs.YtecdgdoledkdfaaGreat
open Go.RowKit Go.Proofs.Tryz
variable {f:FuncId} {α β:Type}
def LN (f:FuncId)(As:List PV):PV:=⟨λN w v=>∃xs:List Value,v=.func (.func f) #[] xs.toArray/\xs.length=As.length/\∀(j:Nat)(x:Value)(A:PV),xs[j]?=some x->As[j]?=some A->A.p N w x,
 λh1 h2 h3 ⟨xs,e,l,h⟩=>⟨xs,e,l,λj x A a b=>A.mono h1 h2 h3 (h j x A a b)⟩⟩
section
variable {P:Program} {n t:Nat} {ops:Array Oper} {o:Oper} {F:List Nat} {S:St}
theorem J0 {x:Operand}{A:PV}(hp:Pl n o t)(ho:o.op=.makeFunc (.func f) #[] #[x])(hx:S.opd x=.per A):aB n P ops o (aG x) (.per (LN f [A])) [] S:=
 aZ hp λC T g a w hA hR=>⟨.func (.func f) #[] #[a.eval x],by simp[execOp,ho,Instr.makeFunc],[a.eval x],rfl,rfl,λj v B h1 h2=>by
  have h:=aM (x:=x) hA (λk h=>by simp[h]) hR
  rw[hx]at h
  match j with
  | 0=>cases h1;cases h2;exact h
  | j+1=>cases h1⟩
theorem J1 {x y:Operand}{A B:PV}(hp:Pl n o t)(ho:o.op=.makeFunc (.func f) #[] #[x,y])(hx:S.opd x=.per A)(hy:S.opd y=.per B):aB n P ops o (aG x++aG y) (.per (LN f [A,B])) [] S:=
 aZ hp λC T g a w hA hR=>⟨.func (.func f) #[] #[a.eval x,a.eval y],by simp[execOp,ho,Instr.makeFunc],[a.eval x,a.eval y],rfl,rfl,λj v B' h1 h2=>by
  have h:=aM (x:=x) hA (λk h=>by simp[h]) hR
  have h':=aM (x:=y) hA (λk h=>by simp[h]) hR
  rw[hx]at h
  rw[hy]at h'
  match j with
  | 0=>cases h1;cases h2;exact h
  | 1=>cases h1;cases h2;exact h'
  | j+2=>cases h1⟩
theorem LO {x0:Operand}{As:List PV}(hx:S.opd x0=.per (LN f As))(hF:∀k∈aG x0,k∈F):BC F S x0 f (As.map .per):=λn C T g a w hA hR=>by
 have h:=aM (x:=x0) hA hF hR
 rw[hx]at h
 obtain⟨xs,e,l,h⟩:=h
 refine⟨xs,e,by rw[l,aad],λj v c h1 h2=>?_⟩
 rw[List.getElem?_map]at h2
 obtain⟨A,hA',rfl⟩:=Option.map_eq_some_iff.1 h2
 exact h j v A h1 hA'
theorem UX {bo:Bool}{ρ:Nat->Option Nat}{old new:Nat->Nat}(As:List PV):(As.map Cnt.per).map (Cnt.mp bo ρ old new)=As.map Cnt.per:=by rw[List.map_map];exact List.map_congr_left λ_ _=>rfl
theorem zq {x0:Operand}{xs:List Operand}(Bs:List Cnt){As:List PV}{full:List Cnt}{r:Cnt}(hf:bZ P f full [] r [])(hfl:Bs++As.map Cnt.per=full:=by rfl)(hp:KZ n o:=by exact⟨rfl,rfl⟩)(ho:kI o x0 xs:=by exact⟨_,rfl⟩)(hx:S.opd x0=.per (LN f As):=by rfl)
 (hg:uY S [] xs Bs:=by first|((repeat (first|exact uY.nil|(refine uY.cons ?_ ?_;focus (first|exact qS rfl|exact qT rfl|exact gq_row rfl rfl rfl rfl|exact qU rfl|exact gq_nil rfl|exact gq_nil' rfl|exact oT rfl rfl))));done)|fail):aB n P ops o (aG x0++(fZ S xs++Gk [])) (r.mp false (lI []) z0 (za S.ver [])) (oO S [] [] []) S:=
 mI (cs:=As.map .per) [] hp ho (LO hx (λk h=>by simp[h])) (by rw[UX,hfl];exact hf) rfl (λp h=>by cases h) (hg.gives (λ_ h=>by simp at h ⊢;exact .inr (.inl h)) (λ_ h=>by simp[h])) .nil
end
def ez (k:List Pc):Prop:=k.length<=1000000/\(k.flatMap Pc.set).length<=1000000/\((k.flatMap Pc.set).flatMap Kn.runs).length<=1000000
def ko (s:ByteArray)(p:Pc):List Kn:=if ca p.rg s then p.set else []
theorem xW {f g:α->List β}(h:∀x,(f x).Sublist (g x)):∀l:List α,(l.flatMap f).Sublist (l.flatMap g):=by
 intro l
 induction l<;>grind
theorem ii (f:α->List β){a b:List α}(h:a.Sublist b):(a.flatMap f).length<=(b.flatMap f).length:=by induction h<;>grind
theorem xX (s:ByteArray)(p:Pc):(ko s p).Sublist p.set:=by grind[ko]
theorem ez.has {k:List Pc}(h:ez k)(s:ByteArray):xQ (k.flatMap (ko s)):=by
 have h1:=xW (xX s) k
 have h2:=h1.length_le
 have h3:=ii Kn.runs h1
 exact⟨by have:=h.2.1;omega,by have:=h.2.2;omega⟩
theorem uv (f:α->List β)(l:List α)(z:Nat):(l.take z).flatMap f=(l.take z).flatMap f/\((l.take z).flatMap f).length<=(l.flatMap f).length:=⟨rfl,ii f (List.take_sublist _ _)⟩
theorem uw (f:α->List β)(l:List α)(z:Nat)(h:z<l.length):(l.take (z+1)).flatMap f=(l.take z).flatMap f++f l[z]:=by rw[List.take_succ_eq_append_getElem h,List.flatMap_append,List.flatMap_cons,aaZ,aan]
theorem fE (f:α->List β){l:List α}{x:α}(h:x∈l):(f x).length<=(l.flatMap f).length:=by induction l<;>grind
theorem Wx (k:List Pc)(s:ByteArray)(hk:ez k)(hs:s.size<=1000000000):Fn prog 130 [dN k,sC s] (sE (mz k s)):=by
 have hk1:=hk.1
 have hO:=UM (k.flatMap (ko s)) (hk.has s).tot
 rw[show gQ ofR (k.flatMap (ko s))=mz k s from rfl]at hO
 generalize mz k s=R at *
 refine fi func130 ntmps130 ?_
 (refine w0 ?_)
 refine bw (bS 5 700 127 2 rfl rfl) ?_
 refine aj (X:=Nat) (λz=>z<=k.length)
  (λz=>aF [(1,sC s),(5,.row 700 0),(8,dN k),(9,iC .i64 (k.length:Nat)),(10,iC .i64 ((z:Nat):Int))] [(700,.row 127 2 (((k.take z).flatMap (ko s)).map BW))]) (λz=>k.length-z) 0 (aag _) ?_
 intro z hz
 by_cases hlt:z<k.length
 ·have hsn:=uw (ko s) k z hlt
  have h1:=(uv (ko s) k z).2
  have h2:=(hk.has s).1
  have h3:=fE Pc.set (aar hlt)
  have h4:=hk.2.1
  have c1:=xV k[z].rg s hs
  generalize (k.take z).flatMap (ko s)=A at *
  unfold ko at hsn
  clear hk
  cases c:ca k[z].rg s with
  | true=>
   rw[c]at c1 hsn
   rw[aae rfl]at hsn
   (refine au c1 ?_;repeat' first|apply aw|refine ah λhc=>?_)
   refine⟨z+1,hlt,ae,az (aU 700 701) (az (aU 701 700) ?_)⟩
   rw[show(k.take (z+1)).flatMap (ko s)=_ from hsn]
   exact ab
  | false=>
   rw[c]at c1 hsn
   rw[aab aA,aan]at hsn
   (refine au c1 ?_;repeat' first|apply aw|refine ah λhc=>?_)
   refine⟨z+1,hlt,ae,?_⟩
   rw[show(k.take (z+1)).flatMap (ko s)=_ from hsn]
   exact ab
 ·rw[aaj (show k.length<=z by omega)]
  clear hk
  generalize k.flatMap (ko s)=A at *
  (refine au hO ?_;refine ah λhc=>?_)
  exact oo
def rawE (p:Pc):List ByteArray:=if gg p.rg then(if p.rg.op then [p.rg.lo]else [p.rg.lo,p.rg.hi])else []
theorem QE (p:Pc)(m:ByteArray):m∈rawE p↔my p.rg m:=by grind[rawE,my]
theorem ER (k:List Pc)(m:ByteArray):m∈k.flatMap rawE↔∃r∈cV k,my r m:=by grind[cV,QE]
theorem QF (p:Pc):(rawE p).length<=2:=by grind[rawE]
theorem ux:∀k:List Pc,(k.flatMap rawE).length<=2*k.length:=by
 intro k
 induction k<;>grind[QF]
theorem Cj {k:List Pc}{m:ByteArray}(h:m∈emB::k.flatMap rawE):m.size<=1000000000000:=by
 rcases aaU.1 h with rfl|h
 ·decide
 ·obtain⟨r,_,c,q⟩:=(ER k m).1 h
  have:=(cg r).1 c
  rcases q with q|⟨_,q⟩<;>rw[q]<;>omega
theorem LP (k:List Pc):kn (qF (emB::k.flatMap rawE))=m0 k:=
 QC (λ_ h=>Cj h) (Cf k) (λs=>by grind[m0,jt,ER])
abbrev ox (l:List Pc):Cnt:=.per (ib l)
abbrev txW (l:List ByteArray):Blk:=.row 9 1 (l.map strP)
theorem ES (ls:List (List Pc))(hl:ls.length<=1000)(hk:ls.flatten.length<=1000000):Fn prog 128 [.bor 1 (ls.map λk=>[ib k])] (.own 9 1 ((m0 ls.flatten).map strP)):=by
 have hsort:=LP ls.flatten
 have hlen:=ux ls.flatten
 have s1:=P4 (emB::ls.flatten.flatMap rawE) (λs h=>Cj h) (by rw[aaD];omega)
 have s2:=QD (qF (emB::ls.flatten.flatMap rawE)) (by
  have:=(xM (l:=emB::ls.flatten.flatMap rawE) (λs h=>Cj h)).1.length_eq
  rw[this,aaD];omega)
 rw[hsort]at s2
 generalize m0 ls.flatten=R at *
 generalize qF (emB::ls.flatten.flatMap rawE)=Q at *
 clear hsort
 refine fi func128 ntmps128 ?_
 (repeat' (first|((first|apply aH rfl|apply cB rfl|apply aJ rfl|apply cC rfl);focus (first|((apply bn 15;(focus rfl);solve|(apply b0<;>first|exact⟨rfl,rfl,rfl⟩|rfl|infer_instance|(repeat (first|exact bH.nil|(apply bH.cons;(focus (first|exact bd rfl rfl rfl|exact dc rfl|exact dd rfl))))))))|(apply gR;(focus rfl);apply ag rfl rfl rfl rfl rfl;((apply bn 15;(focus rfl);solve|(apply b0<;>first|exact⟨rfl,rfl,rfl⟩|rfl|infer_instance|(repeat (first|exact bH.nil|(apply bH.cons;(focus (first|exact bd rfl rfl rfl|exact dc rfl|exact dd rfl)))))))))))|refine oq ?_|refine bW cI ?_|(refine dW rfl rfl ⟨λhc=>?_,λhc=>?_⟩<;>(repeat rw[aad]at hc)<;>(try exact cj hc))|((first|refine dX rfl rfl rfl ⟨λhc=>?_,λhc=>?_⟩|refine dY rfl rfl rfl ⟨λhc=>?_,λhc=>?_⟩)<;>(fail_if_success (have q:(true=true):=hc))<;>(fail_if_success (have q:(false=false):=hc))<;>(repeat rw[aad]at hc)<;>(try exact cj hc))|refine aQ rfl rfl (λhc=>?_) ?_))
 refine bw (aU 8 700) ?_
 refine aj (X:=Nat) (λz=>z<=ls.length)
  (λz=>aF [(3,.row 700 0),(9,.bor 1 (ls.map λk=>[ib k])),(10,iC .i64 (ls.length:Nat)),(11,iC .i64 ((z:Nat):Int))] [(700,txW (emB::(ls.take z).flatten.flatMap rawE))]) (λz=>ls.length-z) 0 (aag _) ?_
 intro z hz
 by_cases hlt:z<ls.length
 ·have htk:(ls.take (z+1)).flatten=(ls.take z).flatten++ls[z]:=by rw[List.take_succ_eq_append_getElem hlt,List.flatten_append];simp
  have hsub:(ls.take (z+1)).flatten.length<=ls.flatten.length:=by grind[aa0]
  have hl2:=aaA List.length htk
  rw[aai]at hl2
  have hraw:(ls.take (z+1)).flatten.flatMap rawE=(ls.take z).flatten.flatMap rawE++ls[z].flatMap rawE:=by rw[htk,List.flatMap_append]
  have hA:=ux (ls.take z).flatten
  generalize (ls.take z).flatten.flatMap rawE=A at *
  clear s1 s2 htk
  (refine w0 ?_;refine ah λhc=>?_)
  refine ci (X:=Nat) (λy=>y<=ls[z].length)
   (λy=>aF [(3,.row 700 0),(9,.bor 1 (ls.map λk=>[ib k])),(10,iC .i64 (ls.length:Nat)),(11,iC .i64 ((z:Nat):Int)),(15,ox ls[z]),(16,iC .i64 (ls[z].length:Nat)),(17,iC .i64 ((y:Nat):Int))] [(700,txW (emB::(A++(ls[z].take y).flatMap rawE)))]) (λy=>ls[z].length-y) 0 (aag _) ?_ ?_
  ·(refine kA ?_ ?_;(focus ((repeat (first|exact gp.nil|(refine gp.cons ?_ ?_;rotate_left)));(all_goals try (first|rfl|(refine Gj ?_;first|omega|(simp;done)|(simp;omega))|(refine qw ?_;first|(simp;done)|(simp[*];done))))));(focus ((repeat (first|exact gq.nil|(refine gq.cons ?_ ?_;rotate_left)));(all_goals try (first|rfl|(refine nq ?_;(rw[List.map_append]<;>rfl);done)|(refine kB ?_;(rw[List.map_append]<;>rfl);done))))))
   rw[List.take_zero,aaZ,aan]
   rfl
  ·intro y hy
   by_cases hly:y<ls[z].length
   ·have hsn:=uw rawE ls[z] y hly
    have hB:=(uv rawE ls[z] y).2
    have hB2:=ux ls[z]
    have c1:=gW ls[z][y].rg
    generalize (ls[z].take y).flatMap rawE=B at *
    unfold rawE at hsn
    cases c:gg ls[z][y].rg with
    | false=>
     rw[c]at c1 hsn
     rw[aab aA,aan]at hsn
     (refine au c1 ?_;repeat' first|apply aw|refine ah λhc=>?_)
     refine⟨y+1,hly,ae,?_⟩
     rw[show(ls[z].take (y+1)).flatMap rawE=_ from hsn]
     exact ab
    | true=>
     rw[c]at c1 hsn
     rw[aae rfl]at hsn
     cases o:ls[z][y].rg.op with
     | true=>
      rw[o,aae rfl]at hsn
      (refine au c1 ?_;repeat' first|apply aw|refine ah λhc=>?_)
      all_goals first
       | (exfalso;simp[o]at hc;done)
       | (refine⟨y+1,hly,ae,az (aU 700 701) (az (aU 701 700) ?_)⟩
          rw[show(ls[z].take (y+1)).flatMap rawE=_ from hsn]
          (refine kA ?_ ?_;(focus ((repeat (first|exact gp.nil|(refine gp.cons ?_ ?_;rotate_left)));(all_goals try (first|rfl|(refine Gj ?_;first|omega|(simp;done)|(simp;omega))|(refine qw ?_;first|(simp;done)|(simp[*];done))))));(focus ((repeat (first|exact gq.nil|(refine gq.cons ?_ ?_;rotate_left)));(all_goals try (first|rfl|(refine nq ?_;(rw[List.map_append]<;>rfl);done)|(refine kB ?_;(rw[List.map_append]<;>rfl);done))))))
          show Blk.row _ _ _=Blk.row _ _ _
          simp
          try rfl)
     | false=>
      rw[o,aab aA]at hsn
      (refine au c1 ?_;repeat' first|apply aw|refine ah λhc=>?_)
      all_goals first
       | (exfalso;simp[o]at hc;done)
       | (refine⟨y+1,hly,ae,az (aU 700 701) (az (aU 701 700) ?_)⟩
          rw[show(ls[z].take (y+1)).flatMap rawE=_ from hsn]
          (refine kA ?_ ?_;(focus ((repeat (first|exact gp.nil|(refine gp.cons ?_ ?_;rotate_left)));(all_goals try (first|rfl|(refine Gj ?_;first|omega|(simp;done)|(simp;omega))|(refine qw ?_;first|(simp;done)|(simp[*];done))))));(focus ((repeat (first|exact gq.nil|(refine gq.cons ?_ ?_;rotate_left)));(all_goals try (first|rfl|(refine nq ?_;(rw[List.map_append]<;>rfl);done)|(refine kB ?_;(rw[List.map_append]<;>rfl);done))))))
          show Blk.row _ _ _=Blk.row _ _ _
          simp
          try rfl)
   ·rw[aaj (show ls[z].length<=y by omega)]
    rw[<-hraw]
    (refine w0 ?_;refine ah λhc=>?_)
    refine⟨z+1,hlt,ae,?_⟩
    exact ab
 ·rw[aaj (show ls.length<=z by omega)]
  (refine nT (gn [(1000,700)] s1) (gn [(2000,700),(3000,800)] s2) ?_;refine ah λhc=>?_)
  exact oo
