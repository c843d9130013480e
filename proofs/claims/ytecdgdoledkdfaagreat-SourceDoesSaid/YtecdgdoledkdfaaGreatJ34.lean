/- Lemmas, walks. -/
import Derived.Test.YtecdgdoledkdfaaGreatJ33
import Derived.Test.YtecdgdoledkdfaaGreatJ30
set_option maxRecDepth 10000
set_option maxHeartbeats 8000000
namespace Go.Proofs.YtecdgdoledkdfaaGreat
open Go.RowKit Go.Proofs.Tryz
variable {x:Srv} {n:Nat}
def y5 (L:List It)(sd b:Int)(r:Rg):Int:=cut (rA sd (L.filter (λx=>ca r x.key))) b
def CV (L:List It)(sd b:Int)(Q:List Rg):List (List PV):=Q.map λr=>I9 r (y5 L sd b r)
theorem wn (L:List It)(sd b:Int)(P Q:List Rg):CV L sd b (P++Q)=CV L sd b P++CV L sd b Q:=by simp[CV]
theorem wo (L:List It)(sd b:Int)(r:Rg):CV L sd b [r]=[I9 r (y5 L sd b r)]:=rfl
theorem V6 (L:List It)(sd b:Int)(Q:List Rg):(CV L sd b Q).length=Q.length:=by simp[CV]
abbrev WQ (L:List It)(sd b:Int)(A:List Bool)(W:List (List PV))(F:List Rg):List (Nat×Blk):=[(1000,.box 165 [.per (cX L),iC .u64 sd,iC .i64 b,.row 1001 0,.row 2000 0,.row 2001 0]),(1001,iO A),(2000,.row 162 4 W),(2001,.row 40 3 (F.map rgP))]
abbrev WR:List (Nat×Nat):=[(1000,1000),(1001,1001),(2000,2000),(2001,2001)]
theorem SZ (L:List It):∀(f:Nat)(p:DPt)(A:List Bool),p.to-p.fr<f->(se L f p A).1.length<=A.length+1/\(se L f p A).2.1.length<=(se L f p A).1.length /\
 ∀A1,(se L f p A).2.2=some A1->A1=A.drop (se L f p A).1.length/\(se L f p A).1.length<=A.length:=by
 intro f
 induction f with
 | zero=>intro p A h;omega
 | succ f ih=>
  intro p A h
  cases A with
  | nil=>rw[se];exact⟨aA,aA,λ_ h=>by cases h⟩
  | cons a A=>
   rw[se]
   split
   ·exact⟨aA,aA,λ_ h=>by cases h;exact⟨rfl,aA⟩⟩
   ·split
    ·exact⟨aA,aA,λ_ h=>by cases h;exact⟨rfl,aA⟩⟩
    ·rename_i c
     have h1:=ih (ml (jl L p) p) A (by unfold ml;simp only;omega)
     generalize se L f (ml (jl L p) p) A=x at h1 ⊢
     obtain⟨q,g,o⟩:=x
     cases o with
     | none=>exact⟨by simpa using h1.1,by simp;have:=h1.2.1;simp only at this;omega,λ_ h=>by cases h⟩
     | some A1=>
      obtain⟨e1,e2⟩:=h1.2.2 A1 rfl
      simp only at e1 e2
      have h2:=ih (mO (jl L p) p) A1 (by unfold mO;simp only;omega)
      simp only
      generalize se L f (mO (jl L p) p) A1=y at h2 ⊢
      obtain⟨q2,g2,o2⟩:=y
      have hd:=h1.2.1
      simp only at h2 hd ⊢
      have hl:A1.length=A.length-q.length:=by rw[e1,abe]
      refine⟨bD,bD,λA2 h=>?_⟩
      obtain⟨e3,e4⟩:=h2.2.2 A2 h
      exact⟨by rw[e3,e1,List.drop_drop];simp,bD⟩
theorem F7 (L:List It)(sd b:Int)(A:List Bool)(p:DPt)(W W1 W2:List (List PV))(F F1 F2:List Rg)(m q:Nat)(k:ByteArray)(z:Int)(c1:Fn prog 271 [.per (cX L),Ab p.r,iC .u64 sd,iC .i64 b] (.per (ai (.int .u64 z))))
 (hA:A.length<=1000) (hq:q<A.length) (hlt:q<(A.map boolP).length) (kL1:Hid ((A.map boolP)[q]?=some (boolP false))) (hW:W.length=q) (h0:p.fr<=p.to) (h6:¬p.to-p.fr<2) (hl:L.length<=1000000) (h3:p.to<=L.length) (hm:p.fr+(p.to-p.fr) / 2=m) (hml:m<L.length) (hk:L[m].key=k) (r1 r2:Bool)
 (i1:bZ prog 242 [.ptr 1000 0 0,iC .i64 (p.fr:Nat),iC .i64 (m:Nat),Ab ⟨p.r.lo,k,false⟩] (WQ L sd b A (W++[I9 p.r z]) F) (.per (ai (.bool r1))) (WQ L sd b A W1 F1))
 (i2:r1=true->bZ prog 242 [.ptr 1000 0 0,iC .i64 (m:Nat),iC .i64 (p.to:Nat),Ab ⟨k,p.r.hi,p.r.op⟩] (WQ L sd b A W1 F1) (.per (ai (.bool r2))) (WQ L sd b A W2 F2))
 (i3:r1=false->W2=W1/\F2=F1) :
 bZ prog 242 [.ptr 1000 0 0,iC .i64 (p.fr:Nat),iC .i64 (p.to:Nat),Ab p.r] (WQ L sd b A W F) (.per (ai (.bool (r1&&r2)))) (WQ L sd b A W2 F2):=by
 have hW1:(W++[I9 p.r z]).length=q+1:=by simp[hW]
 have hi:(((W++[I9 p.r z]).length:Nat):Int)-1=(q:Nat):=ae
 have hfo:((p.to:Nat):Int)-((p.fr:Nat):Int)=((p.to-p.fr:Nat):Int):=ae
 have hmi:((p.fr:Nat):Int)+((p.to-p.fr:Nat):Int) / 2=(m:Nat):=ae
 subst hk
 clear hm
 cases r1 with
 | false=>
  obtain⟨rfl,rfl⟩:=i3 rfl
  clear i2 i3
  refine cp func242 ntmps242 ?_
  (have ke1:=Lib.hid (hi);have ke2:=Lib.hid (hfo);have ke3:=Lib.hid (hmi);have kc1:=c1;have km1:=(show fK WR _ _ _ _ _ _ from i1);refine rF ?_;(repeat' first|apply aw|refine ah λhc=>?_);all_goals clear km1 kc1 ke3 ke2 ke1)
  all_goals first
   | (exfalso;have hc:(((W++[I9 p.r z]).length:Nat):Int)>(A.length:Int):=hc;omega)
   | skip
  refine jB (WR) ?_
  all_goals first
   | exact cD rfl rfl
   | (repeat (first|exact bG.nil|(refine bG.cons rfl ?_ ?_;(focus first|rfl|skip))))
 | true=>
  have i2:=i2 rfl
  clear i3
  refine cp func242 ntmps242 ?_
  (have ke1:=Lib.hid (hi);have ke2:=Lib.hid (hfo);have ke3:=Lib.hid (hmi);have kc1:=c1;have km1:=(show fK WR _ _ _ _ _ _ from i1);have km2:=(show fK WR _ _ _ _ _ _ from i2);refine rF ?_;(repeat' first|apply aw|refine ah λhc=>?_);all_goals clear km2 km1 kc1 ke3 ke2 ke1)
  all_goals first
   | (exfalso;have hc:(((W++[I9 p.r z]).length:Nat):Int)>(A.length:Int):=hc;omega)
   | skip
  refine jB (WR) ?_
  all_goals first
   | exact cD rfl rfl
   | (repeat (first|exact bG.nil|(refine bG.cons rfl ?_ ?_;(focus first|rfl|skip))))
theorem ZJ (L:List It)(sd b:Int)(A:List Bool)(hl:L.length<=1000000)(hk:∀x∈L,x.key.size<=1000000000)(hA:A.length<=1000):∀(f:Nat)(p:DPt)(Q F:List Rg),p.to-p.fr<f->p.fr<=p.to->p.to<=L.length->Q.length<=A.length->F.length<=Q.length ->
 bZ prog 242 [.ptr 1000 0 0,iC .i64 (p.fr:Nat),iC .i64 (p.to:Nat),Ab p.r] (WQ L sd b A (CV L sd b Q) F) (.per (ai (.bool (se L f p (A.drop Q.length)).2.2.isSome))) (WQ L sd b A (CV L sd b (Q++(se L f p (A.drop Q.length)).1)) (F++(se L f p (A.drop Q.length)).2.1)):=by
 intro f
 induction f with
 | zero=>intro p Q F h;omega
 | succ f ih=>
  intro p Q F h1 h2 h3 h4 h5
  have c1:Fn prog 271 [.per (cX L),Ab p.r,iC .u64 sd,iC .i64 b] (.per (ai (.int .u64 (y5 L sd b p.r)))):=Yq L p.r sd b hl hk
  have hW:=V6 L sd b Q
  have hW1:(CV L sd b Q++[I9 p.r (y5 L sd b p.r)]).length=Q.length+1:=by simp[hW]
  have hfo:((p.to:Nat):Int)-((p.fr:Nat):Int)=((p.to-p.fr:Nat):Int):=ae
  rcases aaF Q.length A.length with hq|hq
  ·rw[List.drop_eq_getElem_cons hq]
   have hi:(((CV L sd b Q++[I9 p.r (y5 L sd b p.r)]).length:Nat):Int)-1=((Q.length:Nat):Int):=ae
   rw[se]
   have hlt:Q.length<(A.map boolP).length:=by simpa using hq
   have kL0:(A.map boolP)[Q.length]?=some (boolP A[Q.length]):=by rw[List.getElem?_map,aaa hq];rfl
   cases ha:A[Q.length]with
   | true=>
    rw[ha]at kL0
    have kL1:=Lib.hid kL0
    clear kL0
    rw[aae rfl]
    simp only[wn,wo,aan,Option.isSome_some]
    clear ih
    generalize y5 L sd b p.r=z at *
    generalize CV L sd b Q=W at *
    refine cp func242 ntmps242 ?_
    (refine cE hi c1 ?_;repeat' first|apply aw|refine ah λhc=>?_)
    all_goals first
     | (exfalso;have hc:(((W++[I9 p.r z]).length:Nat):Int)>(A.length:Int):=hc;omega)
     | skip
    refine jB (WR) ?_
    all_goals first
     | exact cD rfl rfl
     | (repeat (first|exact bG.nil|(refine bG.cons rfl ?_ ?_;(focus first|rfl|skip))))
   | false=>
    rw[ha]at kL0
    have kL1:=Lib.hid kL0
    clear kL0
    rw[aab aA]
    by_cases h6:p.to-p.fr<2
    ·rw[aae h6]
     simp only[wn,wo,Option.isSome_some]
     clear ih
     generalize y5 L sd b p.r=z at *
     generalize CV L sd b Q=W at *
     refine cp func242 ntmps242 ?_
     (have ke1:=Lib.hid (hi);have ke2:=Lib.hid (hfo);have kc1:=c1;refine rF ?_;(repeat' first|apply aw|refine ah λhc=>?_);all_goals clear kc1 ke2 ke1)
     all_goals first
      | (exfalso;have hc:(((W++[I9 p.r z]).length:Nat):Int)>(A.length:Int):=hc;omega)
      | skip
     (refine⟨(by first|exact .inl rfl|exact .inr rfl),dv (WR) rfl rfl ?_ ?_⟩;(focus (repeat (first|exact bG.nil|(refine bG.cons rfl ?_ ?_;(focus first|rfl|skip))))))
     all_goals first
      | exact cD rfl rfl
      | (rw[List.map_append];rfl)
      | (repeat (first|exact bG.nil|(refine bG.cons rfl ?_ ?_;(focus first|rfl|skip))))
    ·rw[aab h6]
     have hml:p.fr+(p.to-p.fr) / 2<L.length:=ae
     have hk0:L[p.fr+(p.to-p.fr) / 2].key=jl L p:=by unfold jl;rw[aaa hml]
     have d1:(ml (jl L p) p).to-(ml (jl L p) p).fr<f:=by unfold ml;simp only;omega
     have i1:=ih (ml (jl L p) p) (Q++[p.r]) F d1 (by unfold ml;simp only;omega) (by unfold ml;simp only;omega) bD bD
     have r1:=SZ L f (ml (jl L p) p) (A.drop (Q.length+1)) d1
     rw[show(Q++[p.r]).length=Q.length+1 by simp]at i1
     generalize se L f (ml (jl L p) p) (A.drop (Q.length+1))=x at i1 r1 ⊢
     obtain⟨q1,g1,o1⟩:=x
     obtain⟨s1,s2,s3⟩:=r1
     rw[abe]at s1 s3
     simp only at i1 s1 s2 s3 ⊢
     rw[wn L sd b Q,wo]at i1
     cases o1 with
     | none=>
      have:=F7 L sd b A p (CV L sd b Q) _ _ F _ _ _ Q.length (jl L p) (y5 L sd b p.r) c1 hA hq hlt kL1 hW h2 h6 hl h3 rfl hml hk0 false false i1 (λh=>by cases h) (λ_=>⟨rfl,rfl⟩)
      rw[aal,abv]at this
      exact this
     | some A1=>
      simp only
      obtain⟨s4,s5⟩:=s3 A1 rfl
      have d2:(mO (jl L p) p).to-(mO (jl L p) p).fr<f:=by unfold mO;simp only;omega
      have i2:=ih (mO (jl L p) p) (Q++[p.r]++q1) (F++g1) d2 (by unfold mO;simp only;omega) (by unfold mO;simp only;omega) bD bD
      rw[show A.drop (Q++[p.r]++q1).length=A1 by rw[s4,List.drop_drop];congr 1;simp;omega]at i2
      generalize se L f (mO (jl L p) p) A1=y at i2 ⊢
      obtain⟨q2,g2,o2⟩:=y
      simp only at i2 ⊢
      have:=F7 L sd b A p (CV L sd b Q) _ _ F _ _ _ Q.length (jl L p) (y5 L sd b p.r) c1 hA hq hlt kL1 hW h2 h6 hl h3 rfl hml hk0 true o2.isSome i1 (λ_=>i2) (λh=>by cases h)
      simp only[aal,abv,aaX]at this ⊢
      exact this
  ·have:A.drop Q.length=[]:=aay hq
   rw[this,se]
   simp only[wn,wo,aan,Option.isSome_none]
   clear ih
   generalize y5 L sd b p.r=z at *
   generalize CV L sd b Q=W at *
   refine cp func242 ntmps242 ?_
   (refine oW c1 ?_;repeat' first|apply aw|refine ah λhc=>?_)
   all_goals first
    | (exfalso;have hc:¬(((W++[I9 p.r z]).length:Nat):Int)>(A.length:Int):=hc;omega)
    | skip
   refine jB (WR) ?_
   all_goals first
    | exact cD rfl rfl
    | (repeat (first|exact bG.nil|(refine bG.cons rfl ?_ ?_;(focus first|rfl|skip))))
abbrev ZK (L:List It)(sd b:Int)(Q F:List Rg):Blk:=.box 165 [.per (cX L),iC .u64 sd,iC .i64 b,.row 1001 0,.per (cn 4 (CV L sd b Q)),.per (gd F)]
theorem V7 (L:List It)(sd b:Int)(A:List Bool)(hl:L.length<=1000000)(hk:∀x∈L,x.key.size<=1000000000)(hA:A.length<=1000)(Q F:List Rg)(o:Option (List Bool))(hG:se L (L.length+1) ⟨0,L.length,⟨emB,emB,true⟩⟩ A=(Q,F,o))
 (hF:Fn prog 243 [cU F] (pn (mx F))) :
 bZ prog 173 [.per (cX L),iC .u64 sd,iC .i64 b,.row 1001 0] [(1001,iO A)] (.tup2 (.ptr 3000 0 0) (bC o.isSome)) [(1001,iO A),(3000,ZK L sd b Q (mx F))]:=by
 have a1:=ZJ L sd b A hl hk hA (L.length+1) ⟨0,L.length,⟨emB,emB,true⟩⟩ [] [] (Nat.lt_succ_self _) (aag _) (aaf _) (aag _) (aag _)
 rw[show A.drop ([]:List Rg).length=A from rfl,hG]at a1
 simp only[aaE]at a1
 have a2:=hF.frz
 unfold ZK
 rw[show CV L sd b []=[]from rfl]at a1
 generalize CV L sd b Q=W at *
 generalize mx F=G at *
 clear hG hF
 refine cp func173 ntmps173 ?_
 (refine rF ?_)
 refine aV (nt 17 4 500 165 162 4 rfl rfl) ?_
 refine aV (nt 17 5 501 165 40 3 rfl rfl) ?_
 (have km1:=(show fK [(1000,17),(1001,1001),(2000,500),(2001,501)] _ _ _ _ _ _ from a1);have kc1:=a2;refine rF ?_;all_goals clear kc1 km1)
 refine⟨.inl rfl,pW (iW 500 _ 162 4 rfl rfl) ?_⟩
 refine rX [(1001,1001),(17,3000)] rfl rfl ?_ (nd rfl rfl) (cD rfl rfl)
 (repeat (first|exact bG.nil|(refine bG.cons rfl ?_ ?_;(focus first|rfl|skip))))
abbrev Yx (j:Nat)(x:Srv):Blk:=.box 47 ((sY x.s++(ai (.int .i64 x.ses)::ai (.int .i64 x.num)::bR x.hello)).map Cnt.per++[.row j 0,.per (cn 1 (x.bat.map λc=>[cX c])),.per (ib x.lrn),.per (aK x.rep)])
abbrev cF (x:Srv):List (Nat×Blk):=[(1000,Yx 2000 x),(2000,iO x.ans)]
abbrev qP:List (Nat×Nat):=[(1000,1000),(2000,2000)]
theorem KE (a b:Int)(m:Msg)(hB:uN { m with ses:=a,num:=b })(hs:m.sum<18446744073709551616):Fn prog 39 [zw m,iC .i64 a,iC .i64 b] (.per (aK (oz a b m))):=by
 have a1:=(IY _ hB hs).frz
 have a2:Fn prog 37 [.per (cu [ai (.int .i64 6),ai (.int .i64 a),ai (.int .i64 b),dS,dS,dS,dS,ai (.int .i64 (eV { m with ses:=a,num:=b }).2),je,je,je,cA,cA,cA,eP,eP,je,ai (.int .u64 0),cA])] _:=((IY _ (V1 a b (eV { m with ses:=a,num:=b }).2) (abz _)).frz).arg1 aI
 unfold oz AZ
 generalize eV { m with ses:=a,num:=b }=q at *
 by_cases c:q.2=0
 ·rw[aae c]
  clear a2
  refine fi func39 ntmps39 ?_
  (refine au a1 ?_;refine ah λhc=>?_)
  exact Nj
 ·rw[aab c]
  generalize eV { kind:=6,ses:=a,num:=b,err:=q.2 }=z at *
  refine fi func39 ntmps39 ?_
  (refine YX a1 a2 ?_;refine ah λhc=>?_)
  exact Nj
theorem CX (x:Srv)(m:Msg)(hB:uN { m with ses:=x.ses,num:=x.num })(hs:m.sum<18446744073709551616) :
 bZ prog 93 [.ptr 1000 0 0,zw m] (cF x) (.per (aK (oz x.ses x.num m))) (cF { x with rep:=oz x.ses x.num m }):=by
 have a1:=KE x.ses x.num m hB hs
 generalize oz x.ses x.num m=R at *
 refine cp func93 ntmps93 ?_
 (refine au a1 ?_)
 refine jB (qP) ?_
 exact bA rfl rfl
theorem Bi (x:Srv)(i:Nat)(hi:i<x.bat.length)(hbl:x.bat.length<=1000000000)(hB:uN { tk x.bat x.lrn i with ses:=x.ses,num:=x.num }) :
 bZ prog 42 [.ptr 1000 0 0,iC .i64 (i:Nat)] (cF x) (.per (aK (x.batch i).rep)) (cF (x.batch i)):=by
 have hg:(x.bat[i]?).getD []=x.bat[i]:=by rw[aaa hi];rfl
 have a1:=CX x (tk x.bat x.lrn i) hB (by unfold tk;split<;>exact abz _)
 rw[show({ x with rep:=oz x.ses x.num (tk x.bat x.lrn i) }:Srv)=x.batch i from rfl,show oz x.ses x.num (tk x.bat x.lrn i)=(x.batch i).rep from rfl]at a1
 rw[show cF (x.batch i)=cF { x with rep:=(x.batch i).rep }from rfl]at a1 ⊢
 generalize (x.batch i).rep=R at *
 clear hB
 by_cases c:(i:Int)=(x.bat.length:Int)-1
 ·unfold tk at a1
  rw[aae c,hg]at a1
  replace a1:=a1.argsW (As:=[.ptr 1000 0 0,.per (cu [ai (.int .i64 5),dS,dS,dS,dS,dS,ai (.int .i64 (i:Nat)),dS,je,je,ai (.bool true),cA,ib x.lrn,cA,eP,eP,je,ai (.int .u64 0),cX x.bat[i]])]) (.same (.per aI .nil))
  refine cp func42 ntmps42 ?_
  (refine ee (gn qP a1) ?_;refine ah λhc=>?_)
  all_goals first
   | (exfalso;omega)
   | (refine jB (qP) ?_
      exact bA rfl rfl)
 ·unfold tk at a1
  rw[aab c,hg]at a1
  replace a1:=a1.argsW (As:=[.ptr 1000 0 0,.per (cu [ai (.int .i64 5),dS,dS,dS,dS,dS,ai (.int .i64 (i:Nat)),dS,je,je,je,cA,cA,cA,eP,eP,je,ai (.int .u64 0),cX x.bat[i]])]) (.same (.per aI .nil))
  refine cp func42 ntmps42 ?_
  (refine ee (gn qP a1) ?_;refine ah λhc=>?_)
  all_goals first
   | (exfalso;omega)
   | (refine jB (qP) ?_
      exact bA rfl rfl)
theorem S4 (x:Srv)(I:List It)(a0:Fn prog 174 [eS x.s.its,cU x.hello.flt] (.per (cX I)))(h0:0<=x.hello.seed/\x.hello.seed<=281474976710656)(Q F:List Rg)(o:Bool)
 (a1:bZ prog 173 [.per (cX I),iC .u64 x.hello.seed,iC .i64 x.hello.bits,.row 1001 0] [(1001,iO x.ans)] (.tup2 (.ptr 3000 0 0) (bC o)) [(1001,iO x.ans),(3000,ZK I x.hello.seed x.hello.bits Q F)]) :
 bZ prog 92 [.ptr 1000 0 0] [(1000,Yx 1001 x),(1001,iO x.ans)] (.tup2 (.ptr 3000 0 0) (bC o)) [(1000,Yx 1001 x),(1001,iO x.ans),(3000,ZK I x.hello.seed x.hello.bits Q F)]:=by
 refine cp func92 ntmps92 ?_
 (have kc1:=a0;have km1:=(show fK [(1001,1001),(3000,500)] _ _ _ _ _ _ from a1);have kh1:=Lib.hid (show(0:Int) / 2=0 from rfl);refine rF ?_;all_goals clear kh1 km1 kc1)
 (refine⟨(by first|exact .inl rfl|exact .inr rfl),rX ([(1000,1000),(1001,1001),(500,3000)]) rfl rfl ?_ ?_ ?_⟩;(focus (repeat (first|exact bG.nil|(refine bG.cons rfl ?_ ?_;(focus first|rfl|skip))))))
 ·exact nd rfl rfl
 ·exact cD rfl rfl
def RhB (l:List UInt8)(seed:Int)(bs:List Bool)(pr sd:Int):Prop:=(l=[]/\bs=[]/\pr=0/\sd=0)\/(0<l.length/\l.length<=1000000/\0<=seed/\seed<=281474976710656/\Fn prog 94 [.per (aK l),iC .u64 seed] (.tup2 (.per (qy bs pr sd)) (eA 0)))
abbrev V8 (x:Srv)(I:List It)(Q F:List Rg)(o:Bool):Prop:=bZ prog 92 [.ptr 1000 0 0] [(1000,Yx 1001 x),(1001,iO x.ans)] (.tup2 (.ptr 3000 0 0) (bC o)) [(1000,Yx 1001 x),(1001,iO x.ans),(3000,ZK I x.hello.seed x.hello.bits Q F)]
abbrev Z8:List (Nat×Nat):=[(1000,1000),(1001,2000),(3000,500)]
theorem F8 (x z:Srv)(Z:List UInt8)(I:List It)(Q R:List Rg)(hw0:x.hello.wants=false->R=[])(hw1:x.hello.wants=true->V8 x I Q R true)(th:PV)(hs:Int->Int->Bool)(hA:RR x.s x.hello.flt x.hello.know x.hello.lim R th hs)(bs:List Bool)(pr sd:Int)(hR:RkB R hs bs pr sd)(hth:RhB x.hello.there x.hello.seed bs pr sd)
 (M:List (List It)×List Pc×Int) (hM:gA x.s x.hello.flt x.hello.know x.hello.lim R hs=M)
 (a3:(M.2.2=0/\bZ prog 42 [.ptr 1000 0 0,iC .i64 0] (cF { x with bat:=M.1,lrn:=M.2.1 }) (.per (aK Z)) (cF z)) \/
   (M.2.2≠0/\bZ prog 93 [.ptr 1000 0 0,.per (cu [ai (.int .i64 6),dS,dS,dS,dS,dS,dS,ai (.int .i64 M.2.2),je,je,je,cA,cA,cA,eP,eP,je,ai (.int .u64 0),cA])] (cF x) (.per (aK Z)) (cF z))) :
 bZ prog 40 [.ptr 1000 0 0] (cF x) (.per (aK Z)) (cF z):=by
 have a2:=Sj hA hR
 rw[hM]at a2
 clear hA hM
 have a2:=λ(l u:PV) (h:PW [gd x.hello.flt,ib x.hello.know,ai (.int .i64 x.hello.lim),l,u,ai (.int .i64 pr),ai (.int .u64 sd)] [gd x.hello.flt,ib x.hello.know,ai (.int .i64 x.hello.lim),gd R,cn 1 (bs.map boolP),ai (.int .i64 pr),ai (.int .u64 sd)])=>a2.argsW (As:=[kq x.s,.per (cu [gd x.hello.flt,ib x.hello.know,ai (.int .i64 x.hello.lim),l,u,ai (.int .i64 pr),ai (.int .u64 sd)])]) (.same (.per (J7 h) .nil))
 rcases hth with⟨h1,rfl,rfl,rfl⟩|⟨h1,h2,h3,h4,h5⟩
 ·have h1:x.hello.there.length=0:=by rw[h1];rfl
  cases hw:x.hello.wants with
  | false=>
   obtain rfl:=hw0 hw
   have a2:=a2 cA cA (by(repeat (first|exact PW.nil|(refine PW.cons (by first|exact yi.refl|exact ct) ?_))))
   clear hw1
   rcases a3 with⟨hE,a3⟩|⟨hE,a3⟩
   all_goals
    refine cp func40 ntmps40 ?_
    (refine ld a2 (gn qP a3) ?_;repeat' first|apply aw|refine ah λhc=>?_)
    refine jB (qP) ?_
    exact bA rfl rfl
  | true=>
   have a1:=hw1 hw
   have a2:=a2 (gd R) cA (by(repeat (first|exact PW.nil|(refine PW.cons (by first|exact yi.refl|exact ct) ?_))))
   clear hw0 hw1
   rcases a3 with⟨hE,a3⟩|⟨hE,a3⟩
   all_goals
    refine cp func40 ntmps40 ?_
    (refine r8 a2 (gn Z8 a1) (gn qP a3) ?_;repeat' first|apply aw|refine ah λhc=>?_)
    refine jB (qP) ?_
    exact bA rfl rfl
 ·cases hw:x.hello.wants with
  | false=>
   obtain rfl:=hw0 hw
   have a2:=a2 cA (cn 1 (bs.map boolP)) (by(repeat (first|exact PW.nil|(refine PW.cons (by first|exact yi.refl|exact ct) ?_))))
   clear hw1
   rcases a3 with⟨hE,a3⟩|⟨hE,a3⟩
   all_goals
    refine cp func40 ntmps40 ?_
    (have kc1:=h5;have kc2:=a2;have km1:=(show fK qP _ _ _ _ _ _ from a3);have kh1:=Lib.hid (show(0:Int) / 2=0 from rfl);refine rF ?_;(repeat' first|apply aw|refine ah λhc=>?_);all_goals clear kh1 km1 kc2 kc1)
    refine jB (qP) ?_
    exact bA rfl rfl
  | true=>
   have a1:=hw1 hw
   have a2:=a2 (gd R) (cn 1 (bs.map boolP)) (by(repeat (first|exact PW.nil|(refine PW.cons (by first|exact yi.refl|exact ct) ?_))))
   clear hw0 hw1
   rcases a3 with⟨hE,a3⟩|⟨hE,a3⟩
   all_goals
    refine cp func40 ntmps40 ?_
    (have km1:=(show fK Z8 _ _ _ _ _ _ from a1);have kc1:=h5;have kc2:=a2;have km2:=(show fK qP _ _ _ _ _ _ from a3);have kh1:=Lib.hid (show(0:Int) / 2=0 from rfl);refine rF ?_;(repeat' first|apply aw|refine ah λhc=>?_);all_goals clear kh1 km2 kc2 kc1 km1)
    refine jB (qP) ?_
    exact bA rfl rfl
theorem S5 (x:Srv)(e:Int):bZ prog 93 [.ptr 1000 0 0,.per (cu [ai (.int .i64 6),dS,dS,dS,dS,dS,dS,ai (.int .i64 e),je,je,je,cA,cA,cA,eP,eP,je,ai (.int .u64 0),cA])] (cF x) (.per (aK (oz x.ses x.num { kind:=6,err:=e }))) (cF { x with rep:=oz x.ses x.num { kind:=6,err:=e } }):=
 (CX x { kind:=6,err:=e } (V1 x.ses x.num e) (abz _)).argsW (.same (.per aI .nil))
theorem Na (x:Srv)(hw:x.hello.wants=true)(I:List It)(Q F:List Rg)(a1:V8 x I Q F false)(n:Nat)(hn:Q.length=n+1)(hq:n<=1000000)(r:Rg)(hr:Q[n]?=some r)(z:Nat)(hz:y5 I x.hello.seed x.hello.bits r=(z:Int))(hz2:z<18446744073709551616)
 (hB:uN { kind:=4,ses:=x.ses,num:=x.num,rg:=r,sum:=z }) :
 bZ prog 40 [.ptr 1000 0 0] (cF x) (.per (aK (oz x.ses x.num { kind:=4,rg:=r,sum:=z }))) (cF { x with rep:=oz x.ses x.num { kind:=4,rg:=r,sum:=z } }):=by
 have a3:=(CX x { kind:=4,rg:=r,sum:=z } hB hz2).argsW (As:=[.ptr 1000 0 0,.per (cu [ai (.int .i64 4),dS,dS,dS,dS,dS,dS,dS,je,je,je,cA,cA,cA,ai (.string r.lo),ai (.string r.hi),ai (.bool r.op),ai (.int .u64 z),cA])]) (.same (.per aI .nil))
 generalize oz x.ses x.num { kind:=4,rg:=r,sum:=z }=Z at *
 have hlt:(((Q.length:Nat):Int)-1).toNat<Q.length:=ae
 have hi:(((Q.length:Nat):Int)-1).toNat=n:=ae
 have hrr:Q[(((Q.length:Nat):Int)-1).toNat]'hlt=r:=by
  have:=aaM.1 hr
  obtain⟨h1,h2⟩:=this
  simp only[hi]
  exact h2
 rw[<-hz]at a3
 rw[<-hrr]at a3
 clear hB hr hz hi hrr
 refine cp func40 ntmps40 ?_
 (refine nT (gn Z8 a1) (gn qP a3) ?_;repeat' first|apply aw|refine ah λhc=>?_)
 refine jB (qP) ?_
 exact bA rfl rfl
theorem S6 (x:Srv)(I:List It)(Q F:List Rg)(o:Bool)(a1:x.hello.wants=true->V8 x I Q F o):bZ prog 41 [.ptr 1000 0 0] (cF x) (bC (x.hello.wants&&!o)) (cF x):=by
 cases hw:x.hello.wants with
 | false=>
  clear a1
  refine cp func41 ntmps41 ?_
  (refine w0 ?_;repeat' first|apply aw|refine ah λhc=>?_)
  refine jB (qP) ?_
  exact cD rfl rfl
 | true=>
  have a1:=a1 hw
  refine cp func41 ntmps41 ?_
  (refine ee (gn Z8 a1) ?_;repeat' first|apply aw|refine ah λhc=>?_)
  refine jB (qP) ?_
  exact cD rfl rfl
theorem lF {b:List UInt8}(hb:b.length<=1000000){m:Msg}{e:Int}(hm:lW b=(m,e)):Fn prog 38 [.per (aK b)] (.tup2 (.per (MA m)) (eA e)):=by
 have:=V5 b hb
 rwa [hm]at this
theorem uU (x:Srv)(b:List UInt8)(hb:b.length<=1000000)(m:Msg)(e:Int)(hm:lW b=(m,e))(h0:0<=x.num/\x.num<=1000000000000000000)
 (h:e≠0\/m.kind>3\/(m.kind=1/\m.num≠0)\/m.ses<x.ses\/(m.ses=x.ses/\m.num≠x.num/\(m.kind=1\/m.num<x.num))) :
 bZ prog 13 [.ptr 1000 0 0,.per (aK b)] (cF x) (.per (aK [])) (cF x):=by
 have a0:=lF hb hm
 clear hm
 refine cp func13 ntmps13 ?_
 (refine au a0 ?_;repeat' first|apply aw|refine ah λhc=>?_)
 all_goals first
  | (exfalso;omega)
  | (refine jB (qP) ?_
     exact fW (bA rfl rfl) ct)
theorem Bj (x:Srv)(b:List UInt8)(hb:b.length<=1000000)(m:Msg)(hm:lW b=(m,0))(hk:m.kind<=3)(h0:0<=x.num/\x.num<=1000000000000000000)
 (h:(m.kind≠1/\(m.ses>x.ses\/(m.ses=x.ses/\m.num>x.num+1)))) (hs:oz m.ses m.num { kind:=6,err:=50 }=AZ m.ses m.num 50) :
 bZ prog 13 [.ptr 1000 0 0,.per (aK b)] (cF x) (.per (aK (AZ m.ses m.num 50))) (cF x):=by
 have a0:=lF hb hm
 have a1:=(KE m.ses m.num { kind:=6,err:=50 } (V1 m.ses m.num 50) (abz _)).argsW (As:=[.per (cu [ai (.int .i64 6),dS,dS,dS,dS,dS,dS,ai (.int .i64 50),je,je,je,cA,cA,cA,eP,eP,je,ai (.int .u64 0),cA]),iC .i64 m.ses,iC .i64 m.num]) (.per aI (.same (.same .nil)))
 rw[hs]at a1
 generalize AZ m.ses m.num 50=R at *
 clear hm hs
 refine cp func13 ntmps13 ?_
 (refine bt a0 a1 ?_;repeat' first|apply aw|refine ah λhc=>?_)
 all_goals first
  | (exfalso;omega)
  | (refine jB (qP) ?_
     exact bA rfl rfl)
theorem Nb (x:Srv)(b:List UInt8)(hb:b.length<=1000000)(m:Msg)(hm:lW b=(m,0))(hk:m.kind<=3)(h1:m.kind=1->m.num=0)(hs:m.ses=x.ses)(hn:m.num=x.num) :
 bZ prog 13 [.ptr 1000 0 0,.per (aK b)] (cF x) (.per (aK x.rep)) (cF x):=by
 have a0:=lF hb hm
 clear hm
 refine cp func13 ntmps13 ?_
 (refine au a0 ?_;repeat' first|apply aw|refine ah λhc=>?_)
 all_goals first
  | (exfalso;omega)
  | (refine jB (qP) ?_
     exact bA rfl rfl)
theorem Nc (x y:Srv)(b:List UInt8)(hb:b.length<=1000000)(m:Msg)(hm:lW b=(m,0))(hk:m.kind=1)(hn:m.num=0)(hs:x.ses<m.ses)(R:List UInt8)
 (a1:bZ prog 40 [.ptr 1000 0 0] (cF { s:=x.s,ses:=m.ses,hello:=m,rep:=x.rep }) (.per (aK R)) (cF y)) :
 bZ prog 13 [.ptr 1000 0 0,.per (aK b)] (cF x) (.per (aK R)) (cF y):=by
 have a0:=lF hb hm
 clear hm
 refine cp func13 ntmps13 ?_
 (refine au a0 ?_;repeat' first|apply aw|refine ah λhc=>?_)
 all_goals first
  | (exfalso;omega)
  | (refine aV (cL 1000 0 47 (sY x.s++(ai (.int .i64 m.ses)::dS::(bR m++[cA,cA,cA,aK x.rep]))) (sY x.s++(ai (.int .i64 m.ses)::dS::(bR m++[cA,cn 1 [],ib [],aK x.rep]))) rfl rfl (by(repeat (first|exact PW.nil|(refine PW.cons (by first|exact yi.refl|exact ct) ?_))))) ?_
     refine aV (nt 1000 26 700 47 4 1 rfl rfl rfl rfl) ?_
     (refine ee (gn [(1000,1000),(2000,700)] a1) ?_;repeat' first|apply aw|refine ah λhc=>?_)
     (refine⟨(by first|exact .inl rfl|exact .inr rfl),dv ([(1000,1000),(700,2000)]) rfl rfl ?_ ?_⟩;(focus (repeat (first|exact bG.nil|(refine bG.cons rfl ?_ ?_;(focus first|rfl|skip))))))
     exact bA rfl rfl)
theorem S7 (x:Srv)(b:List UInt8)(hb:b.length<=1000000)(m:Msg)(hm:lW b=(m,0))(hk:m.kind=3)(hs:m.ses=x.ses)(hn:m.num=x.num+1)(h0:0<=x.num/\x.num<=1000000000000000000)(i:Nat)(hi:m.nxt=i)(hbl:x.bat.length<=1000000000)(hlt:i<x.bat.length)(hB:uN { tk x.bat x.lrn i with ses:=x.ses,num:=x.num+1 }) :
 bZ prog 13 [.ptr 1000 0 0,.per (aK b)] (cF x) (.per (aK (({ x with num:=x.num+1 }:Srv).batch i).rep)) (cF (({ x with num:=x.num+1 }:Srv).batch i)):=by
 have a0:=lF hb hm
 have a1:=Bi { x with num:=x.num+1 } i hlt hbl hB
 generalize (({ x with num:=x.num+1 }:Srv).batch i)=y at *
 rw[<-hi]at a1
 clear hm hB
 refine cp func13 ntmps13 ?_
 (refine ld a0 (gn qP a1) ?_;repeat' first|apply aw|refine ah λhc=>?_)
 all_goals first
  | (exfalso;omega)
  | (refine jB (qP) ?_
     exact bA rfl rfl)
theorem F9 (x:Srv)(b:List UInt8)(hb:b.length<=1000000)(m:Msg)(hm:lW b=(m,0))(hk:m.kind<=3)(hk1:m.kind≠1)(hs:m.ses=x.ses)(hn:m.num=x.num+1)(h0:0<=x.num/\x.num<=1000000000000000000)
 (h:m.kind=3->x.bat.length<=m.nxt) (a1:m.kind=2->bZ prog 41 [.ptr 1000 0 0] (cF x) (bC false) (cF x)) :
 bZ prog 13 [.ptr 1000 0 0,.per (aK b)] (cF x) (.per (aK [])) (cF x):=by
 have a0:=lF hb hm
 clear hm
 by_cases c:m.kind=2
 ·have a1:=a1 c
  refine cp func13 ntmps13 ?_
  (refine ld a0 (gn qP a1) ?_;repeat' first|apply aw|refine ah λhc=>?_)
  all_goals first
   | (exfalso;omega)
   | (refine jB (qP) ?_
      exact fW (bA rfl rfl) ct)
 ·clear a1
  refine cp func13 ntmps13 ?_
  (refine au a0 ?_;repeat' first|apply aw|refine ah λhc=>?_)
  all_goals first
   | (exfalso;omega)
   | (refine jB (qP) ?_
      exact fW (bA rfl rfl) ct)
theorem Jf (x y:Srv)(b:List UInt8)(hb:b.length<=1000000)(m:Msg)(hm:lW b=(m,0))(hk:m.kind=2)(hs:m.ses=x.ses)(hn:m.num=x.num+1)(h0:0<=x.num/\x.num<=1000000000000000000)(ha:x.ans.length<=1000)
 (a1:bZ prog 41 [.ptr 1000 0 0] (cF x) (bC true) (cF x)) (R:List UInt8)
 (a2:bZ prog 40 [.ptr 1000 0 0] (cF { x with num:=x.num+1,ans:=x.ans++[m.same] }) (.per (aK R)) (cF y)) :
 bZ prog 13 [.ptr 1000 0 0,.per (aK b)] (cF x) (.per (aK R)) (cF y):=by
 have a0:=lF hb hm
 rw[show cF { x with num:=x.num+1,ans:=x.ans++[m.same] }=[(1000,Yx 2000 { x with num:=x.num+1 }),(2000,.row 4 1 (x.ans.map boolP++[boolP m.same]))]by simp[cF,Yx,iO]]at a2
 clear hm
 refine cp func13 ntmps13 ?_
 (refine r8 a0 (gn qP a1) (gn qP a2) ?_;repeat' first|apply aw|refine ah λhc=>?_)
 all_goals first
  | (exfalso;omega)
  | (refine jB (qP) ?_
     exact bA rfl rfl)
theorem Jg (R:List Rg)(b:List UInt8)(hb:b.length<=1000000)(seed:Int)(h0:0<=seed/\seed<=281474976710656)(h:b=[]\/(mn b).2=0):∃(th:PV)(bs:List Bool)(pr sd:Int),
 ThB b seed th/\RhB b seed bs pr sd/\(∀r c,Fn prog 350 [.per th,vb r c] (dE (oh b seed r c)))/\RkB R (oh b seed) bs pr sd:=by
 by_cases he:b=[]
 ·have e:oh b seed=λ_ _=>false:=by unfold oh;simp[he]
  rw[e]
  exact⟨nptQ,[],0,0,.inl ⟨he,rfl⟩,.inl ⟨he,rfl,rfl,rfl⟩,Ky,⟨λh=>by simp at h,λ_ _ _=>rfl⟩⟩
 ·have h:=h.resolve_left he
  have hp:0<b.length:=List.length_pos_iff.2 he
  have h2:=JN b hb seed
  obtain⟨bits,probes,row,hX⟩:∃bits probes row,mn b=((bits,probes,row),0):=⟨_,_,_,by rw[<-h]⟩
  have e:oh b seed=λr c=>B7 row bits probes seed r c:=by grind[oh]
  rw[hX]at h2
  obtain⟨ok,h1⟩:=xE b hb seed hX
  obtain⟨hbk,hl,b1,b2,p1,p2,hT⟩:=Lz hX
  rw[e]
  obtain⟨n,rfl⟩:=Int.eq_ofNat_of_zero_le (show 0<=bits by omega)
  rw[Int.toNat_natCast]at hl hT
  replace h2:Fn prog 94 [.per (aK b),iC .u64 seed] (.tup2 (.per (qy (jO n row) probes seed)) (eA 0)):=h2
  refine⟨_,jO n row,probes,seed,.inr ⟨hp,hb,h0.1,h0.2,_,rfl,h1⟩,.inr ⟨hp,hb,h0.1,h0.2,?_⟩,λr c=>XC n probes seed row ok r c,⟨λ_ r c=>?_,λq=>?_⟩⟩
  ·exact h2
  ·have h6:=XD (jO n row) probes seed r c (by rw[nJ];omega) (by rw[nJ];omega) ae p2
   rw[nJ,Ht ae]at h6
   exact h6
  grind[nJ]
theorem Yy (lim:Int):∀l:List It,jC lim l=0\/jC lim l=2\/jC lim l=12:=by
 intro l
 induction l<;>grind[jC]
theorem V9 (s:Sta)(F:List Rg)(K:List Pc)(lim:Int)(R:List Rg)(hs:Int->Int->Bool)(h:(gA s F K lim R hs).2.2≠0):1<=(gA s F K lim R hs).2.2/\bU (gA s F K lim R hs).2.2=true:=by
 have q:=Yy lim (g8 R hs (jU s.its F K))
 grind[yE,Rz,gA,bU]
theorem Wa (h n:Int)(h0:0<=h)(h1:h<18446744073709551616):0<=cut h n/\cut h n<18446744073709551616:=by
 unfold cut
 have hp:(0:Int)<(2:Int) ^ (oy n 0 64).toNat:=Int.pow_pos bP
 have a1:=Int.emod_nonneg h (Int.ne_of_gt hp)
 by_cases c:h<(2:Int) ^ (oy n 0 64).toNat
 ·rw[Int.emod_eq_of_lt h0 c];exact⟨h0,h1⟩
 ·have:=Int.emod_lt_of_pos h hp
  omega
theorem y6 {l:List It}(h:fV l=true):l.Pairwise λx y=>x.key<y.key:=by grind[fV]
theorem Srv.nextO {H:List UInt8->Int->Int->Int->Bool}{p:DPt}{st:List DPt}(h:x.opn=p::st):x.next H={ x with rep:=oz x.ses x.num (Zr x.its x.hello.seed x.hello.bits p.r) }:=by
 unfold Srv.next
 rw[h]
theorem Srv.nextN {H:List UInt8->Int->Int->Int->Bool}(h:x.opn=[]):x.next H=x.first H:=by
 unfold Srv.next
 rw[h]
theorem Bl {p:DPt}{st:List DPt}(h:x.opn=p::st):x.hello.wants=true/\vN x.its x.ans [kr x.its.length]=p::st:=by grind[Srv.opn]
structure ZL (x:Srv):Prop where
 i:∀y∈x.its,dA y=true
 l:fV x.its=true
 n:x.its.length<=24
 k:n8 x.its
 d:∀q∈[kr x.its.length],YL x.its q
theorem pA.its (h:pA x n):ZL x:=by
 obtain⟨_,_,_,_,q5,_⟩:=ru h.st
 have hl:=h.lg.il
 have hs:x.its.Sublist x.s.its:=List.filter_sublist
 have h1:=hs.length_le
 unfold fV at q5
 simp only[aaC,aaI]at q5
 have hi:∀y∈x.its,dA y=true:=λy hy=>aaH.1 q5.1 y (hs.subset hy)
 refine⟨hi,?_,ae,λy hy=>h.lg.ik y (hs.subset hy),λq hq=>?_⟩
 ·grind[fV]
 ·rw[abI.1 hq]
  exact⟨aag _,aaf _,.inl rfl,(by show emB.size<=1000;decide),(by show emB.size<=1000;decide)⟩
theorem Ga (x:Srv):WO (fX x)=x.fnd:=by grind[fX,Srv.fnd]
theorem Gb (x:Srv):YK (fX x)=x.opn.reverse:=by grind[fX,Srv.opn]
theorem S8 (h:pA x n):dnK (fX x)=(x.ans.length:Nat):=by
 have:=h.w0
 grind[fX]
theorem wlk (h:pA x n)(hn:n<=500)(hw:x.hello.wants=true):V8 x x.its (se x.its (x.its.length+1) (kr x.its.length) x.ans).1 x.fnd x.opn.isEmpty:=by
 have hI:=h.its
 obtain⟨d1,d2,d3,d4⟩:=Jd hI.i x.ans _ hI.d
 obtain⟨g1,g2,g3⟩:=SX x.its x.ans
 have ha:=h.ans
 have hil:=hI.n
 have hfl:=h.hel.fl
 have hsl:=h.lg.il
 have hk:∀y∈x.its,y.key.size<=1000000000:=hI.k
 have hf:=Yu (vO x.its x.ans [kr x.its.length]) ae λr hr=>by have:=d4 r hr;omega
 have e1:x.fnd=mx (vO x.its x.ans [kr x.its.length]):=by grind[Srv.fnd]
 have e2:x.opn=vN x.its x.ans [kr x.its.length]:=by grind[Srv.opn]
 rw[e1,e2,<-g2]
 exact S4 x x.its (X2 x.s.its x.hello.flt h.lg.ik ae ae).frz h.hel.seed _ _ _ (V7 x.its x.hello.seed x.hello.bits x.ans ae hk ae _ _ _ (by rw[<-g1];rfl) hf)
theorem y7 (h:pA x n)(hn:n<=500)(h1:1<=x.ses)(hb:x.bat=[]) :
 bZ prog 78 [.ptr 1000 0 0] (bB x nptQ (fX x)) (.per (aK (x.next oh).rep)) (bB (x.next oh) (jD (x.next oh)) (fX x)) /\
 bZ prog 40 [.ptr 1000 0 0] (cF x) (.per (aK (x.next oh).rep)) (cF (x.next oh))/\pA (x.next oh) n:=by
 have hI:=h.its
 have hil:=hI.n
 have ha:=h.ans
 obtain⟨d1,d2,d3,d4⟩:=Jd hI.i x.ans _ hI.d
 have hW:=λhw=>wlk h hn hw
 have hnu:bU x.num=true:=by have:=h.num;grind[bU]
 cases ho:x.opn with
 | cons p st=>
  obtain⟨hw,hO⟩:=Bl ho
  have hlen:=I4 x.ses x.num (Zr x.its x.hello.seed x.hello.bits p.r)
  have hc:=Wa (rA x.hello.seed (x.its.filter λy=>ca p.r y.key)) x.hello.bits (tz _ _).1 (tz _ _).2
  obtain⟨z,hz⟩:=Int.eq_ofNat_of_zero_le hc.1
  have hq:Zr x.its x.hello.seed x.hello.bits p.r={ kind:=4,rg:=p.r,sum:=z }:=by unfold Zr;rw[hz,Int.toNat_natCast]
  rw[Srv.nextO ho]
  rw[hq]at hlen ⊢
  have hB:uN { kind:=4,ses:=x.ses,num:=x.num,rg:=p.r,sum:=z }:=yP aA nP Sd aA aA aA
  obtain⟨t1,t2,t3⟩:=KC x.hello.seed (aaH.2 hI.i) (y6 hI.l)
  have hpl:jD { x with rep:=oz x.ses x.num { kind:=4,rg:=p.r,sum:=z } }=nptQ:=by unfold jD;rw[aae hb]
  refine⟨?_,?_,⟨h.st,h.lg,h.ses,h.num,h.ans,h.w0,h.hel,h.bat,h.bo,hlen⟩⟩
  ·rw[hpl]
   have e:fX x=some ⟨fJ x.hello.seed x.its,x.hello.seed,x.hello.bits,x.opn.reverse,vO x.its x.ans [kr x.its.length],(x.ans.length:Nat)⟩:=by unfold fX;rw[aae hw]
   rw[e]
   rw[hO]at d2
   simp only[aaD,List.length_nil]at d2
   refine SQ x nptQ _ st.reverse p (by rw[ho];simp) z ?_ (by rw[List.length_reverse];omega) (by show(fJ x.hello.seed x.its).siz<=_;omega) (λy hy=>?_) hB ae
   ·show cut (FS (fJ x.hello.seed x.its) p.r).2 x.hello.bits=_
    rw[(Yr t1 p.r).2,t2]
    exact hz
   ·have hy:y∈(fJ x.hello.seed x.its).lst:=hy
    rw[t2]at hy
    exact hI.k y hy
  ·obtain⟨g1,g2,g3⟩:=SX x.its x.ans
   obtain⟨q1,q2⟩:=g3 p st hO
   have hW:=hW hw
   rw[ho]at hW
   exact Na x hw x.its _ _ hW x.ans.length q1 ae p.r q2 z hz ae hB
 | nil=>
  have hel:=h.hel
  have hfl:=hel.fl
  have hsl:=h.lg.il
  obtain⟨th,bs,pr,sd,t1,t2,t3,t4⟩:=Jg x.fnd x.hello.there hel.tl x.hello.seed hel.seed hel.th
  have hR:bT x.fnd/\x.fnd.length<=1000000:=by
   unfold Srv.fnd
   split
   ·have:=Qq (vO x.its x.ans [kr x.its.length])
    exact⟨(mX _).1,ae⟩
   ·exact⟨λi hi=>absurd hi aA,aA⟩
  have hA:RR x.s x.hello.flt x.hello.know x.hello.lim x.fnd th (oh x.hello.there x.hello.seed):=⟨h.lg.st,ae,ae,hR,hel.k,by have:=hel.lim;omega,by have:=hel.lim;omega,t3⟩
  have hA':=hA
  rw[<-Ga]at hA'
  have hd:∀e,fX x=some e->Fn prog 126 [cU e.fd] (pn (mx e.fd)):=λe he=>by
   unfold fX at he
   split at he
   ·cases he
    exact VY _ aL λr hr=>by have:=d4 r hr;omega
   ·cases he
  have hw0:x.hello.wants=false->x.fnd=[]:=λhw=>by unfold Srv.fnd;rw[hw];rfl
  rw[ho]at hW
  obtain⟨M,hM⟩:∃M,gA x.s x.hello.flt x.hello.know x.hello.lim x.fnd (oh x.hello.there x.hello.seed)=M:=⟨_,rfl⟩
  have hM':=hM
  rw[<-Ga]at hM'
  have hP:x.pln oh=M:=hM
  have hL0:YK (fX x)=[]:=by rw[Gb,ho];rfl
  rw[Srv.nextN ho]
  unfold Srv.first
  rw[hP]
  by_cases hE:M.2.2=0
  ·rw[aae hE]
   obtain⟨b1,b2,b3,b4,b5⟩:=ZB hM hE h.st h.lg ae (by have:=hel.lim;omega)
   have c0:=(b5 x.ses x.num h1 h.ses.2 hnu 0 b1).2
   have hlen:=I4 x.ses x.num (tk M.1 M.2.1 0)
   have hpl:jD (({ x with bat:=M.1,lrn:=M.2.1 }:Srv).batch 0)=wl M.1 M.2.1:=by
    show(if M.1=[]then nptQ else wl M.1 M.2.1)=_
    rw[aab λe=>by rw[e]at b1;exact absurd b1 aA]
   refine⟨?_,?_,⟨h.st,h.lg,h.ses,h.num,h.ans,h.w0,h.hel,.inr ⟨b1,b2,b5⟩,λq=>absurd (show x.opn=[]from ho) q,hlen⟩⟩
   ·rw[hpl]
    exact CS x nptQ _ hL0 _ _ _ (Bg x _ _ hd th _ hA' t1 M hM' hE rfl b1 ae c0 (by show(oz x.ses x.num (tk M.1 M.2.1 0)).length<=_;omega))
   ·exact F8 x _ _ x.its _ x.fnd hw0 hW th _ hA bs pr sd t4 t2 M hM (.inl ⟨hE,Bi { x with bat:=M.1,lrn:=M.2.1 } 0 b1 aL c0⟩)
  ·rw[aab hE]
   obtain⟨e1,e2⟩:=V9 x.s x.hello.flt x.hello.know x.hello.lim x.fnd (oh x.hello.there x.hello.seed) (by rw[hM];exact hE)
   rw[hM]at e1 e2
   have hsa:=Sn h1 h.ses.2 hnu e1 e2
   have hlen:=jW { kind:=6,ses:=x.ses,num:=x.num,err:=M.2.2 }
   have hpl:jD { x with rep:=AZ x.ses x.num M.2.2 }=nptQ:=by unfold jD;rw[aae hb]
   refine⟨?_,?_,⟨h.st,h.lg,h.ses,h.num,h.ans,h.w0,h.hel,h.bat,h.bo,hlen⟩⟩
   ·rw[hpl]
    exact CS x nptQ _ hL0 _ _ _ (MW x _ hd th _ hA' t1 M hM' hE (abk hlen bP))
   ·rw[<-hsa]
    exact F8 x _ _ x.its _ x.fnd hw0 hW th _ hA bs pr sd t4 t2 M hM (.inr ⟨hE,S5 x _⟩)
theorem pA.up {m:Nat}(h:pA x n)(k:n<=m):pA x m:=⟨h.st,h.lg,h.ses,by have:=h.num;omega,abk h.ans k,h.w0,h.hel,h.bat,h.bo,h.rep⟩
theorem Yz {b:List UInt8}{m:Msg}(hb:b.length<=40000)(hm:lW b=(m,0))(hk:m.kind=1)(hf:m.flt.length<=310):SY m:=by
 have h1:=tn (b:=b) (by rw[hm])
 rw[hm]at h1
 have hR:lK m=true:=by
  unfold eV at h1
  split at h1
  ·assumption
  ·cases h1
 have hB:=(Zx (b:=b) ae (by rw[hm])).1
 rw[hm]at hB
 have hld:(gM m).length<=32768:=by
  unfold eV at h1
  rw[aae hR]at h1
  split at h1
  ·assumption
  ·cases h1
 have hkm:(eu m.know).length<=1000000:=abk (qt (m:=m) (p:=eu m.know) (by unfold ew;rw[aae hk];simp)) ae
 unfold lK at hR
 rw[aae hk]at hR
 simp only[aaC,abm,aaI,bU]at hR
 obtain⟨_,⟨⟨⟨⟨r1,r2⟩,r3⟩,r4⟩,r5⟩,r6⟩:=hR
 have hkg:=RJ m.know
 have hkl:m.know.length<=4096:=hB.kln
 exact⟨r4,hf,⟨ae,ae,ae⟩,r1,r2,r6,hB.thr⟩
theorem Wb {b:List UInt8}{m:Msg}(hm:lW b=(m,0)):1<=m.ses/\bU m.ses=true/\bU m.num=true:=by
 have h1:=tn (b:=b) (by rw[hm])
 rw[hm]at h1
 unfold eV at h1
 split at h1
 ·rename_i c
  unfold lK at c
  simp only[aaC,aaI]at c
  exact⟨c.1.1.1,c.1.1.2,c.1.2⟩
 ·cases h1
theorem S9 (H:List UInt8->Int->Int->Int->Bool)(x:Srv)(r:List UInt8):({ x with rep:=r }:Srv).next H=x.next H:=by
 unfold Srv.next
 rw[show({ x with rep:=r }:Srv).opn=x.opn from rfl]
 cases x.opn with
 | nil=>
  simp only
  unfold Srv.first
  rw[show({ x with rep:=r }:Srv).pln H=x.pln H from rfl]
  split<;>rfl
 | cons=>rfl
abbrev ZM (x:Srv):List (Nat×Blk):=bB x (jD x) (fX x)
structure WS (x y:Srv)(b r:List UInt8):Prop where
 p:bZ prog 9 [.ptr 1000 0 0,.per (aK b)] (ZM x) (.per (aK r)) (ZM y)
 q:bZ prog 13 [.ptr 1000 0 0,.per (aK b)] (cF x) (.per (aK r)) (cF y)
theorem KF (h:pA x n)(hn:n<=400)(b:List UInt8)(hb:b.length<=40000)(hf:(lW b).1.kind=1->(lW b).1.flt.length<=310):WS x (x.take oh b).1 b (x.take oh b).2/\pA (x.take oh b).1 (n+1)/\(x.take oh b).2.length<=40000:=by
 obtain⟨m,e,hm⟩:∃m e,lW b=(m,e):=⟨_,_,rfl⟩
 rw[hm]at hf
 have hb1:b.length<=1000000:=ae
 have h0:0<=x.num/\x.num<=1000000000000000000:=by have:=h.num;omega
 have hu:=h.up (Nat.le_succ n)
 have hbl:x.bat.length<=1000000000:=by
  rcases h.bat with q|q
  ·rw[q];simp
  ·have:=q.2.1;omega
 unfold Srv.take Srv.told
 rw[hm]
 simp only
 by_cases c1:e≠0\/m.kind>3\/(m.kind=1/\m.num≠0)\/m.ses<x.ses
 ·rw[aae c1]
  exact⟨⟨y0 x _ _ b hb1 m e hm h0 ae,uU x b hb1 m e hm h0 ae⟩,hu,aA⟩
 rw[aab c1]
 obtain rfl:e=0:=ae
 have hk:m.kind<=3:=ae
 obtain⟨s1,s2,s3⟩:=Wb hm
 by_cases c2:m.ses>x.ses
 ·rw[aae c2]
  by_cases c3:m.kind=1
  ·rw[aae c3]
   have hn0:m.num=0:=ae
   have hel:=Yz hb hm c3 (hf c3)
   simp only
   have hok:∀r:List UInt8,r.length<=40000->pA { s:=x.s,ses:=m.ses,hello:=m,rep:=r } 0:=λr hr=>⟨h.st,h.lg,⟨aL,s2⟩,⟨aby _,aby _⟩,aaf _,λ_=>rfl,hel,.inl rfl,λ_=>rfl,hr⟩
   obtain⟨a1,_,a3⟩:=y7 (hok [] aA) ae s1 rfl
   obtain⟨_,a2,_⟩:=y7 (hok x.rep h.rep) ae s1 rfl
   rw[show Srv.next oh { s:=x.s,ses:=m.ses,hello:=m,rep:=x.rep }=Srv.next oh { s:=x.s,ses:=m.ses,hello:=m }from S9 oh { s:=x.s,ses:=m.ses,hello:=m } x.rep]at a2
   have hI:=(hok [] aA).its
   obtain⟨n1,n2,n3,n4,n5⟩:=Srv.next_same oh { s:=x.s,ses:=m.ses,hello:=m }
   have hD:=CU n1 n4 n5
   refine⟨⟨?_,Nc x _ b hb1 m hm c3 hn0 ae _ a2⟩,a3.up (aag _),a3.rep⟩
   show bZ _ _ _ _ _ (bB _ _ (fX (Srv.next oh { s:=x.s,ses:=m.ses,hello:=m })))
   rw[hD]
   refine F5 x _ _ b hb1 m hm c3 hn0 ae _ _ _ _ ?_
   cases hw:m.wants with
   | false=>
    have e0:fX { s:=x.s,ses:=m.ses,hello:=m }=none:=by unfold fX;rw[show({ s:=x.s,ses:=m.ses,hello:=m }:Srv).hello.wants=false from hw];rfl
    rw[e0]at a1 ⊢
    exact Bh x _ _ m hw _ _ _ a1
   | true=>
    generalize hy:({ s:=x.s,ses:=m.ses,hello:=m }:Srv)=y at *
    have e0:fX y=some ⟨fJ m.seed y.its,m.seed,m.bits,[kr y.its.length],[],0⟩:=by subst hy;unfold fX;rw[show({ s:=x.s,ses:=m.ses,hello:=m }:Srv).hello.wants=true from hw];unfold Srv.opn;rw[show({ s:=x.s,ses:=m.ses,hello:=m }:Srv).hello.wants=true from hw];rfl
    rw[e0]at a1 ⊢
    subst hy
    have hfl:=hel.fl
    have hil:(Vm m.flt x.s.its).length<=24:=hI.n
    have hil':=hI.n
    have hsl:=h.lg.il
    exact MX x _ _ m hw _ (CA x.s.its m.flt h.lg.ik ae hel.r ae).frz _ hel.seed (Yv _ m.seed m.bits (aaH.2 hI.i) ae hI.k (uz _ hI.k ae true ⟨λ_=>m6.1 hI.l,λ_=>rfl⟩)) _ _ _ a1
  ·rw[aab c3]
   have hsa:=Sn s1 s2 s3 (show(1:Int)<=50 by decide) bP
   exact⟨⟨F4 x _ _ b hb1 m hm hk h0 ae,Bj x b hb1 m hm hk h0 ae hsa⟩,hu,jW _⟩
 rw[aab c2]
 have hs:m.ses=x.ses:=ae
 by_cases c3:m.num=x.num
 ·rw[aae c3]
  exact⟨⟨SR x _ _ b hb1 m hm hk ae hs c3 (by have:=h.rep;omega),Nb x b hb1 m hm hk ae hs c3⟩,hu,h.rep⟩
 rw[aab c3]
 by_cases c4:m.kind=1
 ·rw[aae c4]
  exact⟨⟨y0 x _ _ b hb1 m 0 hm h0 ae,uU x b hb1 m 0 hm h0 ae⟩,hu,aA⟩
 rw[aab c4]
 by_cases c5:m.num>x.num+1
 ·rw[aae c5]
  have hsa:=Sn s1 s2 s3 (show(1:Int)<=50 by decide) bP
  exact⟨⟨F4 x _ _ b hb1 m hm hk h0 ae,Bj x b hb1 m hm hk h0 ae hsa⟩,hu,jW _⟩
 rw[aab c5]
 by_cases c6:m.num≠x.num+1
 ·rw[aae c6]
  exact⟨⟨y0 x _ _ b hb1 m 0 hm h0 ae,uU x b hb1 m 0 hm h0 ae⟩,hu,aA⟩
 rw[aab c6]
 have c6:m.num=x.num+1:=ae
 by_cases c7:m.kind=2
 ·rw[aae c7]
  have hop:=λ(o:Bool) (Q:List Rg)=>S6 x x.its Q x.fnd o
  cases ho:x.opn with
  | nil=>
   simp only
   refine⟨⟨tA x _ _ b hb1 m hm ae c6 h0 hs.symm _ _ _ _ (Jb x _ _ m c7 (by rw[Gb,ho];rfl)),F9 x b hb1 m hm hk c4 hs c6 h0 ae λ_=>?_⟩,hu,aA⟩
   have:=hop _ _ λhw=>by have:=wlk h ae hw;rw[ho]at this;exact this
   simpa using this
  | cons p st=>
   simp only
   obtain⟨hw,hO⟩:=Bl ho
   have hI:=h.its
   obtain⟨d1,d2,d3,d4⟩:=Jd hI.i x.ans _ hI.d
   have hp:=d1 p (by rw[hO];simp)
   obtain⟨w1,w2⟩:=O4 x.its x.ans m.same p st _ hO
   have hbt:=h.bo (by rw[ho];simp)
   have ha:=h.ans
   have hil:=hI.n
   have hok:pA { x with num:=x.num+1,ans:=x.ans++[m.same] } (n+1):=⟨h.st,h.lg,h.ses,by have:=h.num;simp only;omega,by simp only[aai,abx];omega,λq=>(by rw[hw]at q;cases q),h.hel,h.bat,λ_=>hbt,h.rep⟩
   obtain⟨a1,a2,a3⟩:=y7 hok ae aL hbt
   obtain⟨n1,n2,n3,n4,n5⟩:=Srv.next_same oh { x with num:=x.num+1,ans:=x.ans++[m.same] }
   have hD:=CU n1 n4 n5
   have hop:=hop _ _ λhw=>by have:=wlk h ae hw;rw[ho]at this;exact this
   rw[hw]at hop
   refine⟨⟨?_,Jf x _ b hb1 m hm c7 hs c6 h0 ae hop _ a2⟩,a3,a3.rep⟩
   show bZ _ _ _ _ _ (bB _ _ (fX (Srv.next oh { x with num:=x.num+1,ans:=x.ans++[m.same] })))
   rw[hD]
   have e1:fX x=some ⟨fJ x.hello.seed x.its,x.hello.seed,x.hello.bits,x.opn.reverse,vO x.its x.ans [kr x.its.length],(x.ans.length:Nat)⟩:=by unfold fX;rw[aae hw]
   have hO2:({ x with num:=x.num+1,ans:=x.ans++[m.same] }:Srv).opn=lh x.its m.same p++st:=by rw[<-w1];unfold Srv.opn;rw[aae hw];rfl
   have e2:fX { x with num:=x.num+1,ans:=x.ans++[m.same] }=some ⟨fJ x.hello.seed x.its,x.hello.seed,x.hello.bits,(lh x.its m.same p++st).reverse,vO x.its x.ans [kr x.its.length]++o0 m.same p,((x.ans.length:Nat):Int)+1⟩:=by
    rw[<-hO2,<-w2]
    unfold fX
    rw[aae (show({ x with num:=x.num+1,ans:=x.ans++[m.same] }:Srv).hello.wants=true from hw)]
    simp only[aai,abx,Int.natCast_add]
    rfl
   rw[e2]at a1 ⊢
   show bZ _ _ _ (bB x (jD x) (fX x)) _ _
   rw[show jD x=nptQ by unfold jD;rw[aae hbt]]
   obtain⟨t1,t2,t3⟩:=KC x.hello.seed (aaH.2 hI.i) (y6 hI.l)
   rw[hO]at d2
   simp only[aaD,List.length_nil]at d2
   rw[e1,ho]
   refine tA x _ _ b hb1 m hm ae c6 h0 hs.symm _ _ _ _ (MY x _ _ _ m c7 h0 ?_ _ _ _ a1)
   show bZ _ _ _ (og _ _ _ (p::st).reverse _ _) _ _
   rw[abE]
   refine VU _ _ _ st.reverse _ p _ _ _ m.same (Th (fJ x.hello.seed x.its) (p.fr+(p.to-p.fr) / 2)) aL (hp.ne.imp id .inr) (by rw[List.length_reverse];omega) aL aL (λy hy=>by simp only at hy;rw[t2]at hy;exact hI.k y hy) ⟨hp.le,by rw[t3];exact hp.to⟩ ?_
   unfold lh o0
   cases hsm:m.same with
   | true=>exact .inl ⟨rfl,aA,aA⟩
   | false=>
    by_cases c:p.to-p.fr<2
    ·exact .inr (.inl ⟨rfl,c,by simp[c],by simp[c]⟩)
    ·obtain⟨q1,q2⟩:=KD hp c
     have hat:=I8 (fJ x.hello.seed x.its) (p.fr+(p.to-p.fr) / 2) ae
     rw[t2,aaa q1]at hat
     rw[<-Option.some.inj hat]
     exact .inr (.inr ⟨rfl,c,by simp[c,q2],by simp[c],rfl⟩)
 rw[aab c7]
 by_cases c8:m.kind=3/\m.nxt<x.bat.length
 ·rw[aae c8]
  obtain⟨c8,c9⟩:=c8
  have hnx:0<=m.nxt:=by
   have h1:=tn (b:=b) (by rw[hm])
   rw[hm]at h1
   unfold eV at h1
   split at h1
   ·rename_i c
    unfold lK at c
    rw[aab ae,aae c8]at c
    simp only[aaC,aaI,bU]at c
    omega
   ·cases h1
  obtain⟨i,hi⟩:=Int.eq_ofNat_of_zero_le hnx
  have hii:m.nxt.toNat=i:=ae
  have hlt:i<x.bat.length:=ae
  have hne:x.bat≠[]:=λq=>by rw[q]at hlt;exact absurd hlt aA
  obtain⟨b1,b2,b3⟩:=h.bat.resolve_left hne
  have hnu:bU (x.num+1)=true:=by have:=h.num;grind[bU]
  have hB:=(b3 x.ses (x.num+1) ae h.ses.2 hnu i hlt).2
  have hlen:=I4 x.ses (x.num+1) (tk x.bat x.lrn i)
  have hpl:jD x=wl x.bat x.lrn:=by unfold jD;rw[aab hne]
  have hpl2:jD (({ x with num:=x.num+1 }:Srv).batch i)=wl x.bat x.lrn:=aab hne
  have hD:fX (({ x with num:=x.num+1 }:Srv).batch i)=fX x:=CU rfl rfl rfl
  simp only
  rw[hii]
  refine⟨⟨?_,S7 x b hb1 m hm c8 hs c6 h0 i hi hbl hlt hB⟩,⟨h.st,h.lg,h.ses,by have:=h.num;show 0<=x.num+1/\x.num+1<=_;omega,Nat.le_succ_of_le h.ans,h.w0,h.hel,h.bat,h.bo,hlen⟩,hlen⟩
  show bZ _ _ _ (bB x (jD x) _) _ (bB _ (jD _) (fX _))
  rw[hpl,hpl2,hD]
  exact tA x _ _ b hb1 m hm ae c6 h0 hs.symm _ _ _ _ (V2 x _ m c8 h0 i hi hbl hlt hB (by show(oz x.ses (x.num+1) (tk x.bat x.lrn i)).length<=_;omega))
 ·rw[aab c8]
  have hpl:(x.bat=[]/\jD x=nptQ)\/jD x=wl x.bat x.lrn:=by
   unfold jD
   by_cases q:x.bat=[]
   ·exact .inl ⟨q,aae q⟩
   ·exact .inr (aab q)
  refine⟨⟨tA x _ _ b hb1 m hm ae c6 h0 hs.symm _ _ _ _ ?_,F9 x b hb1 m hm hk c4 hs c6 h0 (λq=>ae) λq=>absurd q c7⟩,hu,aA⟩
  by_cases c9:m.kind=3
  ·exact SS x _ _ m c9 hpl ae
  ·exact MZ x _ _ m ⟨c7,c9⟩
abbrev h37:Msg:={ kind:=1,ses:=1,flt:=[⟨emB,emB,true⟩] }
abbrev b37:Msg:={ kind:=5,ses:=1,last:=true }
theorem WT:uN h37:=yP aA nP Sd aA aA aA
theorem WU:uN b37:=yP aA nP Sd aA aA aA
theorem WV:(eV h37).2=0:=by decide +kernel
theorem WW:(eV b37).2=0:=by decide +kernel
theorem m37:gA ex35 [⟨emB,emB,true⟩] [] 0 [] (λ_ _=>false)=([[]],[],0):=by
 obtain⟨_,_,_,c4,_,_,c7,_⟩:=ru CP
 unfold gA
 rw[aab (by rw[show yE ex35 [⟨emB,emB,true⟩] []=0 from IH.2 ⟨CP,c4,ig⟩];simp)]
 rw[show cW ex35.know [⟨emB,emB,true⟩]=[]from c7]
 rfl
theorem CY:Fn prog 4 [] (dE true):=by
 have a1:=(ST ex35 (by have:=tc ex35 I1;rw[CP]at this;exact this) ((F6 I1 bP bP CP).argsW (.same (.per ct (.per ct .nil))))).argsW (As:=[.per (cu [ai (.int .i64 1),gd [⟨emB,emB,true⟩],cA,cA,ai (.int .i64 0)])]) (.per aI .nil)
 have a2:=(IR h37 WT).arg1 (A:=cu [ai (.int .i64 1),ai (.int .i64 1),dS,dS,dS,dS,dS,dS,je,je,je,gd [⟨emB,emB,true⟩],cA,cA,eP,eP,je,ai (.int .u64 0),cA]) aI
 rw[WV]at a2
 have hl:=jW h37
 obtain⟨r1,_⟩:=CQ WT (abz _) WV
 obtain⟨r2,_⟩:=CQ WU (abz _) WW
 have hs2:oz 1 0 (tk [[]] [] 0)=(eV b37).1:=by grind[oz,tk,WW]
 have hl2:=jW b37
 have a3:=F5 { s:=ex35 } nptQ none (eV h37).1 ae h37 r1 rfl rfl bP _ _ _ none (Bh { s:=ex35 } nptQ none h37 rfl _ _ _ (CS _ _ none rfl _ _ _ (Bg { s:=ex35,ses:=1,hello:=h37 } _ none (by rintro _ ⟨⟩) nptQ (λ_ _=>false) ⟨I1,bP,bP,⟨λi hi=>absurd hi aA,aA⟩,⟨bP,bP,bP⟩,bP,bP,Ky⟩ (.inl ⟨rfl,rfl⟩) _ m37 rfl rfl bP bP WU
  (by rw[show(({ s:=ex35,ses:=1,hello:=h37,bat:=[[]],lrn:=[] }:Srv).batch 0).rep=oz 1 0 (tk [[]] [] 0)from rfl,hs2];omega))))
 have a4:Fn prog 16 [.per (aK (eV b37).1)] (.tup2 (.per (MA b37)) (eA 0)):=by
  have:=Kv (eV b37).1 ae
  rw[r2]at this
  exact this
 have hy:(({ s:=ex35,ses:=1,hello:=h37,bat:=[[]],lrn:=[] }:Srv).batch 0).rep=(eV b37).1:=hs2
 have hy1:(({ s:=ex35,ses:=1,hello:=h37,bat:=[[]],lrn:=[] }:Srv).batch 0).ses=1:=rfl
 generalize ({ s:=ex35,ses:=1,hello:=h37,bat:=[[]],lrn:=[] }:Srv).batch 0=y at *
 have a5:=y4 y (wl [[]] []) none
 rw[hy1]at a5
 rw[hy]at a3
 clear hy hy1 r1 r2 hs2 hl hl2
 generalize (eV h37).1=b at *
 generalize (eV b37).1=c at *
 refine fi func4 ntmps4 ?_
 (have km1:=(show fK [(3000,500)] _ _ _ _ _ _ from a1);have kc1:=a2;have km2:=(show fK [(1000,500)] _ _ _ _ _ _ from a3);have kc2:=a4;have km3:=(show fK [(1000,500)] _ _ _ _ _ _ from a5);refine w0 ?_;(refine ah λhc=>?_);all_goals clear km3 kc2 km2 kc1 km1)
 all_goals
  refine dr ?_
  refine aP rfl ?_
  first|rfl|(simp;done)
abbrev NIn (w:World):BP:=g0.N (cx w)
def Wr {β:Type}(w:World)(k:Nat)(f:β->List PV)(cs:List Value)(y:β):Prop:=
 cs.length=k/\(f y).length=k/\∀(j:Nat)(A:PV)(u:Value),(f y)[j]?=some A->cs[j]?=some u->u.oneCell'=true/\A.p (NIn w) w u
def Gc {β:Type}(P:Program)(w:World)(t:TypeId)(k:Nat)(f:β->List PV)(Q:β->Prop):Prop:=Rd P w t (λcs=>∃y:β,Q y/\Wr w k f cs y)
section
variable {P:Program} {w:World} {t e:TypeId} {β:Type} {k:Nat} {f:β->List PV} {Q:β->Prop}
theorem Wr.ones {cs:List Value}{y:β}(h:Wr w k f cs y):∀u∈cs,u.oneCell'=true:=λu hu=>by
 obtain⟨j,hj,rfl⟩:=List.getElem_of_mem hu
 have hj':j<(f y).length:=by have:=h.1;have:=h.2.1;omega
 exact(h.2.2 j _ _ (aaa hj') (aaa hj)).1
theorem Gc.slice (h:Gc P w e k f Q)(ht:P.underlying t=some (.slice e))(hk:P.cellsOf e=k)(hk0:0<k) :
 Rd P w t (λcs=>∃(v:Value)(l:List β),cs=[v]/\(cn k (l.map f)).p (NIn w) w v/\∀y∈l,Q y):=by
 refine(Rd.slice (α:={ cs:List Value // cs.length=k/\∀u∈cs,u.oneCell'=true }) (enc:=λx=>x.1) (G:=λx=>∃y:β,Q y/\Wr w k f x.1 y) ht hk hk0 h λcs ⟨y,h1,h2⟩=>⟨⟨cs,h2.1,h2.ones⟩,rfl,y,h1,h2⟩).mono ?_
 rintro cs ⟨v,lv,rfl,⟨a,c,b,o,rfl,h1,h2,h3,h0,h4⟩,hG⟩
 obtain⟨l,hl,hg⟩:=sU (G:=λi y=>∀(h:i<lv.length),Q y/\Wr w k f lv[i].1 y) lv.length (λi hi=>by
  obtain⟨y,q1,q2⟩:=hG lv[i] (aar hi)
  exact⟨y,λ_=>⟨q1,q2⟩⟩)
 refine⟨_,l,rfl,⟨a,c,b,o,by rw[aad,hl],by rw[aad,hl];exact h1,h2,h0,λhn=>?_,λi cs hi=>?_⟩,λy hy=>?_⟩
 ·rw[aad,hl]at hn
  refine⟨h3 hn,?_,λhb=>hb.elim id (λh=>h rfl)⟩
  have hp:=lv[0].2.1
  have:=h4 0 lv[0] (by simp[hn]) 0 (lv[0].1[0]'(ae)) aA
  rcases aaF b w.heap.size with hb|hb
  ·exact hb
  ·simp[World.cell?,Array.getElem?_eq_none hb]at this
 ·rw[List.getElem?_map]at hi
  cases hx:l[i]? with
  | none=>rw[hx]at hi;cases hi
  | some y=>
   rw[hx]at hi;cases hi
   have hil:i<lv.length:=by have:=(aaM.1 hx).1;omega
   obtain⟨_,q1,q2,q3⟩:=hg i y hx hil
   refine⟨q2,λj A hj=>?_⟩
   have hjk:j<lv[i].1.length:=by have:=(aaM.1 hj).1;omega
   obtain⟨r1,r2⟩:=q3 j A _ hj (aaa hjk)
   exact⟨_,h4 i lv[i] (aaa hil) j _ (aaa hjk),r1,r2⟩
 ·obtain⟨i,hi,rfl⟩:=List.getElem_of_mem hy
  exact(hg i _ (aaa hi) ae).1
theorem Gc.arg {v:Value}(h:Gc P w e k f Q)(hA:tD P w t v)(ht:P.underlying t=some (.slice e))(hk:P.cellsOf e=k)(hk0:0<k) :
 ∃l:List β,In w v (.per (cn k (l.map f)))/\∀y∈l,Q y:=
 hA.slice (Q:=λv=>∃l:List β,In w v (.per (cn k (l.map f)))/\∀y∈l,Q y) ht ((h.slice ht hk hk0).mono λ_ ⟨v,l,h1,h2,h3⟩=>⟨v,h1,l,h2,h3⟩)
theorem Gc.flat {enc:β->List Value}(hE:Jj k enc)(h:Rd P w e (λcs=>∃y,cs=enc y/\Q y)):Gc P w e k (fH enc) Q:=
 h.mono λcs ⟨y,h1,h2⟩=>⟨y,h2,by rw[h1,hE.len],by unfold fH;rw[aad,hE.len],λj A u hj hu=>by
  unfold fH at hj
  rw[List.getElem?_map]at hj
  rw[h1]at hu
  rw[hu]at hj;cases hj
  exact⟨hE.one y u (aa3 hu),rfl⟩⟩
end
theorem ZN {α:Type}(l:List α)(h:l.length=3):∃a b c,l=[a,b,c]:=by match l,h with|[a,b,c],_=>exact⟨a,b,c,rfl⟩
theorem ZO {α:Type}(l:List α)(h:l.length=4):∃a b c d,l=[a,b,c,d]:=by match l,h with|[a,b,c,d],_=>exact⟨a,b,c,d,rfl⟩
def Gd (x:Rg):Prop:=x.lo.size<=maxLen/\x.hi.size<=maxLen
theorem Ta (w:World):Rd prog w 40 (λcs=>∃x,cs=encRg x/\Gd x):=by
 refine(Rd.struct' underlying40).mono ?_
 rintro cs ⟨hl,hf⟩
 obtain⟨c0,c1,c2,rfl⟩:=ZN cs (hl.trans (by kernel_rfl))
 obtain⟨s0,h0,w0⟩:=hf 0 0 9 1 _ rfl (by kernel_rfl) (Rd.string underlying9)
 obtain⟨s1,h1,w1⟩:=hf 1 1 9 1 _ rfl (by kernel_rfl) (Rd.string underlying9)
 obtain⟨b2,h2⟩:=hf 2 2 4 1 _ rfl (by kernel_rfl) (Rd.bool underlying4)
 simp at h0 h1 h2
 subst h0 h1 h2
 exact⟨⟨s0,s1,b2⟩,rfl,w0,w1⟩
theorem tD.range {w:World}{v:Value}(h:tD prog w 40 v):∃x,v=.agg (encRg x).toArray/\Gd x:=by
 obtain⟨cs,rfl⟩:=h.cells (by rw[underlying40])
 obtain⟨x,h1,h2⟩:=h.rd _ (Ta w)
 refine⟨x,?_,h2⟩
 rw[<-h1];simp[Value.cells]
theorem aas (w:World):Rd prog w 129 (λcs=>∃x,cs=encRn x/\True):=by
 refine(Rd.struct' underlying129).mono ?_
 rintro cs ⟨hl,hf⟩
 obtain⟨c0,c1,rfl⟩:=Q2 cs (hl.trans (by kernel_rfl))
 obtain⟨n0,h0,w0⟩:=hf 0 0 3 1 _ rfl (by kernel_rfl) (Rd.int underlying3)
 obtain⟨n1,h1,w1⟩:=hf 1 1 3 1 _ rfl (by kernel_rfl) (Rd.int underlying3)
 simp at h0 h1
 subst h0 h1
 exact⟨⟨n0,n1⟩,rfl,trivial⟩
theorem ZP (w:World):Gc prog w 129 2 rnP (λ_=>True):=Gc.flat Ek (aas w)
theorem ZQ (w:World):Gc prog w 127 2 BW (λ_=>True):=by
 refine(Rd.struct' underlying127).mono ?_
 rintro cs ⟨hl,hf⟩
 obtain⟨c0,c1,rfl⟩:=Q2 cs (hl.trans (by kernel_rfl))
 obtain⟨n0,h0,w0⟩:=hf 0 0 3 1 _ rfl (by kernel_rfl) (Rd.int underlying3)
 obtain⟨v,l,h1,h2,_⟩:=hf 1 1 125 1 _ rfl (by kernel_rfl) ((ZP w).slice underlying125 (by kernel_rfl) bP)
 simp at h0 h1
 subst h0 h1
 refine⟨⟨n0,l⟩,trivial,rfl,rfl,λj A u hj hu=>?_⟩
 match j,hj,hu with
 | 0,hj,hu=>cases hj;cases hu;exact⟨rfl,rfl⟩
 | 1,hj,hu=>cases hj;cases hu;exact⟨by obtain⟨a,c,b,o,rfl,_⟩:=h2;rfl,h2⟩
 | _+2,hj,_=>simp at hj
theorem WX (w:World):Gc prog w 112 4 pcP (λp=>Gd p.rg):=by
 refine(Rd.struct' underlying112).mono ?_
 rintro cs ⟨hl,hf⟩
 obtain⟨c0,c1,c2,c3,rfl⟩:=ZO cs (hl.trans (by kernel_rfl))
 obtain⟨r,h0,w0⟩:=hf 0 0 40 3 _ rfl (by kernel_rfl) (Ta w)
 obtain⟨v,l,h1,h2,_⟩:=hf 1 3 110 1 _ rfl (by kernel_rfl) ((ZQ w).slice underlying110 (by kernel_rfl) bP)
 simp[encRg]at h0 h1
 obtain⟨rfl,rfl,rfl⟩:=h0
 subst h1
 refine⟨⟨r,l⟩,w0,rfl,rfl,λj A u hj hu=>?_⟩
 match j,hj,hu with
 | 0,hj,hu=>cases hj;cases hu;exact⟨rfl,rfl⟩
 | 1,hj,hu=>cases hj;cases hu;exact⟨rfl,rfl⟩
 | 2,hj,hu=>cases hj;cases hu;exact⟨rfl,rfl⟩
 | 3,hj,hu=>cases hj;cases hu;exact⟨by obtain⟨a,c,b,o,rfl,_⟩:=h2;rfl,h2⟩
 | _+4,hj,_=>simp at hj
theorem YA {α:Type}(l:List α)(h:l.length=19):∃a0 a1 a2 a3 a4 a5 a6 a7 a8 a9 a10 a11 a12 a13 a14 a15 a16 a17 a18,l=[a0,a1,a2,a3,a4,a5,a6,a7,a8,a9,a10,a11,a12,a13,a14,a15,a16,a17,a18]:=by match l,h with|[a0,a1,a2,a3,a4,a5,a6,a7,a8,a9,a10,a11,a12,a13,a14,a15,a16,a17,a18],_=>grind
def YB (m:Msg):Prop:=m.sum<18446744073709551616/\Gd m.rg/\(∀r∈m.flt,Gd r)/\(∀p∈m.know,Gd p.rg)/\(∀x∈m.its,Vg x)
theorem ZR (w:World):Rd prog w 5 (λcs=>∃x:UInt8,cs=encB x/\True):=(Rd.int underlying5).mono Rd.u8dec
theorem tB {N:BP}{w:World}{k:Nat}{es:List (List PV)}{v:Value}(h:(cn k es).p N w v):v.oneCell'=true:=by obtain⟨a,c,b,o,rfl,_⟩:=h;rfl
theorem aat (w:World):Rd prog w 43 (λcs=>∃m:Msg,YB m/\Wr w 19 bR cs m):=by
 refine(Rd.struct' underlying43).mono ?_
 rintro cs ⟨hl,hf⟩
 obtain⟨c0,c1,c2,c3,c4,c5,c6,c7,c8,c9,c10,c11,c12,c13,c14,c15,c16,c17,c18,rfl⟩:=YA cs (hl.trans (by kernel_rfl))
 obtain⟨n0,h0,_⟩:=hf 0 0 3 1 _ rfl (by kernel_rfl) (Rd.int underlying3)
 obtain⟨n1,h1,_⟩:=hf 1 1 3 1 _ rfl (by kernel_rfl) (Rd.int underlying3)
 obtain⟨n2,h2,_⟩:=hf 2 2 3 1 _ rfl (by kernel_rfl) (Rd.int underlying3)
 obtain⟨n3,h3,_⟩:=hf 3 3 3 1 _ rfl (by kernel_rfl) (Rd.int underlying3)
 obtain⟨n4,h4,_⟩:=hf 4 4 3 1 _ rfl (by kernel_rfl) (Rd.int underlying3)
 obtain⟨n5,h5,_⟩:=hf 5 5 3 1 _ rfl (by kernel_rfl) (Rd.int underlying3)
 obtain⟨n6,h6,_⟩:=hf 6 6 3 1 _ rfl (by kernel_rfl) (Rd.int underlying3)
 obtain⟨n7,h7,_⟩:=hf 7 7 3 1 _ rfl (by kernel_rfl) (Rd.int underlying3)
 obtain⟨b8,h8⟩:=hf 8 8 4 1 _ rfl (by kernel_rfl) (Rd.bool underlying4)
 obtain⟨b9,h9⟩:=hf 9 9 4 1 _ rfl (by kernel_rfl) (Rd.bool underlying4)
 obtain⟨b10,h10⟩:=hf 10 10 4 1 _ rfl (by kernel_rfl) (Rd.bool underlying4)
 obtain⟨v11,l11,h11,p11,w11⟩:=hf 11 11 22 1 _ rfl (by kernel_rfl) ((Gc.flat Eb (Ta w)).slice underlying22 (by kernel_rfl) bP)
 obtain⟨v12,l12,h12,p12,w12⟩:=hf 12 12 24 1 _ rfl (by kernel_rfl) ((WX w).slice underlying24 (by kernel_rfl) bP)
 obtain⟨v13,l13,h13,p13,w13⟩:=hf 13 13 35 1 _ rfl (by kernel_rfl) ((Gc.flat cb (ZR w)).slice underlying35 (by kernel_rfl) bP)
 obtain⟨r,h14,w14⟩:=hf 14 14 40 3 _ rfl (by kernel_rfl) (Ta w)
 obtain⟨n17,h17,w17⟩:=hf 15 17 41 1 _ rfl (by kernel_rfl) (Rd.int underlying41)
 obtain⟨v18,l18,h18,p18,w18⟩:=hf 16 18 23 1 _ rfl (by kernel_rfl) ((Gc.flat D8 (XS w)).slice underlying23 (by kernel_rfl) bP)
 simp[encRg]at h0 h1 h2 h3 h4 h5 h6 h7 h8 h9 h10 h11 h12 h13 h14 h17 h18
 subst h0 h1 h2 h3 h4 h5 h6 h7 h8 h9 h10 h11 h12 h13 h17 h18
 obtain⟨rfl,rfl,rfl⟩:=h14
 have hu:=bounds_u64 w17
 obtain⟨s,rfl⟩:=Int.eq_ofNat_of_zero_le hu.1
 refine⟨⟨n0,n1,n2,n3,n4,n5,n6,n7,b8,b9,b10,l11,l12,l13,r,s,l18⟩,⟨by have:=hu.2;simp only;omega,w14,w11,w12,w18⟩,rfl,rfl,λj A u hj hu=>?_⟩
 match j,hj,hu with
 | 0,hj,hu|1,hj,hu|2,hj,hu|3,hj,hu|4,hj,hu|5,hj,hu|6,hj,hu|7,hj,hu|8,hj,hu|9,hj,hu|10,hj,hu|14,hj,hu|15,hj,hu|16,hj,hu|17,hj,hu=>cases hj;cases hu;exact⟨rfl,rfl⟩
 | 11,hj,hu=>cases hj;cases hu;exact⟨tB p11,p11⟩
 | 12,hj,hu=>cases hj;cases hu;grind[tB]
 | 13,hj,hu=>cases hj;cases hu;exact⟨tB p13,p13⟩
 | 18,hj,hu=>cases hj;cases hu;exact⟨tB p18,p18⟩
 | _+19,hj,_=>simp at hj
