/- Texts joined: PlA SwT SwV SwK SwY SwX PlB. -/
import Derived.Test.YtaclhhkblbacgaaGreatJ31
set_option maxRecDepth 10000
set_option maxHeartbeats 8000000
namespace Go.Proofs.YtaclhhkblbacgaaGreat
open Go.RowKit Go.Proofs.Tryz
variable {k:ByteArray}
theorem NT {k:List Pc}(hk:aX k){f:List Rg}:cX k f=k↔∀s,cQ f s=false→eG k s=[]:=by
 obtain⟨h1,h2⟩:=nR k f
 constructor
 ·intro h s hs
  rw[←h,h2]
  unfold md
  rw[hs];rfl
 ·intro h
  refine pQ h1 hk fun s=>?_
  rw[h2]
  unfold md
  by_cases q:cQ f s=true
  ·rw[V6 q,jE hk]
  ·rw[V3 q];exact(h s (by simpa using q)).symm
theorem se {s:Sta}(h:oQ s=true):(1≤s.id∧s.id≤16)∧(0≤s.cnt∧s.cnt≤1099511627776)∧s.its.length≤4096∧cb s.flt∧gV s.its=true∧aX s.know∧cX s.know s.flt=s.know∧lm s.know s.id≤s.cnt∧ja s.its=true∧∀x∈s.its,cQ s.flt x.key=true∧cp s.know x.key x.rep x.cnt=true:=by
 unfold oQ at h
 simp only[Wi,Wn,WJ]at h
 obtain⟨⟨⟨⟨⟨⟨⟨⟨⟨h1,h2⟩,h3⟩,h4⟩,h5⟩,h6⟩,h7⟩,h8⟩,h9⟩,h10⟩:=h
 exact⟨h1,h2,h3,h4,h5,h6,h7,h8,h9,h10⟩
theorem CX {l:List It}(h:gV l=true):l.all eC=true:=by
 unfold gV at h
 rw[Wi]at h
 exact h.1
theorem Jf:∀(a s:List UInt8),dr a s≤0→dr s (a++[0])<0→s=a:=by
 intro a
 induction a with
 | nil=>
  intro s _ h
  cases s with
  | nil=>rfl
  | cons c t=>
   exfalso
   have hc:¬c.toNat<(0:UInt8).toNat:=au
   simp only[Wu,dr]at h
   rw[V3 hc]at h
   split at h
   ·omega
   ·cases t<;>simp[dr]at h
 | cons x a ih=>
  intro s h1 h2
  cases s with
  | nil=>simp[dr]at h1
  | cons c t=>
   simp only[List.cons_append,dr]at h1 h2
   by_cases q1:x.toNat<c.toNat
   ·rw[V3 ab,V6 q1]at h2;omega
   ·rw[V3 q1]at h1
    by_cases q2:c.toNat<x.toNat
    ·rw[V6 q2]at h1;omega
    ·rw[V3 q2]at h1
     rw[V3 q2,V3 q1]at h2
     have e:c=x:=Xj.1 ab
     rw[e,ih t h1 h2]
theorem yq:∀(a:List UInt8),dr a (a++[0])<0:=by
 intro a
 induction a with
 | nil=>simp[dr]
 | cons x a ih=>
  simp only[List.cons_append,dr]
  rw[V3 ab,V3 ab];exact ih
theorem app0 (k:ByteArray):(k++⟨#[0]⟩:ByteArray).data.toList=k.data.toList++[0]:=au
theorem RQ (h:pd k=true):fX ⟨k,k++⟨#[0]⟩,false⟩=true:=by
 rw[b0]
 unfold pd at h
 simp at h
 have hs:(k++⟨#[0]⟩:ByteArray).size=k.size+1:=by rw[ByteArray.size_append];rfl
 refine⟨aA,aA,?_⟩
 simp only[WH,XC]
 unfold cP
 rw[app0]
 exact yq _
theorem CY (h:pd k=true)(s:ByteArray):cO ⟨k,k++⟨#[0]⟩,false⟩ s=true↔s=k:=by
 rw[da (RQ h)]
 simp only[WH,false_or]
 constructor
 ·rintro⟨h1,h2⟩
  rw[←Cn]at h1
  rw[←i7]at h2
  unfold cP at h1 h2
  rw[app0]at h2
  exact ByteArray.ext (Array.ext' (Jf _ _ h1 h2))
 ·rintro rfl
  refine⟨(Cn _ _).1 (by rw[ve];decide),?_⟩
  rw[←i7]
  unfold cP
  rw[app0]
  exact yq _
theorem Fm {r c:Int}(h1:pd k=true)(h2:gm r c=true):aX (pg k r c)∧∀s,eG (pg k r c) s=if s=k then [⟨r,[⟨c,c⟩]⟩]else []:=by
 unfold pg
 rw[h1,h2,V6 (by rfl)]
 have hv:1≤r∧r≤16∧1≤c∧c≤1099511627776:=by
  unfold gm at h2
  simp at h2
  omega
 have hkn:cu [⟨r,[⟨c,c⟩]⟩]:=by
  rw[vu]
  refine⟨⟨hv.1,hv.2.1,au,fun i hi=>?_⟩,fun q hq=>(by simp at hq),ma⟩
  intro hi'
  have:i=0:=by simp at hi;omega
  subst this
  exact⟨(cD _).2 ⟨bn,au,bn⟩,fun q=>ab⟩
 refine⟨(dj _ _).2 ⟨⟨RQ h1,au,hkn⟩,fun q hq=>(by simp at hq),gi⟩,fun s=>?_⟩
 by_cases e:s=k
 ·rw[V6 e,lh ((CY h1 s).2 e)]
 ·rw[V3 e,gg (fun w=>e ((CY h1 s).1 w)),qJ]
theorem G1 {r c:Int}(hr:1≤r∧r≤16){j:Int}(hj:1≤j):bh [⟨r,[⟨c,c⟩]⟩] (j-1).toNat=if r=j then [⟨c,c⟩]else []:=by
 unfold bh
 simp only[List.flatMap_cons,WC,Wg]
 by_cases e:r=j
 ·rw[V6 e,V6 ab]
 ·rw[V3 e,V3 ab]
theorem CZ {a b:List Pc}(ha:aX a)(hb:aX b)(h:∀s r c,cp a s r c=cp b s r c):a=b:=by
 refine pQ ha hb fun s=>EY (zz ha s) (zz hb s) fun r hr n=>?_
 have h1:=h s ((r:Int)+1) n
 rw[iJ ha,iJ hb,Wo,kA,kA,show((r:Int)+1-1).toNat=r by omega]at h1
 have hv:(1≤n∧n≤1099511627776)→gm ((r:Int)+1) n=true:=fun q=>by unfold gm;simp;omega
 constructor
 ·intro q;exact(h1.1 ⟨hv (vf q),q⟩).2
 ·intro q;exact(h1.2 ⟨hv (vf q),q⟩).2
theorem yt {r c:Int}(h1:pd k=true)(h2:gm r c=true)(s:ByteArray)(r' c':Int):cp (pg k r c) s r' c'=(decide (s=k)&&(decide (r'=r)&&decide (c'=c))):=by
 obtain⟨a1,a2⟩:=Fm h1 h2
 have hv:1≤r∧r≤16∧1≤c∧c≤1099511627776:=by
  unfold gm at h2
  simp at h2
  omega
 rw[iJ a1,a2,Wo]
 by_cases e:s=k
 ·rw[V6 e,kA,Wb e,WP,Wi,Wn,Wn]
  constructor
  ·rintro⟨q1,q2⟩
   have:=vF q1
   rw[G1 ⟨hv.1,hv.2.1⟩ this.1]at q2
   split at q2
   ·rename_i w
    rw[cw]at q2
    rcases q2 with q2|q2
    ·exact⟨w.symm,by have:=q2.2;simp only at this;omega⟩
    ·exact absurd q2 (gK _)
   ·exact absurd q2 (gK _)
  ·rintro⟨rfl,rfl⟩
   refine⟨h2,?_⟩
   rw[G1 ⟨hv.1,hv.2.1⟩ hv.1,V6 rfl,cw]
   exact .inl ⟨(cD _).2 ⟨bn,au,bn⟩,au,au⟩
 ·rw[V3 e,oS,Wj e,WV]
def Jg (l:List It):List Pc:=l.foldl (fun k x=>wq (k++(if gm x.rep x.cnt then pg x.key x.rep x.cnt else []))) []
theorem Fo (x:It):aX (if gm x.rep x.cnt then pg x.key x.rep x.cnt else []):=by
 split
 ·rename_i h
  by_cases q:pd x.key=true
  ·exact(Fm q h).1
  ·unfold pg;rw[Bool.eq_false_iff.2 q];simpa using gi
 ·exact gi
def TE (x:It)(s:ByteArray)(r c:Int):Bool:=decide (s=x.key)&&(decide (r=x.rep)&&decide (c=x.cnt))
theorem vQ {l:List It}(hl:l.all eC=true):aX (Jg l)∧∀s r c,cp (Jg l) s r c=l.any fun x=>TE x s r c:=by
 unfold Jg
 have key:∀(l:List It)(k:List Pc),l.all eC=true→aX k→aX (l.foldl (fun k x=>wq (k++(if gm x.rep x.cnt then pg x.key x.rep x.cnt else []))) k) ∧
  ∀s r c,cp (l.foldl (fun k x=>wq (k++(if gm x.rep x.cnt then pg x.key x.rep x.cnt else []))) k) s r c=(cp k s r c||l.any fun x=>TE x s r c):=by
  intro l
  induction l with
  | nil=>intro k _ hk;exact⟨hk,fun s r c=>au⟩
  | cons x l ih=>
   intro k h hk
   rw[List.all_cons,Wi]at h
   obtain⟨i1,i2⟩:=ih (wq (k++(if gm x.rep x.cnt then pg x.key x.rep x.cnt else []))) h.2 (pT _).1
   refine⟨i1,fun s r c=>?_⟩
   have hx:=h.1
   unfold eC at hx
   simp only[Wi]at hx
   rw[List.foldl_cons,i2,vG hk (Fo x),V6 hx.1.2,yt hx.1.1 hx.1.2,List.any_cons]
   unfold TE
   rw[Bool.or_assoc]
 obtain⟨h1,h2⟩:=key l [] hl gi
 exact⟨h1,fun s r c=>by rw[h2];rfl⟩
theorem jb {l:List It}(h:l.all eC=true):l.filter eC=l:=List.filter_eq_self.2 fun x hx=>WJ.1 h x hx
structure NU (t:Sta)(c:List It)(g:Sta):Prop where
 id:g.id=t.id
 flt:g.flt=t.flt
 cnt:g.cnt=t.cnt
 right:oQ g=true
 look:∀k,fQ k g.its=fQ k (t.its++c)
 has:∀s r n,cp g.know s r n=(cp t.know s r n||c.any fun x=>TE x s r n)
theorem vR {s:Sta}(h:oQ s=true):s.its.all eC=true∧Up s.its:=by
 obtain⟨_,_,_,_,c5,_⟩:=se h
 exact⟨CX c5,yf (oT.1 c5)⟩
theorem Fp (l:List Rg)(hl:l.length≤1000000000):Fn prog 92 [ec l] (CJ l):=by
 by_cases h0:0<l.length
 ·refine fi func92 ntmps92 ?_
  (refine w0 ?_;repeat' first|apply ah|refine ai fun hc=>?_)
  exact nx
 ·obtain rfl:l=[]:=Wf ab
  refine fi func92 ntmps92 ?_
  (refine w0 ?_;repeat' first|apply ah|refine ai fun hc=>?_)
  ·exact dw (dv rfl)
  ·exact nx
end Go.Proofs.YtaclhhkblbacgaaGreat
