/- Lemmas, walks. -/
import Derived.Test.YtecdgdoledkdfaaGreatJ14
set_option maxRecDepth 10000
set_option maxHeartbeats 8000000
namespace Go.Proofs.YtecdgdoledkdfaaGreat
open Go.RowKit Go.Proofs.Tryz
variable {α:Type}
theorem H8 {M:Nat}:∀(T:List (List Rn)) (i:Nat),(∀l∈T,l.length<=M)->(bO ofR i T).length<=T.length/\((bO ofR i T).flatMap Kn.runs).length<=T.length*M:=by
 intro T
 induction T with
 | nil=>grind[bO]
 | cons l T ih=>
  intro i h
  have h1:=ih (i+1) (λx hx=>h x (aaY _ hx))
  have h2:=h l aA
  have h3:=Ca l
  rw[bO,List.flatMap_append,aai,aai,aaD,Nat.add_mul,Nat.one_mul]
  grind
theorem v6 {X:List Kn}{M:Nat}(h:(X.flatMap Kn.runs).length<=M):(gQ ofR X).length<=16/\((gQ ofR X).flatMap Kn.runs).length<=16*M:=by
 have:=H8 (M:=M) (di X) 0 (λl hl=>by
  obtain⟨r,_,rfl⟩:=List.mem_map.1 hl
  have:=i8 X r
  omega)
 rw[dp]at this
 exact this
theorem QG {k:List Pc}(hk:ez k)(s:ByteArray):(mz k s).length<=16/\((mz k s).flatMap Kn.runs).length<=16000000:=by
 have h1:=ii Kn.runs (xW (xX s) k)
 have:=v6 (X:=k.flatMap (ko s)) (M:=1000000) (by have:=hk.2.2;omega)
 exact this
theorem UZ {k:List Pc}{m:ByteArray}(h:m∈m0 k):m.size<=1000000000:=by have:=Cg k m h;omega
theorem xY (k:List Pc):(m0 k).length<=1+2*k.length:=by
 have:=lw (cV k) [emB]
 grind[m0,cV]
theorem QH (k:List Pc)(hk:aY k)(hm:fe k):Fn prog 210 [dN k] (sK k):=by
 have hl:=hm.1
 refine fi func210 ntmps210 ?_
 (refine w0 ?_)
 refine bw (bS 3 700 112 4 rfl rfl) ?_
 refine aj (X:=Nat) (λz=>z<=k.length)
  (λz=>aF [(3,.row 700 0),(6,dN k),(7,iC .i64 (k.length:Nat)),(8,iC .i64 ((z:Nat):Int))] [(700,UY (k.take z))]) (λz=>k.length-z) 0 (aag _) ?_
 intro z hz
 by_cases hlt:z<k.length
 ·have hset:=(hk z hlt hlt).2.2.1
  have htot:dJ k[z].set:=hm.2 _ (aar hlt)
  have c1:=(pc k[z].set htot hset).frz
  have hsn:k.take (z+1)=k.take z++[k[z]]:=by rw[List.take_succ_eq_append_getElem hlt]
  have hlk:(k.take z).length<=z:=by rw[aaK];omega
  generalize k.take z=A at *
  clear hk hm
  (refine au c1 ?_;refine ah λhc=>?_)
  refine⟨z+1,hlt,ae,az (aU 700 701) (az (aU 701 700) ?_)⟩
  rw[hsn]
  exact ab
 ·rw[aaj (show k.length<=z by omega)]
  (refine w0 ?_;refine ah λhc=>?_)
  exact oo
theorem dP {k:List Pc}(h:ez k):fe k:=⟨by have:=h.1;omega,λp hp=>by
 have h1:=fE Pc.set hp
 have h2:=ii Kn.runs (a:=p.set) (b:=k.flatMap Pc.set) (by
  clear h1 h
  induction k<;>grind)
 have h3:=h.2
 exact⟨ae,ae⟩⟩
theorem XO (k:List Pc)(s:ByteArray)(hk:ez k)(hs:s.size<=1000000000):Fn prog 211 [sC s,.per (em [ib k])] (sE (mz k s)):=by
 have h1:=Wx k s hk hs
 generalize mz k s=A at *
 refine fi func211 ntmps211 ?_
 (refine Wk h1 ?_)
 exact oo
theorem xZ (k:List Pc)(hok:aY k)(hk:fe k):Fn prog 124 [ox k] (sK k):=by
 have h0:=iM k hk true (by simp[hok])
 have h1:=QH k hok hk
 clear hok hk
 refine fi func124 ntmps124 ?_
 (refine bt h0 h1 ?_;refine ah λhc=>?_)
 exact oo
theorem Zd (k:List Pc)(hk:ez k):Fn prog 124 [ox k] (sK (zo k)):=by
 have hl:=hk.1
 by_cases hok:aY k
 ·rw[QB hok]
  grind[xZ,dP]
 ·have h0:=iM k (dP hk) false (by simp[hok])
  have h1:=ES [k] aA bD
  have e1:[k].flatten=k:=aA
  rw[e1]at h1
  have hlE:=xY k
  have h2:=EU 211 [em [ib k]] (mz k) (m0 k) ae (λs hs=>(XO k s hk (UZ hs)).frz.toM) (λs _=>ut k s) (λs _=>by
   have:=QG hk s
   exact⟨ae,ae⟩)
  rw[show re (mz k) (m0 k)=zo k from rfl]at h2
  generalize zo k=R at *
  generalize m0 k=E at *
  clear hlE e1 hok hk
  refine fi func124 ntmps124 ?_
  (refine au h0 ?_;refine ah λhc=>?_)
  refine aV (tZ 1 _ 24 rfl rfl rfl) ?_
  (repeat' (first|((first|apply aH rfl|apply cB rfl|apply aJ rfl|apply cC rfl);focus (first|((apply bn 22;(focus rfl);exact J0 ⟨rfl,rfl,rfl⟩ rfl rfl))|(apply gR;(focus rfl);apply ag rfl rfl rfl rfl rfl;((apply bn 22;(focus rfl);exact J0 ⟨rfl,rfl,rfl⟩ rfl rfl)))))|refine oq ?_|refine bW cI ?_|(refine dW rfl rfl ⟨λhc=>?_,λhc=>?_⟩<;>(repeat rw[aad]at hc)<;>(try exact cj hc))|((first|apply aH rfl|apply cB rfl|apply aJ rfl|apply cC rfl);focus (first|((refine Ni (h1) (hg:=?_);((repeat (first|exact GL.nil|(refine GL.cons ?_ ?_;focus (first|exact eF rfl|exact ff rfl|exact gF rfl rfl rfl|exact fg rfl|exact gG rfl|exact fa rfl))));done)))|(apply gR;(focus rfl);apply ag rfl rfl rfl rfl rfl;((refine Ni (h1) (hg:=?_);((repeat (first|exact GL.nil|(refine GL.cons ?_ ?_;focus (first|exact eF rfl|exact ff rfl|exact gF rfl rfl rfl|exact fg rfl|exact gG rfl|exact fa rfl))));done))))|((refine Ni (h2) (hg:=?_);((repeat (first|exact GL.nil|(refine GL.cons ?_ ?_;focus (first|exact eF rfl|exact ff rfl|exact gF rfl rfl rfl|exact fg rfl|exact gG rfl|exact fa rfl))));done)))|(apply gR;(focus rfl);apply ag rfl rfl rfl rfl rfl;((refine Ni (h2) (hg:=?_);((repeat (first|exact GL.nil|(refine GL.cons ?_ ?_;focus (first|exact eF rfl|exact ff rfl|exact gF rfl rfl rfl|exact fg rfl|exact gG rfl|exact fa rfl))));done))))))|((first|refine dX rfl rfl rfl ⟨λhc=>?_,λhc=>?_⟩|refine dY rfl rfl rfl ⟨λhc=>?_,λhc=>?_⟩)<;>(fail_if_success (have q:(true=true):=hc))<;>(fail_if_success (have q:(false=false):=hc))<;>(repeat rw[aad]at hc)<;>(try exact cj hc))|refine aQ rfl rfl (λhc=>?_) ?_))
  exact oo
theorem U0 (ls:List (List Pc))(hl:ls.length<=1000)(hk:ez ls.flatten):Fn prog 66 [.bor 1 (ls.map λk=>[ib k])] (sK (zo ls.flatten)):=by
 have h1:=Zd ls.flatten hk
 have hkl:=hk.1
 generalize zo ls.flatten=R at *
 clear hk
 refine fi func66 ntmps66 ?_
 (refine w0 ?_)
 refine bw (bS 3 700 112 4 rfl rfl) ?_
 refine aj (X:=Nat) (λz=>z<=ls.length)
  (λz=>aF [(3,.row 700 0),(6,.bor 1 (ls.map λk=>[ib k])),(7,iC .i64 (ls.length:Nat)),(8,iC .i64 ((z:Nat):Int))] [(700,UY (ls.take z).flatten)]) (λz=>ls.length-z) 0 (aag _) ?_
 intro z hz
 by_cases hlt:z<ls.length
 ·have htk:(ls.take (z+1)).flatten=(ls.take z).flatten++ls[z]:=by rw[List.take_succ_eq_append_getElem hlt,List.flatten_append];simp
  have hsub:(ls.take (z+1)).flatten.length<=ls.flatten.length:=by grind[aa0]
  rw[htk,aai]at hsub
  generalize (ls.take z).flatten=A at *
  clear h1
  (refine w0 ?_;refine ah λhc=>?_)
  refine⟨z+1,hlt,ae,az (aU 700 701) (az (aU 701 700) ?_)⟩
  rw[htk]
  exact ab
 ·rw[aaj (show ls.length<=z by omega)]
  generalize ls.flatten=A at *
  (refine w0 ?_;refine ah λhc=>?_)
  refine aV (iW 700 _ 112 4 rfl rfl) ?_
  (refine au h1 ?_)
  exact oo
theorem H9 {a b:List Kn}(ha:ck a)(hb:ck b)(h:∀r,r<16->∀n,gw (bx a r) n↔gw (bx b r) n):a=b:=by
 have e:(di a).map ofR=(di b).map ofR:=by
  apply List.ext_getElem?
  grind[ev,EI,dp]
 have:=lZ (di a) 0
 rw[e,lZ]at this
 have h1:=nM ha
 have h2:=nM hb
 grind[gQ]
theorem Ia (s:List Kn){r:Nat}(hr:r<16):bx (gQ ofR s) r=ofR (bx s r):=by
 have h:=rf s
 have h1:=ev (gQ ofR s) hr
 rw[h,List.getElem?_map,ev _ hr]at h1
 grind
theorem LQ (a b:List Kn)(r:Nat):bx (a++b) r=bx a r++bx b r:=by grind[bx]
theorem Ib (a b:List Pc)(s:ByteArray):mz (a++b) s=gQ ofR (mz a s++mz b s):=by
 rw[<-UV]
 have:=EN (mz a s) (mz b s)
 rw[nM (ut a s),nM (ut b s)]at this
 exact this
section
variable {P:Program} {n:Nat} {ops:Array Oper} {o:Oper} {S:St}
theorem Nk {f:FuncId}{x0:Operand}{xs:List Operand}{As:List Cnt}{pre post:List (Nat×Blk)}{r:Cnt}(sg:List (Nat×Nat))(hf:bZ P f As pre r post)(hp:KZ n o:=by exact⟨rfl,rfl⟩)(ho:kI o x0 xs:=by exact⟨_,rfl⟩)(hx:S.opd x0=.per (ai (.func (.func f) #[] #[])):=by rfl)(hok:NX sg=true:=by rfl)
 (hg:uY S sg xs As:=by first|((repeat (first|exact uY.nil|(refine uY.cons ?_ ?_;focus (first|exact qS rfl|exact qT rfl|exact gq_row rfl rfl rfl rfl|exact qU rfl|exact gq_nil rfl|exact gq_nil' rfl|exact oT rfl rfl))));done)|fail) (hpre:oj S sg pre:=by first|((repeat (first|exact oj.nil|(refine oj.cons rfl rfl ?_)));done)|fail):aB n P ops o (aG x0++(fZ S xs++Gk sg)) (r.mp false (lI sg) z0 (za S.ver sg)) (oO S post sg sg) S:=
 mI (cs:=[]) sg hp ho (DP hx (λk h=>by simp[h])) (by simpa using hf) hok (λp h=>by simp[wK p h]) (hg.gives (λ_ h=>by grind) (λ_ h=>by simp[h])) hpre
end
def EV (x:It):List It->List It->List It
 | [],r=>x::r
 | y::l,r=>if cG x.key y.key<0 then EV x l (y::r)else(y::l).reverse++x::r
def zr (p:List It)(x:It):List It:=EV x p.reverse []
def fT (l:List It):List It:=l.foldl zr []
theorem QI (x:It):∀(l r:List It),(EV x l r).length=l.length+1+r.length:=by
 intro l
 induction l<;>grind[EV]
abbrev pj:Cnt:=.per (ai (.func (.func 138) #[] #[]))
abbrev gz (l:List It):Blk:=.row 79 7 (l.map itP)
def n8 (l:List It):Prop:=∀x∈l,x.key.size<=1000000000
theorem gk (A:List α)(x y:α)(T:List α)(j:Nat)(hj:j=A.length):(A++x::T).set j y=A++y::T:=by subst hj;simp
theorem gl (l:List α):l=[]\/∃(l':List α)(y:α),l=l'++[y]:=by
 rcases List.eq_nil_or_concat l with h|⟨a,y,h⟩
 all_goals grind
theorem cO {β:Type}(f:α->β)(l:List α)(j:Nat)(y:α):(l.map f).set j (f y)=(l.set j y).map f:=by rw[List.map_set]
theorem sL (x y:It)(hx:x.key.size<=1000000000):bZ prog 138 [vq x,vq y] [] (.per (ai (.int .i64 (cG x.key y.key)))) []:=by
 have h1:=hY x.key y.key ae
 refine cp func138 ntmps138 ?_
 (refine au h1 ?_)
 refine⟨(by grind),dv [] rfl rfl .nil ?_⟩
 exact bh rfl rfl
theorem EW (A M Z:List It)(hk:n8 M)(hl:(A++M++Z).length<=1000000000):bZ prog 259 [.row 1000 0,iC .i64 (A.length:Nat),iC .i64 ((A.length+M.length:Nat):Int),pj] [(1000,gz (A++M++Z))] .any [(1000,gz (A++fT M++Z))]:=by
 generalize hR:A++fT M++Z=R
 generalize hb:A.length+M.length=b
 simp only[aai]at hl
 refine cp func259 ntmps259 ?_
 (refine w0 ?_)
 refine ci (X:=Nat×List It×List It) (λx=>A.length<x.1/\x.1<=b+1/\A.length+x.2.1.length=min x.1 b/\A.length+x.2.1.length+x.2.2.length=b/\n8 x.2.1/\n8 x.2.2/\A++x.2.2.foldl zr x.2.1++Z=R)
  (λx=>aF [(0,.row 1000 0),(1,iC .i64 (A.length:Nat)),(2,iC .i64 (b:Nat)),(3,pj),(8,iC .i64 (x.1:Nat))] [(1000,gz (A++x.2.1++(x.2.2++Z)))]) (λx=>b+1-x.1) (A.length+1,M.take 1,M.drop 1) ?_ ?_ ?_
 ·refine⟨aL,aL,by grind,by grind,λx h=>hk x (abC h),λx h=>hk x (List.mem_of_mem_drop h),?_⟩
  rw[<-hR]
  cases M with
  | nil=>rfl
  | cons x M=>rfl
 ·have e:A++M.take 1++(M.drop 1++Z)=A++M++Z:=by rw[aal,<-aal (M.take 1),aa0,aal]
  rw[e]
  exact ab
 ·rintro⟨i,p,q⟩ ⟨h1,h2,h3,h4,hkp,hkq,h5⟩
  simp only at h1 h2 h3 h4 hkp hkq h5 ⊢
  by_cases hlt:i<b
  ·obtain⟨x,q,rfl⟩:∃x q',q=x::q':=by cases q<;>grind
   have hip:A.length+p.length=i:=ae
   clear h3
   have hkx:=hkq x aA
   simp only[aaD,List.foldl_cons]at h4 h5
   (repeat' (first|refine oq ?_|(refine dW rfl rfl ⟨λhc=>?_,λhc=>?_⟩<;>(repeat rw[aad]at hc)<;>(try exact cj hc))|((first|refine dX rfl rfl rfl ⟨λhc=>?_,λhc=>?_⟩|refine dY rfl rfl rfl ⟨λhc=>?_,λhc=>?_⟩)<;>(fail_if_success (have q:(true=true):=hc))<;>(fail_if_success (have q:(false=false):=hc))<;>(repeat rw[aad]at hc)<;>(try exact cj hc))|refine aQ rfl rfl (λhc=>?_) ?_))
   refine ci (X:=List It×List It) (λy=>y.1.length+y.2.length=p.length/\n8 y.1/\n8 y.2/\EV x y.1.reverse y.2=zr p x)
    (λy=>aF [(0,.row 1000 0),(1,iC .i64 (A.length:Nat)),(2,iC .i64 (b:Nat)),(3,pj),(8,iC .i64 (i:Nat)),(9,iC .i64 ((A.length+y.1.length:Nat):Int))] [(1000,gz (A++y.1++x::(y.2++(q++Z))))]) (λy=>y.1.length) (p,[]) ⟨aA,hkp,λx h=>by simp at h,rfl⟩ ?_ ?_
   ·subst hip
    exact ab
   ·rintro⟨p1,p2⟩ ⟨g1,gk1,gk2,g2⟩
    simp only at g1 gk1 gk2 g2 ⊢
    have out:zr p x=p1++x::p2->(∃z:Nat×List It×List It,(A.length<z.1/\z.1<=b+1/\A.length+z.2.1.length=min z.1 b/\A.length+z.2.1.length+z.2.2.length=b/\n8 z.2.1/\n8 z.2.2/\A++z.2.2.foldl zr z.2.1++Z=R)/\z=(i+1,p1++x::p2,q)):=λe=>by
     refine⟨_,⟨aL,aL,bD,bD,λy hy=>?_,λy hy=>hkq y (by simp[hy]),by rw[<-e];exact h5⟩,rfl⟩
     rcases aaS.1 hy with h|h
     ·exact gk1 y h
     ·rcases aaU.1 h with h|h
      ·subst h;exact hkx
      ·exact gk2 y h
    have hL0:A++p1++x::(p2++(q++Z))=A++(p1++x::p2)++(q++Z):=aA
    rcases gl p1 with rfl|⟨p1',y,rfl⟩
    ·have e:zr p x=[]++x::p2:=by rw[<-g2];rfl
     obtain⟨z,hz,rfl⟩:=out e
     rw[hL0]
     (refine w0 ?_;repeat' first|apply aw|refine ah λhc=>?_)
     refine⟨_,hz,aL,?_⟩
     exact ab
    ·obtain⟨j,hj⟩:∃j,A.length+p1'.length=j:=⟨_,rfl⟩
     have hj1:A.length+(p1'++[y]).length=j+1:=bD
     have hky:=gk1 y aA
     have hm:=sL x y hkx
     generalize hL:A++(p1'++[y])++x::(p2++(q++Z))=L at *
     have hlen:j+1<L.length:=by rw[<-hL];simp;omega
     have HJ:(L.map itP)[j+1]?=some (itP x):=by rw[List.getElem?_map,<-hL,List.getElem?_append_right bD,aai,hj1,Nat.sub_self];rfl
     have HJ1:(L.map itP)[j]?=some (itP y):=by
      rw[List.getElem?_map,<-hL,aal,aal,List.getElem?_append_right ae,List.getElem?_append_right ae]
      rw[show j-A.length-p1'.length=0 by omega];rfl
     rw[hj1]
     have hrev:(p1'++[y]).reverse=y::p1'.reverse:=aA
     rw[hrev,EV]at g2
     have HS1:(L.map itP).set (j+1) (cN (itP x) 0 (itP y))=(L.set (j+1) y).map itP:=by rw[<-cO];rfl
     have HJ2:((L.set (j+1) y).map itP)[j]?=some (itP y):=by rw[<-cO,List.getElem?_set_ne ae];exact HJ1
     have HS2:((L.set (j+1) y).map itP).set j (cN (itP y) 0 (itP x))=(A++p1'++x::((y::p2)++(q++Z))).map itP:=by
      rw[cO itP (L.set (j+1) y) j x |>.symm.trans rfl |> λh=>(show((L.set (j+1) y).map itP).set j (cN (itP y) 0 (itP x))=((L.set (j+1) y).set j x).map itP from cO itP _ j x)]
      rw[<-hL,gk (A++(p1'++[y])) x y _ (j+1) bD,show A++(p1'++[y])++y::(p2++(q++Z))=(A++p1')++y::(y::(p2++(q++Z)))by simp,gk (A++p1') y x _ j bD]
      simp
     by_cases hxy:cG x.key y.key<0
     ·rw[aae hxy]at g2
      clear out
      (refine w0 ?_;repeat' first|apply aw|refine ah λhc=>?_|((first|apply aH rfl|apply cB rfl|apply aJ rfl|apply cC rfl);(focus (try apply ag rfl rfl rfl rfl rfl);first|((apply bn 5;(focus rfl);first|exact aD ⟨rfl,rfl,rfl⟩ rfl aS aS rfl rfl rfl HJ rfl rfl rfl|exact aD ⟨rfl,rfl,rfl⟩ rfl aS aS rfl rfl rfl HJ1 rfl rfl rfl))|((apply bn 6;(focus rfl);first|exact aW ⟨rfl,rfl⟩ rfl aS rfl rfl rfl rfl HJ rfl (.inl rfl) rfl HS1|exact aW ⟨rfl,rfl⟩ rfl aS rfl rfl rfl rfl HJ2 rfl (.inl rfl) rfl HS2))|(exact Nk [] hm));refine w0 ?_))
      refine⟨(p1',y::p2),⟨by simp at g1 ⊢;omega,λz h=>gk1 z (by simp[h]),λz h=>?_,g2⟩,aA,?_⟩
      ·rcases aaU.1 h with h|h
       ·subst h;exact hky
       ·exact gk2 z h
      ·simp only[hj]
       exact ab
     ·rw[aab hxy]at g2
      have e:zr p x=(p1'++[y])++x::p2:=by rw[<-g2];simp
      obtain⟨z,hz,rfl⟩:=out e
      (refine w0 ?_;repeat' first|apply aw|refine ah λhc=>?_|((first|apply aH rfl|apply aJ rfl);(focus (try apply ag rfl rfl rfl rfl rfl);first|((apply bn 5;(focus rfl);first|exact aD ⟨rfl,rfl,rfl⟩ rfl aS aS rfl rfl rfl HJ rfl rfl rfl|exact aD ⟨rfl,rfl,rfl⟩ rfl aS aS rfl rfl rfl HJ1 rfl rfl rfl))|(exact Nk [] hm));refine w0 ?_))
      refine⟨_,hz,aL,?_⟩
      simp only
      rw[<-hL0]
      exact ab
  ·have hq:q=[]:=aax ae
   subst hq
   simp only[List.foldl_nil]at h5
   (refine w0 ?_;refine ah λhc=>?_)
   rw[aaE,h5]
   exact kJ
def sM (out:List It)(x:It):List It:=match out.reverse with
 | []=>[x]
 | y::r=>if y.key=x.key then(if Lf x y>0 then r.reverse++[x]else out)else out++[x]
def eJ (ls:List (List It)):List It:=(fT (ls.flatten.filter dA)).foldl sM []
theorem QJ (out:List It)(x:It):(sM out x).length<=out.length+1:=by
 unfold sM
 rcases gl out with rfl|⟨o,y,rfl⟩
 ·simp
 ·simp only[List.reverse_append,abE,List.reverse_nil,aaE,abv]
  split
  ·split<;>simp
  ·simp
theorem jv (l:List It):(fT l).length=l.length:=by
 unfold fT
 have:∀(l p:List It),(l.foldl zr p).length=p.length+l.length:=by
  intro l
  induction l with
  | nil=>intro p;rfl
  | cons x l ih=>
   intro p
   rw[List.foldl_cons,ih]
   unfold zr
   rw[QI];simp;omega
 simpa using this l []
theorem LR {l:List It}(h:∀x∈l,dA x=true):n8 l:=λx hx=>by
 have:=(fQ (h x hx)).2.2.2
 omega
def ltK (x y:It):Bool:=decide (cG x.key y.key<0)
theorem XP (x:It):∀(l r:List It),EV x l r=mw ltK x l r:=by
 intro l
 induction l<;>grind[EV,mw,ltK]
theorem rj (l:List It):fT l=eC ltK l:=by
 have:zr=lq ltK:=by funext p x;exact XP x _ _
 grind[fT,eC]
theorem v7:∀(a b c:List UInt8),dZ a a=0/\(dZ a b<0->dZ b c<0->dZ a c<0)/\(¬dZ a b<0->¬dZ b c<0->¬dZ a c<0):=by
 intro a
 induction a with
 | nil=>intro b c;cases b<;>cases c<;>simp[dZ]
 | cons x a ih=>
  intro b c
  refine⟨by simp[dZ,(ih a a).1],?_⟩
  cases b with
  | nil=>cases c<;>simp[dZ]
  | cons y b=>
   cases c<;>grind[dZ]
theorem fk:vy ltK:=by
 refine⟨λx=>?_,λx y z h1 h2=>?_,λx y z h1 h2=>?_⟩
 ·exact aap (by have:=(v7 x.key.data.toList [] []).1;unfold cG;omega)
 ·exact aao ((v7 x.key.data.toList y.key.data.toList z.key.data.toList).2.1 (of_decide_eq_true h1) (of_decide_eq_true h2))
 ·exact aap ((v7 x.key.data.toList y.key.data.toList z.key.data.toList).2.2 (of_decide_eq_false h1) (of_decide_eq_false h2))
theorem j1 {l r:List It}(h:n8 r)(hs:∀x∈l,x∈r):n8 l:=λx hx=>h x (hs x hx)
theorem bX (A:List α)(x:α)(T:List α)(j:Nat)(hj:j=A.length):(A++x::T)[j]?=some x:=by subst hj;simp
theorem x7 (A X B Y Z:List It)(a b n:Int)(ha:a=(A.length:Nat))(hb:b=((A.length+X.length+B.length:Nat):Int))(hn:n=(X.length:Nat))(hxy:X.length=Y.length)(hl:A.length+X.length+B.length+Y.length+Z.length<=1000000000) :
 bZ prog 332 [.row 1000 0,iC .i64 a,iC .i64 b,iC .i64 n,pj] [(1000,gz (A++X++B++Y++Z))] .any [(1000,gz (A++Y++B++X++Z))]:=by
 subst ha hb hn
 generalize hR:A++Y++B++X++Z=R
 refine cp func332 ntmps332 ?_
 (refine w0 ?_)
 refine ci (X:=List It×List It×List It×List It) (λx=>x.1.length+x.2.1.length=X.length/\x.1.length=x.2.2.1.length/\x.2.1.length=x.2.2.2.length/\A++(x.2.2.1++x.2.2.2)++B++(x.1++x.2.1)++Z=R)
  (λx=>aF [(0,.row 1000 0),(1,iC .i64 (A.length:Nat)),(2,iC .i64 ((A.length+X.length+B.length:Nat):Int)),(3,iC .i64 (X.length:Nat)),(10,iC .i64 (x.1.length:Nat))] [(1000,gz (A++x.2.2.1++(x.2.1++(B++(x.1++(x.2.2.2++Z))))))]) (λx=>x.2.1.length) ([],X,[],Y) ⟨aA,rfl,hxy,by simpa using hR⟩ ?_ ?_
 ·have e:A++[]++(X++(B++([]++(Y++Z))))=A++X++B++Y++Z:=aA
  rw[e]
  exact ab
 ·rintro⟨x1,x2,y1,y2⟩ ⟨h1,h2,h3,h4⟩
  simp only at h1 h2 h3 h4 ⊢
  cases x2 with
  | nil=>
   have hy2:y2=[]:=aax (by simpa using h3.symm)
   subst hy2
   have hi:x1.length=X.length:=by simpa using h1
   have e:A++y1++([]++(B++(x1++([]++Z))))=R:=by rw[<-h4];simp
   rw[e,hi]
   (refine w0 ?_;refine ah λhc=>?_)
   exact kJ
  | cons x x2=>
   obtain⟨y,y2,rfl⟩:∃y y2',y2=y::y2':=by cases y2<;>grind
   simp only[aaD]at h1 h3
   obtain⟨i,hi⟩:∃i,x1.length=i:=⟨_,rfl⟩
   obtain⟨a,ha⟩:∃a,A.length=a:=⟨_,rfl⟩
   obtain⟨b,hb⟩:∃b,A.length+X.length+B.length=b:=⟨_,rfl⟩
   obtain⟨q,hq⟩:∃q,X.length=q:=⟨_,rfl⟩
   generalize hD:A++y1++(x::x2++(B++(x1++(y::y2++Z))))=D
   have hlen:D.length=A.length+X.length+B.length+Y.length+Z.length:=by rw[<-hD];simp;omega
   have HA:(D.map itP)[((a:Int)+(i:Int)).toNat]?=some (itP x):=by rw[List.getElem?_map,<-hD,show A++y1++(x::x2++(B++(x1++(y::y2++Z))))=(A++y1)++x::(x2++(B++(x1++(y::y2++Z))))by simp,bX _ _ _ _ bD];rfl
   have HB:(D.map itP)[((b:Int)+(i:Int)).toNat]?=some (itP y):=by rw[List.getElem?_map,<-hD,show A++y1++(x::x2++(B++(x1++(y::y2++Z))))=(A++y1++x::x2++B++x1)++y::(y2++Z)by simp,bX _ _ _ _ bD];rfl
   have HS1:(D.map itP).set ((a:Int)+(i:Int)).toNat (cN (itP x) 0 (itP y))=(A++y1++y::(x2++(B++(x1++(y::y2++Z))))).map itP:=by rw[show(D.map itP).set ((a:Int)+(i:Int)).toNat (cN (itP x) 0 (itP y))=(D.set ((a:Int)+(i:Int)).toNat y).map itP from cO itP _ _ _,<-hD,show A++y1++(x::x2++(B++(x1++(y::y2++Z))))=(A++y1)++x::(x2++(B++(x1++(y::y2++Z))))by simp,gk _ _ _ _ _ bD]
   generalize hD1:A++y1++y::(x2++(B++(x1++(y::y2++Z))))=D1 at HS1
   have hlen1:D1.length=D.length:=by rw[hlen,<-hD1];simp;omega
   have HB1:(D1.map itP)[((b:Int)+(i:Int)).toNat]?=some (itP y):=by rw[List.getElem?_map,<-hD1,show A++y1++y::(x2++(B++(x1++(y::y2++Z))))=(A++y1++y::x2++B++x1)++y::(y2++Z)by simp,bX _ _ _ _ bD];rfl
   have HS2:(D1.map itP).set ((b:Int)+(i:Int)).toNat (cN (itP y) 0 (itP x))=(A++(y1++[y])++(x2++(B++(x1++[x]++(y2++Z))))).map itP:=by
    rw[show(D1.map itP).set ((b:Int)+(i:Int)).toNat (cN (itP y) 0 (itP x))=(D1.set ((b:Int)+(i:Int)).toNat x).map itP from cO itP _ _ _,<-hD1,show A++y1++y::(x2++(B++(x1++(y::y2++Z))))=(A++y1++y::x2++B++x1)++y::(y2++Z)by simp,gk _ _ _ _ _ bD]
    simp
   rw[hi,hb,ha,hq]
   (refine w0 ?_;repeat' first|apply aw|refine ah λhc=>?_|((first|apply aH rfl|apply cB rfl|apply aJ rfl|apply cC rfl);(focus (try apply ag rfl rfl rfl rfl rfl);first|((apply bn 5;(focus rfl);first|exact aD ⟨rfl,rfl,rfl⟩ rfl aS aS rfl rfl rfl HA rfl rfl rfl|exact aD ⟨rfl,rfl,rfl⟩ rfl aS aS rfl rfl rfl HB rfl rfl rfl))|((apply bn 6;(focus rfl);first|exact aW ⟨rfl,rfl⟩ rfl aS rfl rfl rfl rfl HA rfl (.inl rfl) rfl HS1|exact aW ⟨rfl,rfl⟩ rfl aS rfl rfl rfl rfl HB1 rfl (.inl rfl) rfl HS2)));refine w0 ?_))
   refine⟨(x1++[x],x2,y1++[y],y2),⟨bD,bD,aL,by rw[<-h4];simp⟩,aA,?_⟩
   simp only[aai,aaD,List.length_nil,hi]
   exact ab
theorem fB (l:List α)(k:Nat)(h:k<=l.length):∃x y,l=x++y/\x.length=k:=⟨l.take k,l.drop k,(aa0 k l).symm,bD⟩
theorem U1 (A U V Z:List It)(a m b:Int)(ha:a=(A.length:Nat))(hm:m=((A.length+U.length:Nat):Int))(hb:b=((A.length+U.length+V.length:Nat):Int))(hU:0<U.length)(hV:0<V.length)(hl:A.length+U.length+V.length+Z.length<=1000000000) :
 bZ prog 305 [.row 1000 0,iC .i64 a,iC .i64 m,iC .i64 b,pj] [(1000,gz (A++U++V++Z))] .any [(1000,gz (A++V++U++Z))]:=by
 generalize hR:A++V++U++Z=R
 obtain⟨k,hk⟩:∃k:Nat,A.length+U.length=k:=⟨_,rfl⟩
 obtain⟨u,hu⟩:∃u:Nat,U.length=u:=⟨_,rfl⟩
 obtain⟨v,hv⟩:∃v:Nat,V.length=v:=⟨_,rfl⟩
 rw[hk]at hm hb
 have ea:m-a=(u:Nat):=ae
 have eb:b-m=(v:Nat):=ae
 subst hm
 refine cp func305 ntmps305 ?_
 (refine oX ea eb ?_)
 refine ci (X:=List It×List It×List It×List It) (λx=>x.1.length+x.2.1.length=k/\0<x.2.1.length/\0<x.2.2.1.length/\x.1.length+x.2.1.length+x.2.2.1.length+x.2.2.2.length<=1000000000/\x.1++x.2.2.1++x.2.1++x.2.2.2=R)
  (λx=>aF [(0,.row 1000 0),(2,iC .i64 (k:Nat)),(4,pj),(10,iC .i64 (x.2.1.length:Nat)),(11,iC .i64 (x.2.2.1.length:Nat))] [(1000,gz (x.1++x.2.1++x.2.2.1++x.2.2.2))]) (λx=>x.2.1.length+x.2.2.1.length) (A,U,V,Z) ⟨aL,hU,hV,hl,hR⟩ ?_ ?_
 ·rw[hu,hv]
  exact ab
 ·rintro⟨A,U,V,Z⟩ ⟨h1,h2,h3,h4,h5⟩
  simp only at h1 h2 h3 h4 h5 ⊢
  clear hR hu hv ea eb hk ha hb hl hU hV
  obtain⟨i,hi⟩:∃i:Nat,U.length=i:=⟨_,rfl⟩
  obtain⟨j,hj⟩:∃j:Nat,V.length=j:=⟨_,rfl⟩
  rcases abG i j with hij|hij|hij
  ·obtain⟨B,Y,rfl,hB⟩:=fB V (j-i) ae
   have hy:Y.length=i:=by simp at hj;omega
   have h:=x7 A U B Y Z ((k:Int)-(i:Int)) ((k:Int)+(j:Int)-(i:Int)) (i:Int) ae ae ae ae (by simp at h4;omega)
   rw[show A++U++(B++Y)++Z=A++U++B++Y++Z by simp,hi,hj]
   (refine ee (im h) ?_;repeat' first|apply aw|refine ah λhc=>?_)
   have hji:((B.length:Nat):Int)=(j:Int)-(i:Int):=ae
   refine⟨(A,Y,B,U++Z),⟨aL,aL,aL,by simp at h4 ⊢;omega,by rw[<-h5];simp⟩,aL,?_⟩
   have e:A++Y++B++(U++Z)=A++Y++B++U++Z:=aA
   simp only[e,hy,hji]
   exact ab
  ·subst hij
   have h:=x7 A U [] V Z ((k:Int)-(i:Int)) (k:Int) (i:Int) ae bD ae ae bD
   rw[aan,aan,h5]at h
   rw[hi,hj]
   (refine ee (im h) ?_;refine ah λhc=>?_)
   exact kJ
  ·obtain⟨X,B,rfl,hX⟩:=fB U j ae
   have hB:B.length=i-j:=by simp at hi;omega
   have h:=x7 A X B V Z ((k:Int)-(i:Int)) (k:Int) (j:Int) (by simp at h1 hi;omega) (by simp at h1;omega) ae ae (by simp at h4;omega)
   rw[show A++(X++B)++V++Z=A++X++B++V++Z by simp,hi,hj]
   (refine ee (im h) ?_;repeat' first|apply aw|refine ah λhc=>?_)
   have hji:((B.length:Nat):Int)=(i:Int)-(j:Int):=ae
   refine⟨(A++V,B,X,Z),⟨by simp at h1 ⊢;omega,aL,aL,by simp at h4 ⊢;omega,by rw[<-h5];simp⟩,aL,?_⟩
   simp only[hX,hji]
   exact ab
abbrev vA (a m b:Int)(D D':List It):Prop:=bZ prog 260 [.row 1000 0,iC .i64 a,iC .i64 m,iC .i64 b,pj] [(1000,gz D)] .any [(1000,gz D')]
theorem pk {x y:It}:ltK x y=true↔cG x.key y.key<0:=by grind[ltK]
theorem EX {x y:It}:ltK x y=false↔¬cG x.key y.key<0:=by grind[ltK]
theorem j2 {l:List α}{x:α}(h:l.getLast?=some x):∃l',l=l'++[x]:=by
 rcases List.eq_nil_or_concat l with e|⟨l',y,e⟩
 all_goals grind
theorem ma {l:List α}{x:α}(h:l.head?=some x):∃l',l=x::l':=by cases l<;>grind
theorem U2 (A:List It)(x:It)(R Z:List It)(a m b:Int)(ha:a=(A.length:Nat))(hm:m=((A.length+1:Nat):Int))(hb:b=((A.length+1+R.length:Nat):Int))(hR:lX ltK R)(hkx:x.key.size<=1000000000)(hkR:n8 R)(hl:A.length+1+R.length+Z.length<=1000000000) :
 vA a m b (A++[x]++R++Z) (A++fT ([x]++R)++Z):=by
 obtain⟨ka,hka⟩:∃k:Nat,A.length=k:=⟨_,rfl⟩
 obtain⟨kb,hkb⟩:∃k:Nat,ka+1+R.length=k:=⟨_,rfl⟩
 rw[hka]at ha hm hb
 rw[hkb]at hb
 subst ha hm hb
 obtain⟨Q,hQ⟩:∃Q,Q=A++fT ([x]++R)++Z:=⟨_,rfl⟩
 have hfin:∀R1 R2,R=R1++R2->(∀y,R1.getLast?=some y->ltK y x=true)->(∀y,R2.head?=some y->ltK y x=false)->Q=A++R1++x::(R2++Z):=by
  rintro R1 R2 rfl h1 h2
  have hs:=List.pairwise_append.1 hR
  have hc:=ja fk (L1:=[]) (L2:=[x]) (R1:=R1) (R2:=R2) (abi _ _) hR (λ_ _ h=>by cases h) (λu v hu hv=>by grind)
  have e2:eC ltK ([x]++R2)=[x]++R2:=j0 fk (List.pairwise_cons.2 ⟨λy hy=>by
   cases R2 with
   | nil=>simp at hy
   | cons z R2=>
    have h0:=h2 z rfl
    rcases aaU.1 hy with e|e
    ·subst e;exact h0
    ·exact fk.ntr y z x ((List.pairwise_cons.1 hs.2.1).1 y e) h0,hs.2.1⟩)
  rw[hQ,rj,show [x]++(R1++R2)=([]++[x])++(R1++R2)by simp,hc,e2,show eC ltK ([]++R1)=R1 from j0 fk hs.1]
  simp
 rw[<-hQ]
 unfold vA
 generalize hD:A++[x]++R++Z=D
 have hDl:D.length=kb+Z.length:=by rw[<-hD];simp;omega
 have hkD:∀i (h:i<D.length),ka<=i->i<kb->(D[i]'h).key.size<=1000000000:=by
  intro i h h1 h2
  have:D[i]'h∈[x]++R:=by
   have e:D[i]?=(([x]++R)++Z)[i-ka]?:=by rw[<-hD,show A++[x]++R++Z=A++([x]++R++Z)by simp,List.getElem?_append_right ae,hka]
   rw[aaz bD,aaa h]at e
   grind
  rcases aaS.1 this with q|q
  ·grind
  ·exact hkR _ q
 have HX:D[ka]?=some x:=by rw[<-hD,show A++[x]++R++Z=A++x::(R++Z)by simp,bX _ _ _ _ hka.symm]
 have HXm:(D.map itP)[ka]?=some (itP x):=by rw[List.getElem?_map,HX];rfl
 refine cp func260 ntmps260 ?_
 (refine w0 ?_;refine ah λhc=>?_)
 refine aj (X:=Nat×Nat) (λy=>ka+1<=y.1/\y.1<=y.2/\y.2<=kb/\(∀z,ka+1<y.1->D[y.1-1]?=some z->ltK z x=true)/\(∀z,y.2<kb->D[y.2]?=some z->ltK z x=false))
  (λy=>aF [(0,.row 1000 0),(1,iC .i64 (ka:Nat)),(4,pj),(10,iC .i64 (y.1:Nat)),(11,iC .i64 (y.2:Nat))] [(1000,gz D)]) (λy=>y.2-y.1) (ka+1,kb) ⟨aaf _,aL,aaf _,λz h=>by simp at h,λz h=>by simp at h⟩ ?_
 rintro⟨i,j⟩ ⟨h1,h2,h3,h4,h5⟩
 simp only at h1 h2 h3 h4 h5 ⊢
 by_cases hij:i<j
 ·obtain⟨h,hh⟩:∃h:Nat,((i:Int)+(j:Int)) / 2=(h:Nat):=⟨(i+j) / 2,ae⟩
  have hih:i<=h:=ae
  have hhj:h<j:=ae
  have hlt:h<D.length:=ae
  have hmm:=sL D[h] x (hkD h hlt ae ae)
  have HJ:(D.map itP)[h]?=some (itP D[h]):=by rw[List.getElem?_map,aaa hlt];rfl
  (refine oY hh ?_;repeat' first|apply aw|refine ah λhc=>?_|((first|apply aH rfl|apply aJ rfl);(focus (try apply ag rfl rfl rfl rfl rfl);first|((apply bn 5;(focus rfl);exact aD ⟨rfl,rfl,rfl⟩ rfl aS aS rfl rfl rfl HJ rfl rfl rfl))|((apply bn 5;(focus rfl);exact aD ⟨rfl,rfl,rfl⟩ rfl aS aS rfl rfl rfl HXm rfl rfl rfl))|(exact Nk [] hmm));refine oY hh ?_))
  ·refine⟨(h+1,j),⟨aL,aL,h3,λz _ hz=>?_,h5⟩,aL,?_⟩
   ·grind[pk]
   ·exact ab
  ·refine⟨(i,h),⟨h1,hih,aL,h4,λz _ hz=>?_⟩,aL,?_⟩
   ·grind[EX]
   ·exact ab
 ·have hij':j=i:=ae
  subst hij'
  obtain⟨R1,R2,rfl,hR1⟩:=fB R (j-(ka+1)) ae
  have hq:=hfin R1 R2 rfl (λy hy=>?_) (λy hy=>?_)
  ·have hD':A++[x]++R1++(R2++Z)=D:=by rw[<-hD];simp
   clear h4 h5 hfin hR hkR HX HXm hkD
   subst hq
   (refine w0 ?_;refine ah λhc=>?_)
   refine ci (X:=List It×List It) (λy=>y.1++y.2=R1)
    (λy=>aF [(0,.row 1000 0),(10,iC .i64 (j:Nat)),(13,iC .i64 ((ka+y.1.length:Nat):Int))] [(1000,gz (A++y.1++x::(y.2++(R2++Z))))]) (λy=>y.2.length) ([],R1) rfl ?_ ?_
   ·rw[<-hD']
    have e:A++[x]++R1++(R2++Z)=A++[]++x::(R1++(R2++Z)):=aA
    rw[e]
    exact ab
   ·rintro⟨p,q⟩ hpq
    simp only at hpq ⊢
    obtain⟨k,hk⟩:∃k,ka+p.length=k:=⟨_,rfl⟩
    have hln:p.length+q.length=R1.length:=by rw[<-hpq];simp
    rw[hk]
    cases q with
    | nil=>
     have hp:p=R1:=by simpa using hpq
     subst hp
     simp at hln
     (refine w0 ?_;refine ah λhc=>?_)
     exact kJ
    | cons y q=>
     simp at hln
     generalize hE:A++p++x::(y::q++(R2++Z))=E
     have hEl:k+1<E.length:=by rw[<-hE];simp;omega
     have H0:(E.map itP)[k]?=some (itP x):=by rw[List.getElem?_map,<-hE,bX _ _ _ _ bD];rfl
     have H1:(E.map itP)[k+1]?=some (itP y):=by rw[List.getElem?_map,<-hE,show A++p++x::(y::q++(R2++Z))=(A++p++[x])++y::(q++(R2++Z))by simp,bX _ _ _ _ bD];rfl
     have S0:(E.map itP).set k (cN (itP x) 0 (itP y))=(A++p++y::(y::q++(R2++Z))).map itP:=by rw[show(E.map itP).set k (cN (itP x) 0 (itP y))=(E.set k y).map itP from cO itP _ _ _,<-hE,gk _ _ _ _ _ bD]
     generalize hE1:A++p++y::(y::q++(R2++Z))=E1 at S0
     have hEl1:k+1<E1.length:=by rw[<-hE1];simp;omega
     have H2:(E1.map itP)[k+1]?=some (itP y):=by rw[List.getElem?_map,<-hE1,show A++p++y::(y::q++(R2++Z))=(A++p++[y])++y::(q++(R2++Z))by simp,bX _ _ _ _ bD];rfl
     have S1:(E1.map itP).set (k+1) (cN (itP y) 0 (itP x))=(A++(p++[y])++x::(q++(R2++Z))).map itP:=by
      rw[show(E1.map itP).set (k+1) (cN (itP y) 0 (itP x))=(E1.set (k+1) x).map itP from cO itP _ _ _,<-hE1,show A++p++y::(y::q++(R2++Z))=(A++p++[y])++y::(q++(R2++Z))by simp,gk _ _ _ _ _ bD]
      simp
     (refine w0 ?_;repeat' first|apply aw|refine ah λhc=>?_|((first|apply aH rfl|apply cB rfl|apply aJ rfl|apply cC rfl);(focus (try apply ag rfl rfl rfl rfl rfl);first|((apply bn 5;(focus rfl);exact aD ⟨rfl,rfl,rfl⟩ rfl aS aS rfl rfl rfl H0 rfl rfl rfl))|((apply bn 5;(focus rfl);exact aD ⟨rfl,rfl,rfl⟩ rfl aS aS rfl rfl rfl H1 rfl rfl rfl))|((apply bn 6;(focus rfl);exact aW ⟨rfl,rfl⟩ rfl aS rfl rfl rfl rfl H0 rfl (.inl rfl) rfl S0))|((apply bn 6;(focus rfl);exact aW ⟨rfl,rfl⟩ rfl aS rfl rfl rfl rfl H2 rfl (.inl rfl) rfl S1)));refine w0 ?_))
     refine⟨(p++[y],q),by simpa using hpq,aA,?_⟩
     have ek:((ka+(p++[y]).length:Nat):Int)=(k:Int)+1:=bD
     simp only[ek]
     exact ab
  ·obtain⟨R1',rfl⟩:=j2 hy
   simp at hR1
   refine h4 y ae ?_
   rw[<-hD,show A++[x]++(R1'++[y]++R2)++Z=(A++[x]++R1')++y::(R2++Z)by simp,bX _ _ _ _ bD]
  ·obtain⟨R2',rfl⟩:=ma hy
   simp at hkb
   refine h5 y ae ?_
   rw[<-hD,show A++[x]++(R1++y::R2')++Z=(A++[x]++R1)++y::(R2'++Z)by simp,bX _ _ _ _ bD]
theorem QK (A L:List It)(y:It)(Z:List It)(a m b:Int)(ha:a=(A.length:Nat))(hm:m=((A.length+L.length:Nat):Int))(hb:b=((A.length+L.length+1:Nat):Int))(h1L:L.length≠1)(hL:lX ltK L)(hky:y.key.size<=1000000000)(hl:A.length+L.length+1+Z.length<=1000000000) :
 vA a m b (A++L++[y]++Z) (A++fT (L++[y])++Z):=by
 obtain⟨ka,hka⟩:∃k:Nat,A.length=k:=⟨_,rfl⟩
 obtain⟨km,hkm⟩:∃k:Nat,ka+L.length=k:=⟨_,rfl⟩
 rw[hka]at ha hm hb
 rw[hkm]at hm hb
 subst ha hm hb
 obtain⟨Q,hQ⟩:∃Q,Q=A++fT (L++[y])++Z:=⟨_,rfl⟩
 have hfin:∀L1 L2,L=L1++L2->(∀x,L1.getLast?=some x->ltK y x=false)->(∀x,L2.head?=some x->ltK y x=true)->Q=A++L1++y::(L2++Z):=by
  rintro L1 L2 rfl h1 h2
  have hs:=List.pairwise_append.1 hL
  have hc:=ja fk (L1:=L1) (L2:=L2) (R1:=[y]) (R2:=[]) hL (abi _ _) (λ_ _ _ h=>by cases h) (λu v hu hv=>by grind)
  have e2:eC ltK (L1++[y])=L1++[y]:=j0 fk (List.pairwise_append.2 ⟨hs.1,abi _ _,λa ha b hb=>by
   simp at hb;subst hb
   obtain⟨z,hz⟩:∃z,L1.getLast?=some z:=by cases hg:L1.getLast?<;>grind
   have h0:=h1 z hz
   obtain⟨l',rfl⟩:=j2 hz
   rcases aaS.1 ha with e|e
   ·exact fk.ntr b z a h0 ((List.pairwise_append.1 hs.1).2.2 a e z aA)
   grind⟩)
  rw[hQ,rj,show(L1++L2)++[y]=(L1++L2)++([y]++[])by simp,hc,e2,show eC ltK (L2++[])=L2 by rw[aan];exact j0 fk hs.2.1]
  simp
 rw[<-hQ]
 unfold vA
 generalize hD:A++L++[y]++Z=D
 have hDl:D.length=km+1+Z.length:=by rw[<-hD];simp;omega
 have HY:D[km]?=some y:=by rw[<-hD,show A++L++[y]++Z=(A++L)++y::Z by simp,bX _ _ _ _ bD]
 have HYm:(D.map itP)[km]?=some (itP y):=by rw[List.getElem?_map,HY];rfl
 refine cp func260 ntmps260 ?_
 (refine w0 ?_;repeat' first|apply aw|refine ah λhc=>?_)
 refine aj (X:=Nat×Nat) (λz=>ka<=z.1/\z.1<=z.2/\z.2<=km/\(∀x,ka<z.1->D[z.1-1]?=some x->ltK y x=false)/\(∀x,z.2<km->D[z.2]?=some x->ltK y x=true))
  (λz=>aF [(0,.row 1000 0),(2,iC .i64 (km:Nat)),(4,pj),(14,iC .i64 (z.1:Nat)),(15,iC .i64 (z.2:Nat))] [(1000,gz D)]) (λy=>y.2-y.1) (ka,km) ⟨aaf _,aL,aaf _,λz h=>by simp at h,λz h=>by simp at h⟩ ?_
 rintro⟨i,j⟩ ⟨h1,h2,h3,h4,h5⟩
 simp only at h1 h2 h3 h4 h5 ⊢
 by_cases hij:i<j
 ·obtain⟨h,hh⟩:∃h:Nat,((i:Int)+(j:Int)) / 2=(h:Nat):=⟨(i+j) / 2,ae⟩
  have hih:i<=h:=ae
  have hhj:h<j:=ae
  have hlt:h<D.length:=ae
  have hmm:=sL y D[h] hky
  have HJ:(D.map itP)[h]?=some (itP D[h]):=by rw[List.getElem?_map,aaa hlt];rfl
  (refine oY hh ?_;repeat' first|apply aw|refine ah λhc=>?_|((first|apply aH rfl|apply aJ rfl);(focus (try apply ag rfl rfl rfl rfl rfl);first|((apply bn 5;(focus rfl);exact aD ⟨rfl,rfl,rfl⟩ rfl aS aS rfl rfl rfl HJ rfl rfl rfl))|((apply bn 5;(focus rfl);exact aD ⟨rfl,rfl,rfl⟩ rfl aS aS rfl rfl rfl HYm rfl rfl rfl))|(exact Nk [] hmm));refine oY hh ?_))
  ·refine⟨(h+1,j),⟨aL,aL,h3,λz _ hz=>?_,h5⟩,aL,?_⟩
   ·grind[EX]
   ·exact ab
  ·refine⟨(i,h),⟨h1,hih,aL,h4,λz _ hz=>?_⟩,aL,?_⟩
   ·grind[pk]
   ·exact ab
 ·have hij':j=i:=ae
  subst hij'
  obtain⟨L1,L2,rfl,hL1⟩:=fB L (j-ka) ae
  have hq:=hfin L1 L2 rfl (λx hx=>?_) (λx hx=>?_)
  ·have hD':A++L1++L2++y::Z=D:=by rw[<-hD];simp
   have hlen:L1.length+L2.length=km-ka:=by simp at hkm;omega
   clear h4 h5 hfin hL HY HYm h1L
   subst hq
   (refine w0 ?_;refine ah λhc=>?_)
   refine ci (X:=List It×List It) (λz=>z.1++z.2=L2)
    (λz=>aF [(0,.row 1000 0),(14,iC .i64 (j:Nat)),(17,iC .i64 ((j+z.1.length:Nat):Int))] [(1000,gz (A++L1++z.1++y::(z.2++Z)))]) (λz=>z.1.length) (L2,[]) aA ?_ ?_
   ·rw[<-hD']
    have e:((j+L2.length:Nat):Int)=(km:Int):=ae
    simp only[e,aaE]
    exact ab
   ·rintro⟨p,q⟩ hpq
    simp only at hpq ⊢
    have hln:p.length+q.length=L2.length:=by rw[<-hpq];simp
    rcases gl p with rfl|⟨p,x,rfl⟩
    ·have hp:q=L2:=by simpa using hpq
     subst hp
     have e:((j+([]:List It).length:Nat):Int)=(j:Int):=aA
     have e2:A++L1++[]++y::(q++Z)=A++L1++y::(q++Z):=aA
     rw[e,e2]
     (refine w0 ?_;refine ah λhc=>?_)
     exact kJ
    ·simp at hln
     obtain⟨k,hk⟩:∃k,j+p.length=k:=⟨_,rfl⟩
     have e:((j+(p++[x]).length:Nat):Int)=((k+1:Nat):Int):=bD
     rw[e]
     generalize hE:A++L1++(p++[x])++y::(q++Z)=E
     have hEl:k+1<E.length:=by rw[<-hE];simp;omega
     have H0:(E.map itP)[k]?=some (itP x):=by rw[List.getElem?_map,<-hE,show A++L1++(p++[x])++y::(q++Z)=(A++L1++p)++x::(y::(q++Z))by simp,bX _ _ _ _ bD];rfl
     have H1:(E.map itP)[k+1]?=some (itP y):=by rw[List.getElem?_map,<-hE,bX _ _ _ _ bD];rfl
     have S1:(E.map itP).set (k+1) (cN (itP y) 0 (itP x))=(A++L1++(p++[x])++x::(q++Z)).map itP:=by rw[show(E.map itP).set (k+1) (cN (itP y) 0 (itP x))=(E.set (k+1) x).map itP from cO itP _ _ _,<-hE,gk _ _ _ _ _ bD]
     generalize hE1:A++L1++(p++[x])++x::(q++Z)=E1 at S1
     have hEl1:k+1<E1.length:=by rw[<-hE1];simp;omega
     have H2:(E1.map itP)[k]?=some (itP x):=by rw[List.getElem?_map,<-hE1,show A++L1++(p++[x])++x::(q++Z)=(A++L1++p)++x::(x::(q++Z))by simp,bX _ _ _ _ bD];rfl
     have S2:(E1.map itP).set k (cN (itP x) 0 (itP y))=(A++L1++p++y::((x::q)++Z)).map itP:=by
      rw[show(E1.map itP).set k (cN (itP x) 0 (itP y))=(E1.set k y).map itP from cO itP _ _ _,<-hE1,show A++L1++(p++[x])++x::(q++Z)=(A++L1++p)++x::(x::(q++Z))by simp,gk _ _ _ _ _ bD]
      simp
     (refine w0 ?_;repeat' first|apply aw|refine ah λhc=>?_|((first|apply aH rfl|apply cB rfl|apply aJ rfl|apply cC rfl);(focus (try apply ag rfl rfl rfl rfl rfl);first|((apply bn 5;(focus rfl);exact aD ⟨rfl,rfl,rfl⟩ rfl aS aS rfl rfl rfl H0 rfl rfl rfl))|((apply bn 5;(focus rfl);exact aD ⟨rfl,rfl,rfl⟩ rfl aS aS rfl rfl rfl H1 rfl rfl rfl))|((apply bn 6;(focus rfl);exact aW ⟨rfl,rfl⟩ rfl aS rfl rfl rfl rfl H1 rfl (.inl rfl) rfl S1))|((apply bn 6;(focus rfl);exact aW ⟨rfl,rfl⟩ rfl aS rfl rfl rfl rfl H2 rfl (.inl rfl) rfl S2)));refine w0 ?_))
     refine⟨(p,x::q),by simpa using hpq,aA,?_⟩
     simp only[hk]
     exact ab
  ·obtain⟨L1',rfl⟩:=j2 hx
   simp at hL1
   refine h4 x ae ?_
   rw[<-hD,show A++(L1'++[x]++L2)++[y]++Z=(A++L1')++x::(L2++[y]++Z)by simp,bX _ _ _ _ bD]
  ·obtain⟨L2',rfl⟩:=ma hx
   simp at hkm
   refine h5 x ae ?_
   rw[<-hD,show A++(L1++x::L2')++[y]++Z=(A++L1)++x::(L2'++[y]++Z)by simp,bX _ _ _ _ bD]
abbrev aah (a m b:Int)(D D':List It):Prop:=bZ prog 305 [.row 1000 0,iC .i64 a,iC .i64 m,iC .i64 b,pj] [(1000,gz D)] .any [(1000,gz D')]
structure Ck (ka km kb mid st e:Nat)(D Q:List It):Prop where
 h:∃D2 D3,((st<km/\km<e/\aah (st:Nat) (km:Nat) (e:Nat) D D2)\/(¬(st<km/\km<e)/\D2=D))/\((ka<st/\st<mid/\vA (ka:Nat) (st:Nat) (mid:Nat) D2 D3)\/(¬(ka<st/\st<mid)/\D3=D2))/\((mid<e/\e<kb/\vA (mid:Nat) (e:Nat) (kb:Nat) D3 Q)\/(¬(mid<e/\e<kb)/\Q=D3))
theorem LS (D:List It)(ka km kb mid n p:Nat)(hDk:kb<=D.length)(hl:kb<=1000000000)(hkD:∀i (h:i<D.length),ka<=i->i<kb->(D[i]'h).key.size<=1000000000)(hn:mid+km=n)(hp:n=p+1)(Q:List It)
 (hfin':∀i:Nat,ka<=i->i<=km->i<=mid->n-i<=kb->(∀x y,ka<i->n-i<kb->D[i-1]?=some x->D[n-i]?=some y->ltK y x=false)->(∀x y,i<km->km<n-i->D[n-i-1]?=some x->D[i]?=some y->ltK x y=true)->Ck ka km kb mid i (n-i) D Q)
 (hmidE:((ka:Int)+(kb:Int)) / 2=(mid:Nat)) (hnE:(mid:Int)+(km:Int)=(n:Nat)) (hpE:(n:Int)-1=(p:Nat)) (hm1:ka+2<=km) (hm2:km+2<=kb) (_hm3:ka+kb<2*mid+2) (_hm4:2*mid<=ka+kb) (hmk:mid<km) :
 vA (ka:Nat) (km:Nat) (kb:Nat) D Q:=by
 unfold vA
 refine cp func260 ntmps260 ?_
 obtain⟨s0,hs⟩:∃s0:Nat,n=s0+kb:=⟨n-kb,ae⟩
 have hs3:(n:Int)-(kb:Int)=(s0:Nat):=ae
 (refine zW hnE hpE hs3 hmidE ?_;repeat' first|apply aw|refine ah λhc=>?_)
 refine aj (X:=Nat×Nat) (λz=>s0<=z.1/\z.1<=z.2/\z.2<=mid/\(∀x y,s0<z.1->D[z.1-1]?=some x->D[n-z.1]?=some y->ltK y x=false)/\(∀x y,z.2<mid->D[n-z.2-1]?=some x->D[z.2]?=some y->ltK x y=true))
  (λz=>aF [(0,.row 1000 0),(1,iC .i64 (ka:Nat)),(2,iC .i64 (km:Nat)),(3,iC .i64 (kb:Nat)),(4,pj),(18,iC .i64 (mid:Nat)),(19,iC .i64 (n:Nat)),(20,iC .i64 (z.1:Nat)),(21,iC .i64 (z.2:Nat)),(22,iC .i64 (p:Nat))] [(1000,gz D)]) (λy=>y.2-y.1) (s0,mid) ⟨aaf _,aL,aaf _,λx y h=>by simp at h,λx y h=>by simp at h⟩ ?_
 rintro⟨i,j⟩ ⟨h1,h2,h3,h4,h5⟩
 simp only at h1 h2 h3 h4 h5 ⊢
 by_cases hij:i<j
 ·obtain⟨h,hh⟩:∃h:Nat,((i:Int)+(j:Int)) / 2=(h:Nat):=⟨(i+j) / 2,ae⟩
  have hih:i<=h:=ae
  have hhj:h<j:=ae
  have hlt:h<D.length:=ae
  obtain⟨q,hq⟩:∃q:Nat,p=q+h:=⟨p-h,ae⟩
  have hqE:(p:Int)-(h:Int)=(q:Nat):=ae
  have hlq:q<D.length:=ae
  have hmm:=sL D[q] D[h] (hkD q hlq ae ae)
  have HJ:(D.map itP)[h]?=some (itP D[h]):=by rw[List.getElem?_map,aaa hlt];rfl
  have HQ:(D.map itP)[q]?=some (itP D[q]):=by rw[List.getElem?_map,aaa hlq];rfl
  (refine iY hqE hh ?_;repeat' first|apply aw|refine ah λhc=>?_|((first|apply aH rfl|apply aJ rfl);(focus (try apply ag rfl rfl rfl rfl rfl);first|((apply bn 5;(focus rfl);exact aD ⟨rfl,rfl,rfl⟩ rfl aS aS rfl rfl rfl HJ rfl rfl rfl))|((apply bn 5;(focus rfl);exact aD ⟨rfl,rfl,rfl⟩ rfl aS aS rfl rfl rfl HQ rfl rfl rfl))|(exact Nk [] hmm));refine iY hqE hh ?_))
  ·refine⟨(h+1,j),⟨aL,aL,h3,λx y _ hx hy=>?_,h5⟩,aL,?_⟩
   ·simp only[aa8]at hx
    rw[aaa hlt]at hx;cases hx
    rw[show n-(h+1)=q by omega,aaa hlq]at hy;grind[EX]
   ·exact ab
  ·refine⟨(i,h),⟨h1,hih,aL,h4,λx y _ hx hy=>?_⟩,aL,?_⟩
   ·simp only at hx hy
    rw[aaa hlt]at hy;cases hy
    rw[show n-h-1=q by omega,aaa hlq]at hx;grind[pk]
   ·exact ab
 ·have hij':j=i:=ae
  subst hij'
  obtain⟨D2,D3,e1,e2,e3⟩:=(hfin' j ae ae ae ae (λx y g1 g2 g3 g4=>h4 x y ae g3 g4) (λx y g1 g2 g3 g4=>h5 x y ae g3 g4)).h
  obtain⟨e,he⟩:∃e:Nat,n=e+j:=⟨n-j,ae⟩
  have heE:(n:Int)-(j:Int)=(e:Nat):=ae
  rw[show n-j=e by omega]at e1 e3
  clear h4 h5 hfin' hkD
  rcases e1 with⟨a1,a2,f1⟩|⟨a1,rfl⟩<;>rcases e2 with⟨b1,b2,f2⟩|⟨b1,rfl⟩<;>rcases e3 with⟨c1,c2,f3⟩|⟨c1,rfl⟩
  ·(refine pZ heE (im f1) (im f2) (im f3) ?_;repeat' first|apply aw|refine ah λhc=>?_)
   exact kJ
  ·(refine fm heE (im f1) (im f2) ?_;repeat' first|apply aw|refine ah λhc=>?_)
   all_goals first|(exfalso;omega)|skip
   all_goals exact kJ
  ·(refine fm heE (im f1) (im f3) ?_;refine ah λhc=>?_)
   all_goals first|(exfalso;omega)|skip
   all_goals exact kJ
  ·(refine eo heE (im f1) ?_;repeat' first|apply aw|refine ah λhc=>?_)
   all_goals first|(exfalso;omega)|skip
   all_goals exact kJ
  ·(refine fm heE (im f2) (im f3) ?_;refine ah λhc=>?_)
   all_goals first|(exfalso;omega)|skip
   all_goals exact kJ
  ·(refine eo heE (im f2) ?_;refine ah λhc=>?_)
   all_goals first|(exfalso;omega)|skip
   all_goals exact kJ
  ·(refine eo heE (im f3) ?_;repeat' first|apply aw|refine ah λhc=>?_)
   all_goals first|(exfalso;omega)|skip
   all_goals exact kJ
  ·(refine eG heE ?_;refine ah λhc=>?_)
   all_goals first|(exfalso;omega)|skip
   all_goals exact kJ
theorem LU (D:List It)(ka km kb mid n p:Nat)(hDk:kb<=D.length)(hl:kb<=1000000000)(hkD:∀i (h:i<D.length),ka<=i->i<kb->(D[i]'h).key.size<=1000000000)(hn:mid+km=n)(hp:n=p+1)(Q:List It)
 (hfin':∀i:Nat,ka<=i->i<=km->i<=mid->n-i<=kb->(∀x y,ka<i->n-i<kb->D[i-1]?=some x->D[n-i]?=some y->ltK y x=false)->(∀x y,i<km->km<n-i->D[n-i-1]?=some x->D[i]?=some y->ltK x y=true)->Ck ka km kb mid i (n-i) D Q)
 (hmidE:((ka:Int)+(kb:Int)) / 2=(mid:Nat)) (hnE:(mid:Int)+(km:Int)=(n:Nat)) (hpE:(n:Int)-1=(p:Nat)) (hm1:ka+2<=km) (hm2:km+2<=kb) (_hm3:ka+kb<2*mid+2) (_hm4:2*mid<=ka+kb) (hmk:¬mid<km) :
 vA (ka:Nat) (km:Nat) (kb:Nat) D Q:=by
 unfold vA
 refine cp func260 ntmps260 ?_
 (refine zV hnE hpE hmidE ?_;repeat' first|apply aw|refine ah λhc=>?_)
 refine aj (X:=Nat×Nat) (λz=>ka<=z.1/\z.1<=z.2/\z.2<=km/\(∀x y,ka<z.1->D[z.1-1]?=some x->D[n-z.1]?=some y->ltK y x=false)/\(∀x y,z.2<km->D[n-z.2-1]?=some x->D[z.2]?=some y->ltK x y=true))
  (λz=>aF [(0,.row 1000 0),(1,iC .i64 (ka:Nat)),(2,iC .i64 (km:Nat)),(3,iC .i64 (kb:Nat)),(4,pj),(18,iC .i64 (mid:Nat)),(19,iC .i64 (n:Nat)),(20,iC .i64 (z.1:Nat)),(21,iC .i64 (z.2:Nat)),(22,iC .i64 (p:Nat))] [(1000,gz D)]) (λy=>y.2-y.1) (ka,km) ⟨aaf _,aL,aaf _,λx y h=>by simp at h,λx y h=>by simp at h⟩ ?_
 rintro⟨i,j⟩ ⟨h1,h2,h3,h4,h5⟩
 simp only at h1 h2 h3 h4 h5 ⊢
 by_cases hij:i<j
 ·obtain⟨h,hh⟩:∃h:Nat,((i:Int)+(j:Int)) / 2=(h:Nat):=⟨(i+j) / 2,ae⟩
  have hih:i<=h:=ae
  have hhj:h<j:=ae
  have hlt:h<D.length:=ae
  obtain⟨q,hq⟩:∃q:Nat,p=q+h:=⟨p-h,ae⟩
  have hqE:(p:Int)-(h:Int)=(q:Nat):=ae
  have hlq:q<D.length:=ae
  have hmm:=sL D[q] D[h] (hkD q hlq ae ae)
  have HJ:(D.map itP)[h]?=some (itP D[h]):=by rw[List.getElem?_map,aaa hlt];rfl
  have HQ:(D.map itP)[q]?=some (itP D[q]):=by rw[List.getElem?_map,aaa hlq];rfl
  (refine iY hqE hh ?_;repeat' first|apply aw|refine ah λhc=>?_|((first|apply aH rfl|apply aJ rfl);(focus (try apply ag rfl rfl rfl rfl rfl);first|((apply bn 5;(focus rfl);exact aD ⟨rfl,rfl,rfl⟩ rfl aS aS rfl rfl rfl HJ rfl rfl rfl))|((apply bn 5;(focus rfl);exact aD ⟨rfl,rfl,rfl⟩ rfl aS aS rfl rfl rfl HQ rfl rfl rfl))|(exact Nk [] hmm));refine iY hqE hh ?_))
  ·refine⟨(h+1,j),⟨aL,aL,h3,λx y _ hx hy=>?_,h5⟩,aL,?_⟩
   ·simp only[aa8]at hx
    rw[aaa hlt]at hx;cases hx
    rw[show n-(h+1)=q by omega,aaa hlq]at hy;grind[EX]
   ·exact ab
  ·refine⟨(i,h),⟨h1,hih,aL,h4,λx y _ hx hy=>?_⟩,aL,?_⟩
   ·simp only at hx hy
    rw[aaa hlt]at hy;cases hy
    rw[show n-h-1=q by omega,aaa hlq]at hx;grind[pk]
   ·exact ab
 ·have hij':j=i:=ae
  subst hij'
  obtain⟨D2,D3,e1,e2,e3⟩:=(hfin' j ae ae ae ae (λx y g1 g2 g3 g4=>h4 x y ae g3 g4) (λx y g1 g2 g3 g4=>h5 x y ae g3 g4)).h
  obtain⟨e,he⟩:∃e:Nat,n=e+j:=⟨n-j,ae⟩
  have heE:(n:Int)-(j:Int)=(e:Nat):=ae
  rw[show n-j=e by omega]at e1 e3
  clear h4 h5 hfin' hkD
  rcases e1 with⟨a1,a2,f1⟩|⟨a1,rfl⟩<;>rcases e2 with⟨b1,b2,f2⟩|⟨b1,rfl⟩<;>rcases e3 with⟨c1,c2,f3⟩|⟨c1,rfl⟩
  ·(refine pZ heE (im f1) (im f2) (im f3) ?_;repeat' first|apply aw|refine ah λhc=>?_)
   exact kJ
  ·(refine fm heE (im f1) (im f2) ?_;refine ah λhc=>?_)
   all_goals first|(exfalso;omega)|skip
   all_goals exact kJ
  ·(refine fm heE (im f1) (im f3) ?_;repeat' first|apply aw|refine ah λhc=>?_)
   all_goals first|(exfalso;omega)|skip
   all_goals exact kJ
  ·(refine eo heE (im f1) ?_;repeat' first|apply aw|refine ah λhc=>?_)
   all_goals first|(exfalso;omega)|skip
   all_goals exact kJ
  ·(refine fm heE (im f2) (im f3) ?_;refine ah λhc=>?_)
   all_goals first|(exfalso;omega)|skip
   all_goals exact kJ
  ·(refine eo heE (im f2) ?_;repeat' first|apply aw|refine ah λhc=>?_)
   all_goals first|(exfalso;omega)|skip
   all_goals exact kJ
  ·(refine eo heE (im f3) ?_;refine ah λhc=>?_)
   all_goals first|(exfalso;omega)|skip
   all_goals exact kJ
  ·(refine eG heE ?_;repeat' first|apply aw|refine ah λhc=>?_)
   all_goals first|(exfalso;omega)|skip
   all_goals exact kJ
theorem QL (A L R Z:List It)(ka km kb mid:Nat)(hka:A.length=ka)(hkm:ka+L.length=km)(hkb:km+R.length=kb)(hmid:mid=(ka+kb) / 2)(hL0:0<L.length)(hR0:0<R.length)(h1L:L.length≠1)(h1R:R.length≠1)(hkL:n8 L)(hkR:n8 R)(hl:kb+Z.length<=1000000000)
 (Q:List It) (hfin:∀L1 L2 R1 R2,L=L1++L2->R=R1++R2->ka+L1.length+R1.length=mid->(∀x y,L1.getLast?=some x->R2.head?=some y->ltK y x=false)->(∀x y,R1.getLast?=some x->L2.head?=some y->ltK x y=true) ->
   Ck ka km kb mid (ka+L1.length) (km+R1.length) (A++L++R++Z) Q) :
 vA (ka:Nat) (km:Nat) (kb:Nat) (A++L++R++Z) Q:=by
 generalize hD:A++L++R++Z=D at hfin ⊢
 have hDl:D.length=kb+Z.length:=by rw[<-hD];simp;omega
 have hkD:∀i (h:i<D.length),ka<=i->i<kb->(D[i]'h).key.size<=1000000000:=by
  intro i h h1 h2
  have:D[i]'h∈L++R:=by grind
  rcases aaS.1 this with q|q
  ·exact hkL _ q
  ·exact hkR _ q
 obtain⟨n,hn⟩:∃n:Nat,mid+km=n:=⟨_,rfl⟩
 obtain⟨p,hp⟩:∃p:Nat,n=p+1:=⟨n-1,ae⟩
 have hfin':∀i:Nat,ka<=i->i<=km->i<=mid->n-i<=kb->(∀x y,ka<i->n-i<kb->D[i-1]?=some x->D[n-i]?=some y->ltK y x=false)->(∀x y,i<km->km<n-i->D[n-i-1]?=some x->D[i]?=some y->ltK x y=true)->Ck ka km kb mid i (n-i) D Q:=by
  intro i h1 h2 h3 h3' h4 h5
  obtain⟨L1,L2,rfl,hL1⟩:=fB L (i-ka) ae
  obtain⟨R1,R2,rfl,hR1⟩:=fB R (n-i-km) ae
  have e1:ka+L1.length=i:=ae
  have e2:km+R1.length=n-i:=ae
  have:=hfin L1 L2 R1 R2 rfl rfl ae (λx y hx hy=>?_) (λx y hx hy=>?_)
  ·rw[e1,e2]at this;exact this
  ·obtain⟨L1',rfl⟩:=j2 hx
   obtain⟨R2',rfl⟩:=ma hy
   simp only[aai,aaD,List.length_nil]at e1 e2 hkm hkb
   refine h4 x y ae ae ?_ ?_
   ·rw[<-hD,show A++(L1'++[x]++L2)++(R1++y::R2')++Z=(A++L1')++x::(L2++(R1++y::R2')++Z)by simp,bX _ _ _ _ bD]
   ·rw[<-hD,show A++(L1'++[x]++L2)++(R1++y::R2')++Z=(A++(L1'++[x]++L2)++R1)++y::(R2'++Z)by simp,bX _ _ _ _ bD]
  ·obtain⟨R1',rfl⟩:=j2 hx
   obtain⟨L2',rfl⟩:=ma hy
   simp only[aai,aaD,List.length_nil]at e1 e2 hkm hkb
   refine h5 x y ae ae ?_ ?_
   ·rw[<-hD,show A++(L1++y::L2')++(R1'++[x]++R2)++Z=(A++(L1++y::L2')++R1')++x::(R2++Z)by simp,bX _ _ _ _ bD]
   ·rw[<-hD,show A++(L1++y::L2')++(R1'++[x]++R2)++Z=(A++L1)++y::(L2'++(R1'++[x]++R2)++Z)by simp,bX _ _ _ _ bD]
 clear hfin hkL hkR hD
 have hmidE:((ka:Int)+(kb:Int)) / 2=(mid:Nat):=ae
 have hnE:(mid:Int)+(km:Int)=(n:Nat):=ae
 have hpE:(n:Int)-1=(p:Nat):=ae
 have hm1:ka+2<=km:=ae
 have hm2:km+2<=kb:=ae
 have hm3:ka+kb<2*mid+2:=ae
 have hm4:2*mid<=ka+kb:=ae
 by_cases hmk:mid<km
 ·exact LS D ka km kb mid n p ae ae hkD hn hp Q hfin' hmidE hnE hpE hm1 hm2 hm3 hm4 hmk
 ·exact LU D ka km kb mid n p ae ae hkD hn hp Q hfin' hmidE hnE hpE hm1 hm2 hm3 hm4 hmk
theorem v8 {l:List It}(h:lX ltK l):fT l=l:=by rw[rj];exact j0 fk h
theorem pm (l:List It):lX ltK (fT l):=by rw[rj];grind[ec,fk]
theorem m1 (l:List It):iH ltK l (fT l):=by rw[rj];grind[ec,fk]
theorem U3 {M N:List It}(h1:lX ltK N)(h2:iH ltK M N):fT M=N:=by rw[rj];grind[sF,fk]
theorem J2:∀(N:Nat)(A L R Z:List It),L.length+R.length<=N->0<L.length->0<R.length->lX ltK L->lX ltK R->n8 L->n8 R->A.length+L.length+R.length+Z.length<=1000000000 ->
 vA (A.length:Nat) ((A.length+L.length:Nat):Int) ((A.length+L.length+R.length:Nat):Int) (A++L++R++Z) (A++fT (L++R)++Z):=by
 intro N
 induction N with
 | zero=>grind
 | succ N ih=>
  intro A L R Z hN hL0 hR0 hL hR hkL hkR hl
  by_cases h1L:L.length=1
  ·obtain⟨x,rfl⟩:=List.length_eq_one_iff.1 h1L
   exact U2 A x R Z _ _ _ rfl rfl rfl hR (hkL x aA) hkR hl
  by_cases h1R:R.length=1
  ·obtain⟨y,rfl⟩:=List.length_eq_one_iff.1 h1R
   exact QK A L y Z _ _ _ rfl rfl rfl h1L hL (hkR y aA) hl
  refine QL A L R Z _ _ _ _ rfl rfl rfl rfl hL0 hR0 h1L h1R hkL hkR hl _ ?_
  rintro L1 L2 R1 R2 rfl rfl hm hc1 hc2
  have hs:=ja fk hL hR hc1 hc2
  have hL':=List.pairwise_append.1 hL
  have hR':=List.pairwise_append.1 hR
  have hQ:fT ((L1++L2)++(R1++R2))=fT (L1++R1)++fT (L2++R2):=by grind[rj]
  have hln:(fT (L1++R1)).length=L1.length+R1.length:=by rw[jv];simp
  simp only[aai]at *
  refine⟨A++(L1++R1)++(L2++R2)++Z,A++fT (L1++R1)++(L2++R2)++Z,?_,?_,?_⟩
  ·by_cases h:0<L2.length/\0<R1.length
   ·refine .inl ⟨ae,ae,?_⟩
    have:=U1 (A++L1) L2 R1 (R2++Z) (A.length+L1.length:Nat) (A.length+(L1.length+L2.length):Nat) (A.length+(L1.length+L2.length)+R1.length:Nat) aA bD bD h.1 h.2 bD
    grind
   ·refine .inr ⟨ae,?_⟩
    by_cases h2:L2.length=0
    all_goals grind
  ·by_cases h:0<L1.length/\0<R1.length
   ·refine .inl ⟨ae,ae,?_⟩
    have:=ih A L1 R1 ((L2++R2)++Z) ae h.1 h.2 hL'.1 hR'.1 (j1 hkL (by simp +contextual)) (j1 hkR (by simp +contextual)) bD
    rw[hm]at this
    simpa using this
   ·refine .inr ⟨ae,?_⟩
    have:fT (L1++R1)=L1++R1:=by
     by_cases h2:L1.length=0
     ·rw[aax h2];exact v8 hR'.1
     ·rw[aax (show R1.length=0 by omega),aan];exact v8 hL'.1
    rw[this]
  ·rw[hQ]
   by_cases h:0<L2.length/\0<R2.length
   ·refine .inl ⟨ae,ae,?_⟩
    have:=ih (A++fT (L1++R1)) L2 R2 Z ae h.1 h.2 hL'.2.1 hR'.2.1 (j1 hkL (by simp +contextual)) (j1 hkR (by simp +contextual)) bD
    simp only[aai,hln]at this
    rw[show A.length+(L1.length+R1.length)=(A.length+(L1.length+L2.length+(R1.length+R2.length))+A.length) / 2 by omega]at this
    have e1:(A.length+(L1.length+L2.length+(R1.length+R2.length))+A.length) / 2=(A.length+(A.length+(L1.length+L2.length)+(R1.length+R2.length))) / 2:=ae
    rw[e1]at this
    rw[show(A.length+(A.length+(L1.length+L2.length)+(R1.length+R2.length))) / 2+L2.length=A.length+(L1.length+L2.length)+R1.length by omega,show A.length+(L1.length+L2.length)+R1.length+R2.length=A.length+(L1.length+L2.length)+(R1.length+R2.length)by omega]at this
    simpa using this
   ·refine .inr ⟨ae,?_⟩
    have:fT (L2++R2)=L2++R2:=by
     by_cases h2:L2.length=0
     ·rw[aax h2];exact v8 hR'.2.1
     ·rw[aax (show R2.length=0 by omega),aan];exact v8 hL'.2.1
    rw[this];simp
def LV (n:Nat)(Bs:List (List It)):Prop:=∀B∈Bs,B.length=n/\lX ltK B
theorem LV.len {n:Nat}{Bs:List (List It)}(h:LV n Bs):Bs.flatten.length=Bs.length*n:=by
 induction Bs with
 | nil=>simp
 | cons B Bs ih=>
  rw[List.flatten_cons,aai,ih (λB' hB=>h B' (aaY _ hB)),(h B aa1).1,aaD,abj];omega
theorem Cm {M N:List It}(h:n8 M)(ha:iH ltK M N):n8 N:=λx hx=>h x (ha.mem fk hx)
theorem iH.len {lt:α->α->Bool}(h:vy lt){M N:List α}(ha:iH lt M N):N.length=M.length:=by
 have:=aaA List.length (Ql h ha)
 rw[lu,lu]at this;exact this.symm
theorem QM (M:List It)(hk:n8 M)(hl:M.length<=100000000):bZ prog 223 [.row 1000 0,iC .i64 (M.length:Nat),pj] [(1000,gz M)] .any [(1000,gz (fT M))]:=by
 obtain⟨n,hn⟩:∃n,M.length=n:=⟨_,rfl⟩
 rw[hn]
 generalize hR:fT M=R
 refine cp func223 ntmps223 ?_
 (refine w0 ?_)
 refine aj (X:=List (List It)×List It) (λx=>LV 20 x.1/\iH ltK M (x.1.flatten++x.2))
  (λx=>aF [(0,.row 1000 0),(1,iC .i64 (n:Nat)),(2,pj),(6,iC .i64 20),(7,iC .i64 (x.1.flatten.length:Nat)),(8,iC .i64 ((x.1.flatten.length+20:Nat):Int))] [(1000,gz (x.1.flatten++x.2))]) (λx=>x.2.length) ([],M) ⟨λ_ h=>by simp at h,by simpa using iH.refl M⟩ ?_
 rintro⟨Bs,r⟩ ⟨h1,h2⟩
 simp only at h1 h2 ⊢
 have hlen:=iH.len fk h2
 rw[aai,hn]at hlen
 have hkr:=Cm hk h2
 obtain⟨a,ha⟩:∃a,Bs.flatten.length=a:=⟨_,rfl⟩
 by_cases hb:a+20<=n
 ·obtain⟨B,r',rfl,hB⟩:=fB r 20 ae
  have h:=EW Bs.flatten B r' (j1 hkr (by simp +contextual)) (by grind)
  have hap:Bs.flatten++B++r'=Bs.flatten++(B++r'):=aA
  rw[ha,hB,hap]at h
  rw[ha]
  (refine ee (im h) ?_;refine ah λhc=>?_)
  refine⟨(Bs++[fT B],r'),⟨λB' hB'=>?_,?_⟩,bD,?_⟩
  ·rcases aaS.1 hB' with q|q
   ·exact h1 B' q
   grind[jv,pm]
  ·refine h2.trans ?_
   have:=((iH.refl (lt:=ltK) Bs.flatten).app (m1 B)).app (iH.refl r')
   simpa using this
  ·have e1:(Bs++[fT B]).flatten++r'=Bs.flatten++fT B++r':=aA
   have e2:(Bs++[fT B]).flatten.length=a+20:=by grind[jv]
   simp only[e1,e2]
   exact ab
 ·have h:=EW Bs.flatten r [] (j1 hkr (by simp +contextual)) (by grind)
  rw[ha,aan,aan,show a+r.length=n by omega]at h
  rw[ha]
  (refine ee (im h) ?_;refine ah λhc=>?_)
  refine aj (X:=Nat×List (List It)×List It) (λx=>20<=x.1/\x.1<=2*n+20/\LV x.1 x.2.1/\lX ltK x.2.2/\x.2.2.length<x.1/\iH ltK M (x.2.1.flatten++x.2.2))
   (λx=>aF [(0,.row 1000 0),(1,iC .i64 (n:Nat)),(2,pj),(6,iC .i64 (x.1:Nat))] [(1000,gz (x.2.1.flatten++x.2.2))]) (λx=>n-x.1) (20,Bs,fT r) ⟨aaf _,aL,h1,pm r,by grind[jv],h2.trans ((iH.refl _).app (m1 r))⟩ ?_
  clear h1 h2 hlen hkr ha hb h
  rintro⟨bs,Bs,r⟩ ⟨h0,h00,h1,h2,h3,h4⟩
  simp only at h0 h00 h1 h2 h3 h4 ⊢
  have hlen:=iH.len fk h4
  have hkr:=Cm hk h4
  rw[aai,hn]at hlen
  by_cases hbn:bs<n
  ·obtain⟨b2,hb2⟩:∃b2:Nat,2*bs=b2:=⟨_,rfl⟩
   have hb2E:(2:Int)*(bs:Int)=(b2:Nat):=ae
   (refine eG hb2E ?_;refine ah λhc=>?_)
   refine aj (X:=List (List It)×List (List It)) (λx=>LV b2 x.1/\LV bs x.2/\iH ltK M (x.1.flatten++(x.2.flatten++r)))
    (λx=>aF [(0,.row 1000 0),(1,iC .i64 (n:Nat)),(2,pj),(6,iC .i64 (bs:Nat)),(7,iC .i64 (x.1.flatten.length:Nat)),(8,iC .i64 ((x.1.flatten.length+b2:Nat):Int))] [(1000,gz (x.1.flatten++(x.2.flatten++r)))]) (λx=>x.2.length) ([],Bs) ⟨λ_ h=>by simp at h,h1,by simpa using h4⟩ ?_
   clear h1 h4 hkr hlen
   rintro⟨Cs,Bs⟩ ⟨h1,h5,h4⟩
   simp only at h1 h5 h4 ⊢
   have hlen:=iH.len fk h4
   have hkr:=Cm hk h4
   rw[aai,aai,hn]at hlen
   obtain⟨a,ha⟩:∃a,Cs.flatten.length=a:=⟨_,rfl⟩
   have hfl:=h5.len
   obtain⟨am,ham⟩:∃am:Nat,a+bs=am:=⟨_,rfl⟩
   have hbsE:(a:Int)+(bs:Int)=(am:Nat):=ae
   match Bs,hfl with
   | [],hfl=>
    clear hfl
    simp only[List.flatten_nil,List.length_nil,aaE]at *
    rw[ha]at hlen ⊢
    (refine oX hbsE hb2E ?_;repeat' first|apply aw|refine ah λhc=>?_)
    refine⟨(b2,Cs,r),⟨aL,aL,h1,h2,aL,h4⟩,aL,?_⟩
    exact ab
   | [B],hfl=>
    clear hfl
    have hB:=h5 B aA
    simp only[List.flatten_cons,List.flatten_nil,aan]at *
    rw[ha]at hlen ⊢
    by_cases hr0:r.length=0
    ·have hr:=aax hr0
     subst hr
     simp only[aan]at *
     (refine oX hbsE hb2E ?_;repeat' first|apply aw|refine ah λhc=>?_)
     refine⟨(b2,Cs,B),⟨aL,aL,h1,hB.2,aL,h4⟩,aL,?_⟩
     exact ab
    ·have h:=J2 _ Cs.flatten B r [] (aaf _) ae ae hB.2 h2 (j1 hkr (by simp +contextual)) (j1 hkr (by simp +contextual)) (by grind)
     rw[ha,hB.1,aan,aan,ham,show am+r.length=n by omega,aal]at h
     (refine kT hbsE hb2E (im h) ?_;repeat' first|apply aw|refine ah λhc=>?_)
     refine⟨(b2,Cs,fT (B++r)),⟨aL,aL,h1,pm _,by grind[jv],h4.trans ((iH.refl _).app (m1 _))⟩,aL,?_⟩
     exact ab
   | B::B'::Bs,hfl=>
    have hB:=h5 B aA
    have hB':=h5 B' aA
    have hq:=aag (Bs.length*bs)
    simp only[aaD,abj]at hfl
    have h:=J2 _ Cs.flatten B B' (Bs.flatten++r) (aaf _) ae ae hB.2 hB'.2 (j1 hkr (by simp +contextual)) (j1 hkr (by simp +contextual)) (by grind)
    have e0:Cs.flatten++B++B'++(Bs.flatten++r)=Cs.flatten++((B::B'::Bs).flatten++r):=aA
    rw[ha,hB.1,hB'.1,show a+bs+bs=a+b2 by omega,ham,e0]at h
    rw[ha]at hlen ⊢
    (refine kT hbsE hb2E (im h) ?_;refine ah λhc=>?_)
    refine⟨(Cs++[fT (B++B')],Bs),⟨λC hC=>?_,λC hC=>h5 C (by simp[hC]),?_⟩,by grind,?_⟩
    ·rcases aaS.1 hC with q|q
     ·exact h1 C q
     grind[jv,pm]
    ·refine h4.trans ?_
     have:=((iH.refl (lt:=ltK) Cs.flatten).app (m1 (B++B'))).app (iH.refl (Bs.flatten++r))
     simpa using this
    ·have e1:(Cs++[fT (B++B')]).flatten++(Bs.flatten++r)=Cs.flatten++fT (B++B')++(Bs.flatten++r):=aA
     have e2:(Cs++[fT (B++B')]).flatten.length=a+b2:=by grind[jv]
     simp only[e1,e2]
     exact ab
  ·have hD:lX ltK (Bs.flatten++r):=by
    match Bs,h1 with
    | [],_=>simpa using h2
    | [B],h1=>
     have hB:=h1 B aA
     simp at hlen
     have hr:=aax (show r.length=0 by omega)
     grind
    | B::B'::Bs,h1=>
     have hB:=h1 B aA
     have hB':=h1 B' aA
     simp at hlen
     omega
   have hRD:Bs.flatten++r=R:=by rw[<-hR];grind[U3]
   rw[hRD]
   (refine w0 ?_;refine ah λhc=>?_)
   exact kJ
theorem vB (M:List It)(hk:n8 M)(hl:M.length<=100000000):bZ prog 137 [.row 1000 0,pj] [(1000,gz M)] .any [(1000,gz (fT M))]:=by
 have h:=QM M hk hl
 generalize fT M=R at *
 refine cp func137 ntmps137 ?_
 (refine ee (im h) ?_)
 exact kJ
