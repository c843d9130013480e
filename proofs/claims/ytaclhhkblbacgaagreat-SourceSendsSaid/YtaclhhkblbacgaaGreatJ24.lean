/- Texts joined: KnO DeP Sort Merge. -/
import Derived.Test.YtaclhhkblbacgaaGreatJ23
set_option maxRecDepth 10000
set_option maxHeartbeats 8000000
namespace Go.Proofs.YtaclhhkblbacgaaGreat
open Go.RowKit Go.Proofs.Tryz
theorem EX {M:Nat}:∀(T:List (List Rn)) (i:Nat),(∀l∈T,l.length≤M)→(bx ofR i T).length≤T.length∧((bx ofR i T).flatMap Kn.runs).length≤T.length*M:=by
 intro T
 induction T with
 | nil=>intro i _;simp[bx]
 | cons l T ih=>
  intro i h
  have h1:=ih (i+1) (fun x hx=>h x (Ww _ hx))
  have h2:=h l au
  have h3:=zu l
  rw[bx,List.flatMap_append,V5,V5,Wh,XH,Nat.one_mul]
  split
  ·simp only[List.length_nil,WC];omega
  ·simp only[Wh,List.length_nil,List.flatMap_cons,WC,Wg];omega
theorem tI {X:List Kn}{M:Nat}(h:(X.flatMap Kn.runs).length≤M):(gH ofR X).length≤16∧((gH ofR X).flatMap Kn.runs).length≤16*M:=by
 have:=EX (M:=M) (cS X) 0 (fun l hl=>by
  obtain⟨r,_,rfl⟩:=List.mem_map.1 hl
  have:=iG X r
  omega)
 rw[bW]at this
 exact this
theorem M9 {k:List Pc}(hk:ew k)(s:ByteArray):(lC k s).length≤16∧((lC k s).flatMap Kn.runs).length≤16000000:=by
 have h1:=gS Kn.runs (vv (vx s) k)
 have:=tI (X:=k.flatMap (j1 s)) (M:=1000000) (by have:=hk.2.2;omega)
 exact this
theorem Qy {k:List Pc}{m:ByteArray}(h:m∈mb k):m.size≤1000000000:=by
 have:=zC k m h;omega
theorem vy (k:List Pc):(mb k).length≤1+2*k.length:=by
 have:=lY (cK k) [emB]
 unfold mb
 unfold cK at *
 simp only[Wh,List.length_nil,V7,WF]at this
 exact this
theorem Na (k:List Pc)(hk:aX k)(hm:fe k):Fn prog 222 [dC k] (qO k):=by
 have hl:=hm.1
 refine fi func222 ntmps222 ?_
 (refine w0 ?_)
 refine bQ (bU 3 700 132 4 rfl rfl) ?_
 refine aj (X:=Nat) (fun z=>z≤k.length)
  (fun z=>ay [(3,.row 700 0),(6,dC k),(7,iC .i64 (k.length:Nat)),(8,iC .i64 ((z:Nat):Int))] [(700,Qx (k.take z))]) (fun z=>k.length-z) 0 (Wa _) ?_
 intro z hz
 by_cases hlt:z<k.length
 ·have hset:=(hk z hlt hlt).2.2.1
  have htot:dx k[z].set:=hm.2 _ (Wk hlt)
  have c1:=(nI k[z].set htot hset).frz
  have hsn:k.take (z+1)=k.take z++[k[z]]:=by rw[List.take_succ_eq_append_getElem hlt]
  have hlk:(k.take z).length≤z:=by rw[WA];omega
  generalize k.take z=A at *
  clear hk hm
  (refine aq c1 ?_;repeat' first|apply ah|refine ai fun hc=>?_)
  refine⟨z+1,hlt,ab,av (aN 700 701) (av (aN 701 700) ?_)⟩
  rw[hsn]
  exact ae
 ·rw[Wd (show k.length≤z by omega)]
  (refine w0 ?_;repeat' first|apply ah|refine ai fun hc=>?_)
  exact nx
theorem dE {k:List Pc}(h:ew k):fe k:=⟨by have:=h.1;omega,fun p hp=>by
 have h1:=gj Pc.set hp
 have h2:=gS Kn.runs (a:=p.set) (b:=k.flatMap Pc.set) (by
  clear h1 h
  induction k with
  | nil=>cases hp
  | cons q k ih=>
   rw[List.flatMap_cons]
   rcases Wp.1 hp with rfl|h
   ·exact List.sublist_append_left _ _
   ·exact(ih h).trans (List.sublist_append_right _ _))
 have h3:=h.2
 exact⟨ab,ab⟩⟩
theorem SQ (k:List Pc)(s:ByteArray)(hk:ew k)(hs:s.size≤1000000000):Fn prog 223 [sC s,.per (fM [gG k])] (qG (lC k s)):=by
 have h1:=RL k s hk hs
 generalize lC k s=A at *
 refine fi func223 ntmps223 ?_
 (refine Ry h1 ?_)
 exact nx
theorem vz (k:List Pc)(hok:aX k)(hk:fe k):Fn prog 151 [nc k] (qO k):=by
 have h0:=iv k hk true (by simp[hok])
 have h1:=Na k hok hk
 clear hok hk
 refine fi func151 ntmps151 ?_
 (refine bg h0 h1 ?_;repeat' first|apply ah|refine ai fun hc=>?_)
 exact nx
theorem Uh (k:List Pc)(hk:ew k):Fn prog 151 [nc k] (qO (wq k)):=by
 have hl:=hk.1
 by_cases hok:aX k
 ·rw[M5 hok]
  exact vz k hok (dE hk)
 ·have h0:=iv k (dE hk) false (by simp[hok])
  have h1:=CD [k] au bn
  have e1:[k].flatten=k:=au
  rw[e1]at h1
  have hlE:=vy k
  have h2:=CF 223 [fM [gG k]] (lC k) (mb k) ab (fun s hs=>(SQ k s hk (Qy hs)).frz.toM) (fun s _=>rU k s) (fun s _=>by
   have:=M9 hk s
   exact⟨ab,ab⟩)
  rw[show pR (lC k) (mb k)=wq k from rfl]at h2
  generalize wq k=R at *
  generalize mb k=E at *
  clear hlE e1 hok hk
  refine fi func151 ntmps151 ?_
  (refine aq h0 ?_;repeat' first|apply ah|refine ai fun hc=>?_)
  refine aR (rD 1 _ 24 rfl rfl rfl) ?_
  (repeat' (first|refine ck ?_|refine bi ?_|refine bA ?_|refine bB ?_|refine cn ?_|refine aU ?_|refine bV cI ?_|refine ci ?_|refine cj (by kernel_rfl) ?_|(refine dL rfl rfl ⟨fun hc=>?_,fun hc=>?_⟩<;>(repeat rw[V7]at hc)<;>(try exact ce hc))|((first|apply aB rfl|apply aC rfl|apply aD rfl|apply aF rfl);focus (first|((apply aZ 22;(focus rfl);exact GI ⟨rfl,rfl,rfl⟩ rfl rfl))|(apply bI;(focus rfl);apply ag rfl rfl rfl rfl rfl;((apply aZ 22;(focus rfl);exact GI ⟨rfl,rfl,rfl⟩ rfl rfl)))|exact cz|((refine Ka (h1) (hg:=?_);((repeat (first|exact GL.nil|(refine GL.cons ?_ ?_;focus (first|exact ep rfl|exact eR rfl|exact gk rfl rfl rfl|exact eS rfl|exact gl rfl|exact eM rfl))));done)))|(apply bI;(focus rfl);apply ag rfl rfl rfl rfl rfl;((refine Ka (h1) (hg:=?_);((repeat (first|exact GL.nil|(refine GL.cons ?_ ?_;focus (first|exact ep rfl|exact eR rfl|exact gk rfl rfl rfl|exact eS rfl|exact gl rfl|exact eM rfl))));done))))|((refine Ka (h2) (hg:=?_);((repeat (first|exact GL.nil|(refine GL.cons ?_ ?_;focus (first|exact ep rfl|exact eR rfl|exact gk rfl rfl rfl|exact eS rfl|exact gl rfl|exact eM rfl))));done)))|(apply bI;(focus rfl);apply ag rfl rfl rfl rfl rfl;((refine Ka (h2) (hg:=?_);((repeat (first|exact GL.nil|(refine GL.cons ?_ ?_;focus (first|exact ep rfl|exact eR rfl|exact gk rfl rfl rfl|exact eS rfl|exact gl rfl|exact eM rfl))));done))))|fail))|refine bD ?_|refine bF ?_|refine bG ?_|refine de ?_|refine dg ?_|refine bH ?_|refine bj rfl ?_|((first|refine dM rfl rfl rfl ⟨fun hc=>?_,fun hc=>?_⟩|refine dN rfl rfl rfl ⟨fun hc=>?_,fun hc=>?_⟩)<;>(fail_if_success (have q:(true=true):=hc))<;>(fail_if_success (have q:(false=false):=hc))<;>(repeat rw[V7]at hc)<;>(try exact ce hc))|refine aH rfl rfl (fun hc=>?_) ?_))
  exact nx
theorem Qz (ls:List (List Pc))(hl:ls.length≤1000)(hk:ew ls.flatten):Fn prog 91 [.bor 1 (ls.map fun k=>[gG k])] (qO (wq ls.flatten)):=by
 have h1:=Uh ls.flatten hk
 have hkl:=hk.1
 generalize wq ls.flatten=R at *
 clear hk
 refine fi func91 ntmps91 ?_
 (refine w0 ?_)
 refine bQ (bU 3 700 132 4 rfl rfl) ?_
 refine aj (X:=Nat) (fun z=>z≤ls.length)
  (fun z=>ay [(3,.row 700 0),(6,.bor 1 (ls.map fun k=>[gG k])),(7,iC .i64 (ls.length:Nat)),(8,iC .i64 ((z:Nat):Int))] [(700,Qx (ls.take z).flatten)]) (fun z=>ls.length-z) 0 (Wa _) ?_
 intro z hz
 by_cases hlt:z<ls.length
 ·have htk:(ls.take (z+1)).flatten=(ls.take z).flatten++ls[z]:=by rw[List.take_succ_eq_append_getElem hlt,List.flatten_append];simp
  have hsub:(ls.take (z+1)).flatten.length≤ls.flatten.length:=by
   have:ls.flatten=(ls.take (z+1)).flatten++(ls.drop (z+1)).flatten:=by rw[←List.flatten_append,WL]
   rw[this,V5];omega
  rw[htk,V5]at hsub
  generalize (ls.take z).flatten=A at *
  clear h1
  (refine w0 ?_;repeat' first|apply ah|refine ai fun hc=>?_)
  refine⟨z+1,hlt,ab,av (aN 700 701) (av (aN 701 700) ?_)⟩
  rw[htk]
  exact ae
 ·rw[Wd (show ls.length≤z by omega)]
  generalize ls.flatten=A at *
  (refine w0 ?_;repeat' first|apply ah|refine ai fun hc=>?_)
  refine aR (jj 700 _ 132 4 rfl rfl) ?_
  (refine aq h1 ?_)
  exact nx
theorem EY {a b:List Kn}(ha:cu a)(hb:cu b)(h:∀r,r<16→∀n,gd (bh a r) n↔gd (bh b r) n):a=b:=by
 have e:(cS a).map ofR=(cS b).map ofR:=by
  apply List.ext_getElem?
  intro i
  by_cases hi:i<16
  ·rw[List.getElem?_map,List.getElem?_map,cG _ hi,cG _ hi]
   simp only[W5]
   rw[Cr (h i hi)]
  ·rw[Wq (by rw[V7,bW];omega),Wq (by rw[V7,bW];omega)]
 have:=li (cS a) 0
 rw[e,li]at this
 have h1:=oO ha
 have h2:=oO hb
 unfold gH at h1 h2
 rw[←h1,←h2,this]
theorem vA (s:List Kn){r:Nat}(hr:r<16):bh (gH ofR s) r=ofR (bh s r):=by
 have h:=pS s
 have h1:=cG (gH ofR s) hr
 rw[h,List.getElem?_map,cG _ hr]at h1
 exact(Option.some.inj h1).symm
theorem x7 (a b:List Kn)(r:Nat):bh (a++b) r=bh a r++bh b r:=by unfold bh;rw[List.flatMap_append]
theorem EZ (a b:List Pc)(s:ByteArray):lC (a++b) s=gH ofR (lC a s++lC b s):=by
 rw[←Qu]
 have:=Cy (lC a s) (lC b s)
 rw[oO (rU a s),oO (rU b s)]at this
 exact this
section
variable {P:Program} {n:Nat} {ops:Array Oper} {o:Oper} {S:St}
theorem GK {f:FuncId}{x0:Operand}{xs:List Operand}{As:List Cnt}{pre post:List (Nat×Blk)}{r:Cnt}(sg:List (Nat×Nat))(hf:dh P f As pre r post)(hp:H3 n o:=by exact⟨rfl,rfl⟩)(ho:kp o x0 xs:=by exact⟨_,rfl⟩)(hx:S.opd x0=.per (ak (.func (.func f) #[] #[])):=by rfl)(hok:KN sg=true:=by rfl)
 (hg:sy S sg xs As:=by first|((repeat (first|exact sy.nil|(refine sy.cons ?_ ?_;focus (first|exact pD rfl|exact pE rfl|exact gq_row rfl rfl rfl rfl|exact pF rfl|exact gq_nil rfl|exact gq_nil' rfl|exact nw rfl rfl))));done)|fail) (hpre:m8 S sg pre:=by first|((repeat (first|exact m8.nil|(refine m8.cons rfl rfl ?_)));done)|fail):aw n P ops o (az x0++(fN S xs++Dy sg)) (r.mp false (kV sg) z0 (wn S.ver sg)) (nr S post sg sg) S:=
 lH (cs:=[]) sg hp ho (Bt hx (fun k h=>by simp[h])) (by simpa using hf) hok (fun p h=>by simp[uq p h]) (hg.gives (fun _ h=>by simp at h ⊢;exact .inr (.inl h)) (fun _ h=>by simp[h])) hpre
end
def zG (x:It):List It→List It→List It
 | [],r=>x::r
 | y::l,r=>if cP x.key y.key<0 then zG x l (y::r)else(y::l).reverse++x::r
def wL (p:List It)(x:It):List It:=zG x p.reverse []
def fK (l:List It):List It:=l.foldl wL []
theorem Nb (x:It):∀(l r:List It),(zG x l r).length=l.length+1+r.length:=by
 intro l
 induction l with
 | nil=>intro r;simp[zG];omega
 | cons y l ih=>
  intro r
  unfold zG
  split
  ·rw[ih];simp;omega
  ·simp;omega
abbrev nN:Cnt:=.per (ak (.func (.func 165) #[] #[]))
abbrev gp (l:List It):Blk:=.row 82 7 (l.map itP)
def ng (l:List It):Prop:=∀x∈l,x.key.size≤1000000000
theorem fk {α:Type}(A:List α)(x y:α)(T:List α)(j:Nat)(hj:j=A.length):(A++x::T).set j y=A++y::T:=by
 subst hj;simp
theorem fm {α:Type}(l:List α):l=[]∨∃(l':List α)(y:α),l=l'++[y]:=by
 rcases List.eq_nil_or_concat l with h|⟨a,y,h⟩
 ·exact .inl h
 ·exact .inr ⟨a,y,by rw[h];simp⟩
theorem cg {α β:Type}(f:α→β)(l:List α)(j:Nat)(y:α):(l.map f).set j (f y)=(l.set j y).map f:=by rw[List.map_set]
theorem qP (x y:It)(hx:x.key.size≤1000000000):dh prog 165 [uz x,uz y] [] (.per (ak (.int .i64 (cP x.key y.key)))) []:=by
 have h1:=ii x.key y.key ab
 refine dH func165 ntmps165 ?_
 (refine aq h1 ?_)
 refine⟨(by first|exact .inl rfl|exact .inr rfl),gq [] rfl rfl .nil ?_⟩
 exact bm rfl rfl
theorem CG (A M Z:List It)(hk:ng M)(hl:(A++M++Z).length≤1000000000):dh prog 261 [.row 1000 0,iC .i64 (A.length:Nat),iC .i64 ((A.length+M.length:Nat):Int),nN] [(1000,gp (A++M++Z))] .any [(1000,gp (A++fK M++Z))]:=by
 generalize hR:A++fK M++Z=R
 generalize hb:A.length+M.length=b
 simp only[V5]at hl
 refine dH func261 ntmps261 ?_
 (refine w0 ?_)
 refine bZ (X:=Nat×List It×List It) (fun x=>A.length<x.1∧x.1≤b+1∧A.length+x.2.1.length=min x.1 b∧A.length+x.2.1.length+x.2.2.length=b∧ng x.2.1∧ng x.2.2∧A++x.2.2.foldl wL x.2.1++Z=R)
  (fun x=>ay [(0,.row 1000 0),(1,iC .i64 (A.length:Nat)),(2,iC .i64 (b:Nat)),(3,nN),(8,iC .i64 (x.1:Nat))] [(1000,gp (A++x.2.1++(x.2.2++Z)))]) (fun x=>b+1-x.1) (A.length+1,M.take 1,M.drop 1) ?_ ?_ ?_
 ·refine⟨aA,aA,by simp only[WA];omega,by simp only[WA,Xb];omega,fun x h=>hk x (Xt h),fun x h=>hk x (List.mem_of_mem_drop h),?_⟩
  rw[←hR]
  cases M with
  | nil=>rfl
  | cons x M=>rfl
 ·have e:A++M.take 1++(M.drop 1++Z)=A++M++Z:=by
   rw[V9,←V9 (M.take 1),WL,V9]
  rw[e]
  exact ae
 ·rintro⟨i,p,q⟩ ⟨h1,h2,h3,h4,hkp,hkq,h5⟩
  simp only at h1 h2 h3 h4 hkp hkq h5 ⊢
  by_cases hlt:i<b
  ·obtain⟨x,q,rfl⟩:∃x q',q=x::q':=by
    cases q with
    | nil=>simp at h4;omega
    | cons x q=>exact⟨x,q,rfl⟩
   have hip:A.length+p.length=i:=ab
   clear h3
   have hkx:=hkq x au
   simp only[Wh,List.foldl_cons]at h4 h5
   (repeat' (first|refine ck ?_|refine bi ?_|refine bA ?_|refine bB ?_|refine cn ?_|refine aU ?_|refine ci ?_|refine cj (by kernel_rfl) ?_|(refine dL rfl rfl ⟨fun hc=>?_,fun hc=>?_⟩<;>(repeat rw[V7]at hc)<;>(try exact ce hc))|((first|apply aB rfl|apply aC rfl|apply aD rfl|apply aF rfl);focus (first|exact cz|fail))|refine bD ?_|refine bF ?_|refine bG ?_|refine de ?_|refine dg ?_|refine bH ?_|refine bj rfl ?_|((first|refine dM rfl rfl rfl ⟨fun hc=>?_,fun hc=>?_⟩|refine dN rfl rfl rfl ⟨fun hc=>?_,fun hc=>?_⟩)<;>(fail_if_success (have q:(true=true):=hc))<;>(fail_if_success (have q:(false=false):=hc))<;>(repeat rw[V7]at hc)<;>(try exact ce hc))|refine aH rfl rfl (fun hc=>?_) ?_))
   refine bZ (X:=List It×List It) (fun y=>y.1.length+y.2.length=p.length∧ng y.1∧ng y.2∧zG x y.1.reverse y.2=wL p x)
    (fun y=>ay [(0,.row 1000 0),(1,iC .i64 (A.length:Nat)),(2,iC .i64 (b:Nat)),(3,nN),(8,iC .i64 (i:Nat)),(9,iC .i64 ((A.length+y.1.length:Nat):Int))] [(1000,gp (A++y.1++x::(y.2++(q++Z))))]) (fun y=>y.1.length) (p,[]) ⟨au,hkp,fun x h=>by simp at h,rfl⟩ ?_ ?_
   ·subst hip
    exact ae
   ·rintro⟨p1,p2⟩ ⟨g1,gk1,gk2,g2⟩
    simp only at g1 gk1 gk2 g2 ⊢
    have out:wL p x=p1++x::p2→(∃z:Nat×List It×List It,(A.length<z.1∧z.1≤b+1∧A.length+z.2.1.length=min z.1 b∧A.length+z.2.1.length+z.2.2.length=b∧ng z.2.1∧ng z.2.2∧A++z.2.2.foldl wL z.2.1++Z=R)∧z=(i+1,p1++x::p2,q)):=fun e=>by
     refine⟨_,⟨aA,aA,bn,bn,fun y hy=>?_,fun y hy=>hkq y (by simp[hy]),by rw[←e];exact h5⟩,rfl⟩
     rcases Wz.1 hy with h|h
     ·exact gk1 y h
     ·rcases Wp.1 h with h|h
      ·subst h;exact hkx
      ·exact gk2 y h
    have hL0:A++p1++x::(p2++(q++Z))=A++(p1++x::p2)++(q++Z):=au
    rcases fm p1 with rfl|⟨p1',y,rfl⟩
    ·have e:wL p x=[]++x::p2:=by rw[←g2];rfl
     obtain⟨z,hz,rfl⟩:=out e
     rw[hL0]
     (refine w0 ?_;repeat' first|apply ah|refine ai fun hc=>?_)
     refine⟨_,hz,aA,?_⟩
     exact ae
    ·obtain⟨j,hj⟩:∃j,A.length+p1'.length=j:=⟨_,rfl⟩
     have hj1:A.length+(p1'++[y]).length=j+1:=bn
     have hky:=gk1 y au
     have hm:=qP x y hkx
     generalize hL:A++(p1'++[y])++x::(p2++(q++Z))=L at *
     have hlen:j+1<L.length:=by rw[←hL];simp;omega
     have HJ:(L.map itP)[j+1]?=some (itP x):=by
      rw[List.getElem?_map,←hL,List.getElem?_append_right bn,V5,hj1,XB];rfl
     have HJ1:(L.map itP)[j]?=some (itP y):=by
      rw[List.getElem?_map,←hL,V9,V9,List.getElem?_append_right ab,List.getElem?_append_right ab]
      rw[show j-A.length-p1'.length=0 by omega];rfl
     rw[hj1]
     have hrev:(p1'++[y]).reverse=y::p1'.reverse:=au
     rw[hrev,zG]at g2
     have HS1:(L.map itP).set (j+1) (cH (itP x) 0 (itP y))=(L.set (j+1) y).map itP:=by rw[←cg];rfl
     have HJ2:((L.set (j+1) y).map itP)[j]?=some (itP y):=by
      rw[←cg,List.getElem?_set_ne ab];exact HJ1
     have HS2:((L.set (j+1) y).map itP).set j (cH (itP y) 0 (itP x))=(A++p1'++x::((y::p2)++(q++Z))).map itP:=by
      rw[cg itP (L.set (j+1) y) j x |>.symm.trans rfl |> fun h=>(show((L.set (j+1) y).map itP).set j (cH (itP y) 0 (itP x))=((L.set (j+1) y).set j x).map itP from cg itP _ j x)]
      rw[←hL,fk (A++(p1'++[y])) x y _ (j+1) bn,show A++(p1'++[y])++y::(p2++(q++Z))=(A++p1')++y::(y::(p2++(q++Z)))by simp,fk (A++p1') y x _ j bn]
      simp
     by_cases hxy:cP x.key y.key<0
     ·rw[V6 hxy]at g2
      clear out
      (refine w0 ?_;repeat' first|apply ah|refine ai fun hc=>?_|((first|apply aB rfl|apply aC rfl|apply aD rfl|apply aF rfl);(focus ((try (apply bI;(focus rfl);apply ag rfl rfl rfl rfl rfl));first|((apply aZ 5;(focus rfl);first|exact ax ⟨rfl,rfl,rfl⟩ rfl inferInstance inferInstance rfl rfl rfl HJ rfl rfl rfl|exact ax ⟨rfl,rfl,rfl⟩ rfl inferInstance inferInstance rfl rfl rfl HJ1 rfl rfl rfl))|((apply aZ 6;(focus rfl);first|exact aM ⟨rfl,rfl⟩ rfl inferInstance rfl rfl rfl rfl HJ rfl (.inl rfl) rfl HS1|exact aM ⟨rfl,rfl⟩ rfl inferInstance rfl rfl rfl rfl HJ2 rfl (.inl rfl) rfl HS2))|(exact GK [] hm)));refine w0 ?_))
      refine⟨(p1',y::p2),⟨by simp at g1 ⊢;omega,fun z h=>gk1 z (by simp[h]),fun z h=>?_,g2⟩,au,?_⟩
      ·rcases Wp.1 h with h|h
       ·subst h;exact hky
       ·exact gk2 z h
      ·simp only[hj]
       exact ae
     ·rw[V3 hxy]at g2
      have e:wL p x=(p1'++[y])++x::p2:=by rw[←g2];simp
      obtain⟨z,hz,rfl⟩:=out e
      (refine w0 ?_;repeat' first|apply ah|refine ai fun hc=>?_|((first|apply aB rfl|apply aC rfl|apply aD rfl|apply aF rfl);(focus ((try (apply bI;(focus rfl);apply ag rfl rfl rfl rfl rfl));first|((apply aZ 5;(focus rfl);first|exact ax ⟨rfl,rfl,rfl⟩ rfl inferInstance inferInstance rfl rfl rfl HJ rfl rfl rfl|exact ax ⟨rfl,rfl,rfl⟩ rfl inferInstance inferInstance rfl rfl rfl HJ1 rfl rfl rfl))|(exact GK [] hm)));refine w0 ?_))
      refine⟨_,hz,aA,?_⟩
      simp only
      rw[←hL0]
      exact ae
  ·have hq:q=[]:=Wf ab
   subst hq
   simp only[List.foldl_nil]at h5
   (refine w0 ?_;repeat' first|apply ah|refine ai fun hc=>?_)
   rw[Wu,h5]
   exact j3
def pU (out:List It)(x:It):List It:=match out.reverse with
 | []=>[x]
 | y::r=>if y.key=x.key then(if wA x y>0 then r.reverse++[x]else out)else out++[x]
def ey (ls:List (List It)):List It:=(fK (ls.flatten.filter eC)).foldl pU []
theorem Nc (out:List It)(x:It):(pU out x).length≤out.length+1:=by
 unfold pU
 rcases fm out with rfl|⟨o,y,rfl⟩
 ·simp
 ·simp only[List.reverse_append,List.reverse_cons,List.reverse_nil,Wu,Xx]
  split
  ·split<;>simp
  ·simp
theorem i9 (l:List It):(fK l).length=l.length:=by
 unfold fK
 have:∀(l p:List It),(l.foldl wL p).length=p.length+l.length:=by
  intro l
  induction l with
  | nil=>intro p;rfl
  | cons x l ih=>
   intro p
   rw[List.foldl_cons,ih]
   unfold wL
   rw[Nb];simp;omega
 simpa using this l []
theorem IY {l:List It}(h:∀x∈l,eC x=true):ng l:=fun x hx=>by
 have:=(fF (h x hx)).2.2.2
 omega
end Go.Proofs.YtaclhhkblbacgaaGreat
