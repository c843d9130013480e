/- Texts joined: SwW SrtR RgW Rcn. -/
import Derived.Test.YtaclhhkblbacgaaGreatJ26
set_option maxRecDepth 10000
set_option maxHeartbeats 8000000
namespace Go.Proofs.YtaclhhkblbacgaaGreat
open Go.RowKit Go.Proofs.Tryz
variable {k:Nat}
def pg (k:ByteArray)(r c:Int):List Pc:=if pd k&&gm r c then [⟨⟨k,k++⟨#[0]⟩,false⟩,[⟨r,[⟨c,c⟩]⟩]⟩]else []
def RM (x y:Rg):Int:=cP x.lo y.lo
def ST (x:Rg):Prop:=x.lo.size≤1000000000
theorem Vm (x y:Rg)(hx:ST x)(hy:ST y):dh prog 225 [LC x,LC y] [] (.per (ak (.int .i64 (RM x y)))) []:=by
 obtain⟨xl,xh,xo⟩:=x
 obtain⟨yl,yh,yo⟩:=y
 have h1:=ii xl yl (by have:xl.size≤1000000000:=hx;omega)
 show dh prog _ [.per (cB [ak (.string xl),ak (.string xh),ak (.bool xo)]),.per (cB [ak (.string yl),ak (.string yh),ak (.bool yo)])] [] (.per (ak (.int .i64 (cP xl yl)))) []
 refine dH func225 ntmps225 ?_
 (refine aq h1 ?_)
 (refine⟨(by first|exact .inl rfl|exact .inr rfl),gq [] rfl rfl .nil ?_⟩)
 exact bm rfl rfl
abbrev sJ:Cnt:=.per (ak (.func (.func 225) #[] #[]))
abbrev kh (l:List Rg):Blk:=.row 29 3 (l.map rgP)
def zP (l:List Rg):Prop:=∀x∈l,ST x
theorem I4 (A M Z:List Rg)(hk:zP M)(hl:(A++M++Z).length≤1000000000):dh prog 279 [.row 1000 0,iC .i64 (A.length:Nat),iC .i64 ((A.length+M.length:Nat):Int),sJ] [(1000,kh (A++M++Z))] .any [(1000,kh (A++dI ltR M++Z))]:=by
 generalize hR:A++dI ltR M++Z=R
 generalize hb:A.length+M.length=b
 simp only[V5]at hl
 refine dH func279 ntmps279 ?_
 (refine w0 ?_)
 refine bZ (X:=Nat×List Rg×List Rg) (fun x=>A.length<x.1∧x.1≤b+1∧A.length+x.2.1.length=min x.1 b∧A.length+x.2.1.length+x.2.2.length=b∧zP x.2.1∧zP x.2.2∧A++x.2.2.foldl (i8 ltR) x.2.1++Z=R)
  (fun x=>ay [(0,.row 1000 0),(1,iC .i64 (A.length:Nat)),(2,iC .i64 (b:Nat)),(3,sJ),(8,iC .i64 (x.1:Nat))] [(1000,kh (A++x.2.1++(x.2.2++Z)))]) (fun x=>b+1-x.1) (A.length+1,M.take 1,M.drop 1) ?_ ?_ ?_
 ·refine⟨aA,aA,by simp only[WA];omega,by simp only[WA,Xb];omega,fun x h=>hk x (Xt h),fun x h=>hk x (List.mem_of_mem_drop h),?_⟩
  rw[←hR]
  cases M with
  | nil=>rfl
  | cons x M=>rfl
 ·have e:A++M.take 1++(M.drop 1++Z)=A++M++Z:=by
   rw[V9,←V9 (M.take 1),WL,V9]
  rw[e]
  exact ae
 ·rintro⟨i,p,q⟩ ⟨h1,h2,h3,h4,hkp,hkq,h5⟩
  simp only at h1 h2 h3 h4 hkp hkq h5 ⊢
  by_cases hlt:i<b
  ·obtain⟨x,q,rfl⟩:∃x q',q=x::q':=by
    cases q with
    | nil=>simp at h4;omega
    | cons x q=>exact⟨x,q,rfl⟩
   have hip:A.length+p.length=i:=ab
   clear h3
   have hkx:=hkq x au
   simp only[Wh,List.foldl_cons]at h4 h5
   (repeat' (first|refine ck ?_|refine bi ?_|refine bA ?_|refine bB ?_|refine cn ?_|refine aU ?_|refine ci ?_|refine cj (by kernel_rfl) ?_|(refine dL rfl rfl ⟨fun hc=>?_,fun hc=>?_⟩<;>(repeat rw[V7]at hc)<;>(try exact ce hc))|((first|apply aB rfl|apply aC rfl|apply aD rfl|apply aF rfl);focus (first|exact cz|fail))|refine bD ?_|refine bF ?_|refine bG ?_|refine de ?_|refine dg ?_|refine bH ?_|refine bj rfl ?_|((first|refine dM rfl rfl rfl ⟨fun hc=>?_,fun hc=>?_⟩|refine dN rfl rfl rfl ⟨fun hc=>?_,fun hc=>?_⟩)<;>(fail_if_success (have q:(true=true):=hc))<;>(fail_if_success (have q:(false=false):=hc))<;>(repeat rw[V7]at hc)<;>(try exact ce hc))|refine aH rfl rfl (fun hc=>?_) ?_))
   refine bZ (X:=List Rg×List Rg) (fun y=>y.1.length+y.2.length=p.length∧zP y.1∧zP y.2∧kq ltR x y.1.reverse y.2=i8 ltR p x)
    (fun y=>ay [(0,.row 1000 0),(1,iC .i64 (A.length:Nat)),(2,iC .i64 (b:Nat)),(3,sJ),(8,iC .i64 (i:Nat)),(9,iC .i64 ((A.length+y.1.length:Nat):Int))] [(1000,kh (A++y.1++x::(y.2++(q++Z))))]) (fun y=>y.1.length) (p,[]) ⟨au,hkp,fun x h=>by simp at h,rfl⟩ ?_ ?_
   ·subst hip
    exact ae
   ·rintro⟨p1,p2⟩ ⟨g1,gk1,gk2,g2⟩
    simp only at g1 gk1 gk2 g2 ⊢
    have out:i8 ltR p x=p1++x::p2→(∃z:Nat×List Rg×List Rg,(A.length<z.1∧z.1≤b+1∧A.length+z.2.1.length=min z.1 b∧A.length+z.2.1.length+z.2.2.length=b∧zP z.2.1∧zP z.2.2∧A++z.2.2.foldl (i8 ltR) z.2.1++Z=R)∧z=(i+1,p1++x::p2,q)):=fun e=>by
     refine⟨_,⟨aA,aA,bn,bn,fun y hy=>?_,fun y hy=>hkq y (by simp[hy]),by rw[←e];exact h5⟩,rfl⟩
     rcases Wz.1 hy with h|h
     ·exact gk1 y h
     ·rcases Wp.1 h with h|h
      ·subst h;exact hkx
      ·exact gk2 y h
    have hL0:A++p1++x::(p2++(q++Z))=A++(p1++x::p2)++(q++Z):=au
    rcases fm p1 with rfl|⟨p1',y,rfl⟩
    ·have e:i8 ltR p x=[]++x::p2:=by rw[←g2];rfl
     obtain⟨z,hz,rfl⟩:=out e
     rw[hL0]
     (refine w0 ?_;repeat' first|apply ah|refine ai fun hc=>?_)
     refine⟨_,hz,aA,?_⟩
     exact ae
    ·obtain⟨j,hj⟩:∃j,A.length+p1'.length=j:=⟨_,rfl⟩
     have hj1:A.length+(p1'++[y]).length=j+1:=bn
     have hky:=gk1 y au
     have hm:=Vm x y hkx hky
     generalize hL:A++(p1'++[y])++x::(p2++(q++Z))=L at *
     have hlen:j+1<L.length:=by rw[←hL];simp;omega
     have HJ:(L.map rgP)[j+1]?=some (rgP x):=by
      rw[List.getElem?_map,←hL,List.getElem?_append_right bn,V5,hj1,XB];rfl
     have HJ1:(L.map rgP)[j]?=some (rgP y):=by
      rw[List.getElem?_map,←hL,V9,V9,List.getElem?_append_right ab,List.getElem?_append_right ab]
      rw[show j-A.length-p1'.length=0 by omega];rfl
     rw[hj1]
     have hrev:(p1'++[y]).reverse=y::p1'.reverse:=au
     rw[hrev,kq]at g2
     have HS1:(L.map rgP).set (j+1) (cH (rgP x) 0 (rgP y))=(L.set (j+1) y).map rgP:=by rw[←cg];rfl
     have HJ2:((L.set (j+1) y).map rgP)[j]?=some (rgP y):=by
      rw[←cg,List.getElem?_set_ne ab];exact HJ1
     have HS2:((L.set (j+1) y).map rgP).set j (cH (rgP y) 0 (rgP x))=(A++p1'++x::((y::p2)++(q++Z))).map rgP:=by
      rw[cg rgP (L.set (j+1) y) j x |>.symm.trans rfl |> fun h=>(show((L.set (j+1) y).map rgP).set j (cH (rgP y) 0 (rgP x))=((L.set (j+1) y).set j x).map rgP from cg rgP _ j x)]
      rw[←hL,fk (A++(p1'++[y])) x y _ (j+1) bn,show A++(p1'++[y])++y::(p2++(q++Z))=(A++p1')++y::(y::(p2++(q++Z)))by simp,fk (A++p1') y x _ j bn]
      simp
     by_cases hxy:RM x y<0
     ·rw[V6 (show ltR x y=true from Wb hxy)]at g2
      clear out
      (refine w0 ?_;repeat' first|apply ah|refine ai fun hc=>?_|((first|apply aB rfl|apply aC rfl|apply aD rfl|apply aF rfl);(focus ((try (apply bI;(focus rfl);apply ag rfl rfl rfl rfl rfl));first|((apply aZ 5;(focus rfl);first|exact ax ⟨rfl,rfl,rfl⟩ rfl inferInstance inferInstance rfl rfl rfl HJ rfl rfl rfl|exact ax ⟨rfl,rfl,rfl⟩ rfl inferInstance inferInstance rfl rfl rfl HJ1 rfl rfl rfl))|((apply aZ 6;(focus rfl);first|exact aM ⟨rfl,rfl⟩ rfl inferInstance rfl rfl rfl rfl HJ rfl (.inl rfl) rfl HS1|exact aM ⟨rfl,rfl⟩ rfl inferInstance rfl rfl rfl rfl HJ2 rfl (.inl rfl) rfl HS2))|(exact GK [] hm)));refine w0 ?_))
      refine⟨(p1',y::p2),⟨by simp at g1 ⊢;omega,fun z h=>gk1 z (by simp[h]),fun z h=>?_,g2⟩,au,?_⟩
      ·rcases Wp.1 h with h|h
       ·subst h;exact hky
       ·exact gk2 z h
      ·simp only[hj]
       exact ae
     ·rw[V3 (show ¬ltR x y=true by unfold ltR;rw[XD];exact hxy)]at g2
      have e:i8 ltR p x=(p1'++[y])++x::p2:=by rw[←g2];simp
      obtain⟨z,hz,rfl⟩:=out e
      (refine w0 ?_;repeat' first|apply ah|refine ai fun hc=>?_|((first|apply aB rfl|apply aC rfl|apply aD rfl|apply aF rfl);(focus ((try (apply bI;(focus rfl);apply ag rfl rfl rfl rfl rfl));first|((apply aZ 5;(focus rfl);first|exact ax ⟨rfl,rfl,rfl⟩ rfl inferInstance inferInstance rfl rfl rfl HJ rfl rfl rfl|exact ax ⟨rfl,rfl,rfl⟩ rfl inferInstance inferInstance rfl rfl rfl HJ1 rfl rfl rfl))|(exact GK [] hm)));refine w0 ?_))
      refine⟨_,hz,aA,?_⟩
      simp only
      rw[←hL0]
      exact ae
  ·have hq:q=[]:=Wf ab
   subst hq
   simp only[List.foldl_nil]at h5
   (refine w0 ?_;repeat' first|apply ah|refine ai fun hc=>?_)
   rw[Wu,h5]
   exact j3
section
variable {P:Program} {n:Nat} {ops:Array Oper} {o:Oper} {S:St} {t:Nat}
def wM (k:Nat):Nat:=if k=0 then 0 else k.log2+1
def SU:List UInt8:=(List.range 256).map fun k=>UInt8.ofNat (wM k)
theorem Nr:∀k:Fin 256,(SU[k.val]?).map UInt8.toNat=some (wM k.val):=by decide +kernel
theorem Ns {ty:TypeId}{x ix:Operand}{kk:IntKind}{z:Int}{s:ByteArray}(hp:Pl n o t)(ho:o.op=.index ty x ix)(hT:gx P ty .string)(hx:S.opd x=sC s)(hs:s.data.toList=SU)(hi:S.opd ix=iC kk z)(hz:z=(k:Int))(hk:k<256) :
 aw n P ops o (az x++az ix) (iC .u8 ((wM k:Nat):Int)) [] S:=by
 have h:=Nr ⟨k,hk⟩
 simp only at h
 cases hc:SU[k]? with
 | none=>rw[hc]at h;cases h
 | some c=>
  rw[hc]at h
  simp only[W5,Option.some.injEq]at h
  rw[←h]
  exact gZ hp ho hT hx hi (i:=k) hz (by rw[hs];exact hc)
theorem I5 {Q:Exit→St→Prop}{x y:Code}(h:AW P n y Q S):AW P n (.cond (.const (.bool false)) x y) Q S:=
 ⟨fun C a w hr=>wp_cond_split (t:=false) rfl (fun h=>by cases h) (fun _=>h.run C a w hr)⟩
theorem GQ {z:Nat}(h:z<256):IntKind.u8.wrap (z:Int)=(z:Int):=by
 simp[IntKind.wrap,IntKind.bits,IntKind.signed];omega
end
theorem QK (h:k<256):wM k≤8:=by
 have:∀k:Fin 256,wM k.val≤8:=by decide +kernel
 exact this ⟨k,h⟩
theorem E6 (k:Nat)(hk:k<256):Fn prog 288 [iC .u64 (k:Nat)] (el ((wM k:Nat):Int)):=by
 have hb:=QK hk
 have e:(0:Int)+((wM k:Nat):Int)=((wM k:Nat):Int):=ab
 have c1:((k:Nat):Int)<256:=ab
 refine fi func288 ntmps288 ?_
 (repeat' (first|refine ck ?_|refine bi ?_|refine bA ?_|refine bB ?_|refine cn ?_|refine aU ?_|refine bV cI ?_|refine ci ?_|refine cj (by kernel_rfl) ?_|(refine dL rfl rfl ⟨fun hc=>?_,fun hc=>?_⟩<;>(repeat rw[V7]at hc)<;>(try exact ce hc))|((first|apply aB rfl|apply aC rfl|apply aD rfl|apply aF rfl);focus (first|((apply aZ 13;(focus rfl);exact Ns (k:=k) ⟨rfl,rfl,rfl⟩ rfl inferInstance rfl (by decide +kernel) rfl (GQ hk) hk))|(apply bI;(focus rfl);apply ag rfl rfl rfl rfl rfl;((apply aZ 13;(focus rfl);exact Ns (k:=k) ⟨rfl,rfl,rfl⟩ rfl inferInstance rfl (by decide +kernel) rfl (GQ hk) hk)))|((apply aZ 8;(focus rfl);exact gC ⟨rfl,rfl,rfl⟩ rfl rfl rfl rfl ((cU ab ab).trans e)))|(apply bI;(focus rfl);apply ag rfl rfl rfl rfl rfl;((apply aZ 8;(focus rfl);exact gC ⟨rfl,rfl,rfl⟩ rfl rfl rfl rfl ((cU ab ab).trans e))))|exact cz|fail))|refine bD ?_|refine bF ?_|refine bG ?_|refine de ?_|refine dg ?_|refine bH ?_|refine bj rfl ?_|((first|refine dM rfl rfl rfl ⟨fun hc=>?_,fun hc=>?_⟩|refine dN rfl rfl rfl ⟨fun hc=>?_,fun hc=>?_⟩)<;>(fail_if_success (have q:(true=true):=hc))<;>(fail_if_success (have q:(false=false):=hc))<;>(repeat rw[V7]at hc)<;>(try exact ce hc))|refine aH rfl rfl (fun hc=>?_) ?_))
 exact wo
theorem Nt (k:Nat)(hk:k<256):Fn prog 256 [iC .u64 (k:Nat)] (el ((wM k:Nat):Int)):=by
 have h:=E6 k hk
 refine fi func256 ntmps256 ?_
 (refine w0 ?_)
 refine I5 ?_
 (have kc1:=h;have kh1:=Lib.hid (show(0:Int) / 2=0 from rfl);refine BA ?_;all_goals clear kh1 kc1)
 exact wo
theorem QL (M:List Rg)(lim:Int)(hk:zP M)(hl:M.length≤12):dh prog 255 [.row 1000 0,iC .i64 0,iC .i64 (M.length:Nat),iC .i64 lim,sJ] [(1000,kh M)] .any [(1000,kh (dI ltR M))]:=by
 have h:=I4 [] M [] hk bn
 simp only[Wu,Wg,List.length_nil,WF]at h
 generalize dI ltR M=R at *
 have e:((M.length:Nat):Int)-0=((M.length:Nat):Int):=ab
 refine dH func255 ntmps255 ?_
 (refine ed e (fD h) ?_)
 refine aj (X:=Unit) (fun _=>True) (fun _=>ay [(0,.row 1000 0),(1,iC .i64 0),(2,iC .i64 (M.length:Nat)),(3,iC .i64 lim),(4,sJ)] [(1000,kh M)]) (fun _=>0) () trivial ?_
 rintro _ -
 (refine ed e (fD h) ?_;repeat' first|apply ah|refine ai fun hc=>?_)
 exact j3
theorem Nu (M:List Rg)(hk:zP M)(hl:M.length≤12):dh prog 224 [.row 1000 0,sJ] [(1000,kh M)] .any [(1000,kh (dI ltR M))]:=by
 have h1:=Nt M.length ab
 have h:=QL M ((wM M.length:Nat):Int) hk hl
 generalize dI ltR M=R at *
 refine dH func224 ntmps224 ?_
 (have kc1:=h1;have km1:=(show kW [(1000,1000)] _ _ _ _ _ _ from h);have kh1:=Lib.hid (show(0:Int) / 2=0 from rfl);refine BA ?_;all_goals clear kh1 km1 kc1)
 exact j3
abbrev CJ (l:List Rg):Ret:=.own 29 3 (l.map rgP)
theorem CK {Q:List Rg}(hk:k<Q.length):jn (Q.take (k+1))=Dz (jn (Q.take k)) Q[k]:=by
 unfold jn;rw[List.take_succ_eq_append_getElem hk,List.foldl_append];rfl
theorem I6 {Q:List Rg}(hR:∀r∈Q,fX r=true)(hS:Q.Pairwise (fun x y=>x.lo≤y.lo))(k:Nat):∀r∈jn (Q.take k),fX r=true:=by
 intro r hr
 have h:=(Cx (L:=Q.take k) (fun x hx=>hR x (Xt hx)) (hS.sublist (List.take_sublist _ _))).1
 obtain⟨i,hi,rfl⟩:=List.getElem_of_mem hr
 exact(h i hi).1
theorem QM (Q:List Rg)(k:Nat):(jn (Q.take k)).length≤k:=by
 have h:=MS (Q.take k) []
 rw[WA]at h
 simp only[List.length_nil]at h
 unfold jn
 omega
theorem GR (l Q:List Rg)(hs:dh prog 224 [.row 1000 0,sJ] [(1000,kh (l.filter fX))] .any [(1000,kh Q)])(hql:Q.length=(l.filter fX).length)
 (hQr:∀x∈Q,fX x=true) (hQs:Q.Pairwise fun x y=>x.lo≤y.lo) (hn:l.length≤1000000000):Fn prog 153 [ec l] (CJ (jn Q)):=by
 generalize hT:l.filter fX=T at *
 have hTl:T.length≤1000000000:=by rw[←hT];exact W7 (WT _ _) hn
 generalize hR:jn Q=R
 refine fi func153 ntmps153 ?_
 (refine w0 ?_)
 refine bQ (bU 3 600 29 3 rfl rfl) ?_
 refine aj (X:=Nat×List Rg) (fun x=>x.1≤l.length∧x.2++(l.drop x.1).filter fX=T)
  (fun x=>ay [(3,.row 600 0),(10,ec l),(11,iC .i64 (l.length:Nat)),(12,iC .i64 (x.1:Nat))] [(600,kh x.2)]) (fun x=>l.length-x.1) (0,[]) ⟨Wa _,by simp[hT]⟩ ?_
 rintro⟨k,ac⟩ ⟨g1,g2⟩
 simp only at g1 g2 ⊢
 by_cases hk:k<l.length
 ·have hir:=ir l[k]
  have hlen:ac.length≤1000000000:=by
   have:=Wx List.length g2
   simp only[V5]at this;omega
  rw[List.drop_eq_getElem_cons hk,List.filter_cons]at g2
  cases hr:fX l[k]with
  | false=>
   rw[hr]at hir g2
   (refine aq hir ?_;repeat' first|apply ah|refine ai fun hc=>?_)
   refine⟨(k+1,ac),⟨aA,by simpa using g2⟩,aA,?_⟩
   exact ae
  | true=>
   rw[hr]at hir g2
   (refine aq hir ?_;repeat' first|apply ah|refine ai fun hc=>?_)
   refine⟨(k+1,ac++[l[k]]),⟨aA,by simpa using g2⟩,aA,av (aN 600 601) (av (aN 601 600) ?_)⟩
   exact ae
 ·have hkl:k=l.length:=ab
  subst hkl
  rw[Xk]at g2
  simp at g2
  subst g2
  (refine fP (xi [(1000,600)] hs) ?_;repeat' first|apply ah|refine ai fun hc=>?_)
  clear hs hT
  refine bQ (bU 6 700 29 3 rfl rfl) ?_
  refine aj (X:=Nat×List Rg) (fun x=>x.1≤Q.length∧x.2=jn (Q.take x.1))
   (fun x=>ay [(6,.row 700 0),(25,.row 600 0),(26,iC .i64 (Q.length:Nat)),(27,iC .i64 (x.1:Nat))] [(600,kh Q),(700,kh x.2)]) (fun x=>Q.length-x.1) (0,[]) ⟨Wa _,rfl⟩ ?_
  rintro⟨k,out⟩ ⟨g1,g2⟩
  simp only at g1 g2 ⊢
  by_cases hk:k<Q.length
  ·have hol:out.length≤1000000000:=by have:=QM Q k;rw[←g2]at this;omega
   have hor:=I6 hQr hQs k
   rw[←g2]at hor
   have g3:=CK hk
   rw[←g2]at g3
   have hxr:=hQr _ (Wk hk)
   generalize hx:Q[k]=x at *
   have HQ:(Q.map rgP)[k]?=some (rgP x):=by rw[List.getElem?_map,V4 hk,hx];rfl
   clear hQr hQs hx g2
   rcases fm out with rfl|⟨o,y,rfl⟩
   ·have g4:[x]=jn (Q.take (k+1)):=by rw[g3];rfl
    (refine w0 ?_;repeat' first|apply ah|refine ai fun hc=>?_|((first|apply aB rfl|apply aC rfl|apply aD rfl|apply aF rfl);(focus ((try (apply bI;(focus rfl);apply ag rfl rfl rfl rfl rfl));first|((apply aZ 5;(focus rfl);exact ax ⟨rfl,rfl,rfl⟩ rfl inferInstance inferInstance rfl rfl rfl HQ rfl rfl rfl))));refine w0 ?_))
    refine⟨(k+1,[x]),⟨aA,g4⟩,aA,av (aN 700 701) (av (aN 701 700) ?_)⟩
    exact ae
   ·have hyr:=hor y au
    clear hor
    have hG:jn (Q.take (k+1))=(if y.op=false∧cP y.hi x.lo<0 then(o++[y])++[x]else if IM y x<0 then o++[⟨y.lo,x.hi,x.op⟩]else o++[y]):=by
     rw[g3,Dz]
     simp only[List.reverse_append,List.reverse_cons,List.reverse_nil,Wu,Xx,Xa]
    clear g3
    have hcm:=ii y.hi x.lo (by have:=((b0 y).1 hyr).2.1;omega)
    have hen:=IR y x hyr hxr
    clear hyr hxr
    have hL1:(o++[y]).length=o.length+1:=au
    generalize hL:o++[y]=L at *
    have hLi:((L.length:Int)-1).toNat=o.length:=ab
    have HY:(L.map rgP)[((L.length:Int)-1).toNat]?=some (rgP y):=by
     rw[List.getElem?_map,hLi,←hL]
     simp
    have HS1:(L.map rgP).set ((L.length:Int)-1).toNat (cH (rgP y) 1 [ak (.string x.hi)])=(o++[(⟨y.lo,x.hi,y.op⟩:Rg)]).map rgP:=by
     rw[show(L.map rgP).set ((L.length:Int)-1).toNat (cH (rgP y) 1 [ak (.string x.hi)])=(L.set ((L.length:Int)-1).toNat ⟨y.lo,x.hi,y.op⟩).map rgP from cg rgP L _ (⟨y.lo,x.hi,y.op⟩:Rg),←hL,fk o y _ [] _ (by rw[hL];omega)]
    have HY2:((o++[(⟨y.lo,x.hi,y.op⟩:Rg)]).map rgP)[((L.length:Int)-1).toNat]?=some (rgP ⟨y.lo,x.hi,y.op⟩):=by
     rw[List.getElem?_map,hLi]
     simp
    have HS2:((o++[(⟨y.lo,x.hi,y.op⟩:Rg)]).map rgP).set ((L.length:Int)-1).toNat (cH (rgP ⟨y.lo,x.hi,y.op⟩) 2 [ak (.bool x.op)])=(o++[(⟨y.lo,x.hi,x.op⟩:Rg)]).map rgP:=by
     rw[show((o++[(⟨y.lo,x.hi,y.op⟩:Rg)]).map rgP).set ((L.length:Int)-1).toNat (cH (rgP ⟨y.lo,x.hi,y.op⟩) 2 [ak (.bool x.op)])=((o++[(⟨y.lo,x.hi,y.op⟩:Rg)]).set ((L.length:Int)-1).toNat ⟨y.lo,x.hi,x.op⟩).map rgP from cg rgP (o++[(⟨y.lo,x.hi,y.op⟩:Rg)]) _ (⟨y.lo,x.hi,x.op⟩:Rg),fk o _ _ [] _ ab]
    generalize hE:IM y x=E at *
    generalize hC:cP y.hi x.lo=C at *
    cases hyo:y.op with
    | true=>
     rw[hyo,V3 au]at hG
     have HYt:(L.map rgP)[((L.length:Int)-1).toNat]?=some [ak (.string y.lo),ak (.string y.hi),ak (.bool true)]:=by rw[HY];simp only[rgP,hyo]
     (refine bg hcm hen ?_;repeat' first|apply ah|refine ai fun hc=>?_|((first|apply aB rfl|apply aC rfl|apply aD rfl|apply aF rfl);(focus ((try (apply bI;(focus rfl);apply ag rfl rfl rfl rfl rfl));first|((apply aZ 5;(focus rfl);first|exact bR ⟨rfl,rfl,rfl⟩ rfl inferInstance rfl rfl rfl HYt rfl|exact ax ⟨rfl,rfl,rfl⟩ rfl inferInstance inferInstance rfl rfl rfl HY rfl rfl rfl|exact ax ⟨rfl,rfl,rfl⟩ rfl inferInstance inferInstance rfl rfl rfl HQ rfl rfl rfl))|((apply aZ 6;(focus rfl);first|exact aM ⟨rfl,rfl⟩ rfl inferInstance rfl rfl rfl rfl HY rfl (aY rfl rfl rfl) rfl HS1|exact aM ⟨rfl,rfl⟩ rfl inferInstance rfl rfl rfl rfl HY2 rfl (aY rfl rfl rfl) rfl HS2))));refine bg hcm hen ?_))
     ·rw[V6 ab]at hG
      refine⟨(k+1,_),⟨aA,hG.symm⟩,aA,?_⟩
      exact ae
     ·rw[V3 ab]at hG
      refine⟨(k+1,L),⟨aA,hG.symm⟩,aA,?_⟩
      exact ae
    | false=>
     rw[hyo]at hG
     have HYt:(L.map rgP)[((L.length:Int)-1).toNat]?=some [ak (.string y.lo),ak (.string y.hi),ak (.bool false)]:=by rw[HY];simp only[rgP,hyo]
     by_cases hC0:C<0
     ·rw[V6 ⟨rfl,hC0⟩]at hG
      (refine bg hcm hen ?_;repeat' first|apply ah|refine ai fun hc=>?_|((first|apply aB rfl|apply aC rfl|apply aD rfl|apply aF rfl);(focus ((try (apply bI;(focus rfl);apply ag rfl rfl rfl rfl rfl));first|((apply aZ 5;(focus rfl);first|exact bR ⟨rfl,rfl,rfl⟩ rfl inferInstance rfl rfl rfl HYt rfl|exact ax ⟨rfl,rfl,rfl⟩ rfl inferInstance inferInstance rfl rfl rfl HY rfl rfl rfl|exact ax ⟨rfl,rfl,rfl⟩ rfl inferInstance inferInstance rfl rfl rfl HQ rfl rfl rfl))|((apply aZ 6;(focus rfl);first|exact aM ⟨rfl,rfl⟩ rfl inferInstance rfl rfl rfl rfl HY rfl (aY rfl rfl rfl) rfl HS1|exact aM ⟨rfl,rfl⟩ rfl inferInstance rfl rfl rfl rfl HY2 rfl (aY rfl rfl rfl) rfl HS2))));refine bg hcm hen ?_))
      refine⟨(k+1,L++[x]),⟨aA,hG.symm⟩,aA,av (aN 700 701) (av (aN 701 700) ?_)⟩
      exact ae
     ·rw[V3 (fun h=>hC0 h.2)]at hG
      (refine bg hcm hen ?_;repeat' first|apply ah|refine ai fun hc=>?_|((first|apply aB rfl|apply aC rfl|apply aD rfl|apply aF rfl);(focus ((try (apply bI;(focus rfl);apply ag rfl rfl rfl rfl rfl));first|((apply aZ 5;(focus rfl);first|exact bR ⟨rfl,rfl,rfl⟩ rfl inferInstance rfl rfl rfl HYt rfl|exact ax ⟨rfl,rfl,rfl⟩ rfl inferInstance inferInstance rfl rfl rfl HY rfl rfl rfl|exact ax ⟨rfl,rfl,rfl⟩ rfl inferInstance inferInstance rfl rfl rfl HQ rfl rfl rfl))|((apply aZ 6;(focus rfl);first|exact aM ⟨rfl,rfl⟩ rfl inferInstance rfl rfl rfl rfl HY rfl (aY rfl rfl rfl) rfl HS1|exact aM ⟨rfl,rfl⟩ rfl inferInstance rfl rfl rfl rfl HY2 rfl (aY rfl rfl rfl) rfl HS2))));refine bg hcm hen ?_))
      ·rw[V6 ab]at hG
       refine⟨(k+1,_),⟨aA,hG.symm⟩,aA,?_⟩
       exact ae
      ·rw[V3 ab]at hG
       refine⟨(k+1,L),⟨aA,hG.symm⟩,aA,?_⟩
       exact ae
  ·have hkl:k=Q.length:=ab
   subst hkl
   have g3:out=R:=by rw[g2,WX];exact hR
   (refine w0 ?_;repeat' first|apply ah|refine ai fun hc=>?_)
   refine dw ?_
   exact cJ rfl rfl rfl (by rw[g3])
theorem E7 (l:List Rg)(hl:(l.filter fX).length≤12)(hn:l.length≤1000000000):Fn prog 153 [ec l] (CJ (qI l)):=by
 have hTr:∀x∈l.filter fX,fX x=true:=fun x hx=>(WZ.1 hx).2
 exact GR l (dI ltR (l.filter fX)) (Nu _ (fun x hx=>by have:=((b0 x).1 (hTr x hx)).1;show x.lo.size≤_;omega) hl) (jY _) (fun x hx=>hTr x ((lX rS).1 hx))
  (((dD rS _).1).imp fun {x y} h=>by simp only[ltR,Wt,i7]at h;grind) hn
theorem I7 (l:List Rg)(hl:l.length≤12):∃m,cb m∧m.length≤l.length∧(∀s,cQ m s=cQ l s)∧Fn prog 160 [.per (fW l)] (.per (fW m)):=by
 by_cases hok:cb l
 ·refine⟨l,hok,V8 _,fun _=>rfl,?_⟩
  have h1:=jv l ab true (by simp[hok])
  refine fi func160 ntmps160 ?_
  (refine aq h1 ?_;repeat' first|apply ah|refine ai fun hc=>?_)
  exact OZ
 ·obtain⟨a1,a2⟩:=rT l
  have a3:=vq l
  refine⟨qI l,a1,a3,a2,?_⟩
  have h1:=jv l ab false (by simp[hok])
  have h2:=(E7 l (by have:=WT fX l;omega) ab).frz
  refine fi func160 ntmps160 ?_
  (refine bg h1 h2 ?_;repeat' first|apply ah|refine ai fun hc=>?_)
  exact OZ
theorem CL (l:List Rg)(s:ByteArray)(hs:s.size≤1000000000)(hl:l.length≤1000000000)(p:Nat)(hp:p≤l.length)(hlt:∀j (hj:j<l.length),((l[j].op=true∨s<l[j].hi)↔p≤j)) :
 Fn prog 161 [.per (fW l),sC s] (el (p:Nat)):=by
 refine fi func161 ntmps161 ?_
 (refine w0 ?_)
 refine aj (X:=Nat×Nat) (fun z=>z.1≤p∧p≤z.2∧z.2≤l.length)
  (fun z=>ay [(0,.per (fW l)),(1,sC s),(5,iC .i64 (z.1:Nat)),(6,iC .i64 (z.2:Nat))] []) (fun z=>z.2-z.1) (0,l.length) ⟨Wa _,hp,V8 _⟩ ?_
 rintro⟨i,j⟩ ⟨h1,h2,h3⟩
 simp only at h1 h2 h3 ⊢
 by_cases hij:i<j
 ·obtain⟨h,hh'⟩:∃h:Nat,(i:Int)+((j:Int)-(i:Int)) / 2=(h:Nat):=⟨i+(j-i) / 2,ab⟩
  have hih:i≤h:=ab
  have hhj:h<j:=ab
  have hlt':=hlt h ab
  have hmm:=ii s l[h].hi ab
  clear hlt
  cases ho:l[h].op with
  | true=>
   rw[ho]at hlt'
   have:=hlt'.1 (.inl rfl)
   clear hlt'
   (refine cF hh' hmm ?_;repeat' first|apply ah|refine ai fun hc=>?_)
   all_goals first|(exfalso;simp_all;done)|skip
   refine⟨(i,h),⟨h1,aA,aA⟩,aA,?_⟩
   exact ae
  | false=>
   rw[ho]at hlt'
   have hq:cP s l[h].hi<0↔p≤h:=by rw[←hlt',i7];simp
   clear hlt'
   (refine cF hh' hmm ?_;repeat' first|apply ah|refine ai fun hc=>?_)
   all_goals first|(exfalso;simp_all;done)|skip
   ·refine⟨(i,h),⟨h1,aA,aA⟩,aA,?_⟩
    exact ae
   ·refine⟨(h+1,j),⟨aA,h2,h3⟩,aA,?_⟩
    exact ae
 ·obtain rfl:i=p:=ab
  (refine w0 ?_;repeat' first|apply ah|refine ai fun hc=>?_)
  exact wo
theorem GU (l:List Rg)(s:ByteArray)(hl:l.length≤12)(hs:s.size≤1000000000):Fn prog 87 [.per (fW l),sC s] (dq (cQ l s)):=by
 obtain⟨m,hok,hml,hany,h1⟩:=I7 l hl
 obtain⟨p,hp,hlt⟩:=GB hok s
 have h2:=CL m s hs ab p hp hlt
 have hA:=MT hok hlt
 rw[hany]at hA
 rw[hA]
 clear hA hany hlt hok
 by_cases hn:p<m.length
 ·have h3:=qM m[p] s hs
  rw[V4 hn]
  simp only
  refine fi func87 ntmps87 ?_
  (refine fO h1 h2 h3 ?_;repeat' first|apply ah|refine ai fun hc=>?_)
  exact dp
 ·rw[Wq ab]
  simp only
  refine fi func87 ntmps87 ?_
  (refine bg h1 h2 ?_;repeat' first|apply ah|refine ai fun hc=>?_)
  exact dp
theorem QN:∀(l:List Int)(n:Int)(k:Nat),k≤l.length→(∀j (h:j<l.length),j<k→l[j]<n)→(∀h:k<l.length,¬l[k]<n) →
 ((∃h:k<l.length,l[k]=n)→jg l n=l)∧((¬∃h:k<l.length,l[k]=n)→jg l n=l.take k++n::l.drop k):=by
 intro l
 induction l with
 | nil=>
  intro n k hk _ _
  obtain rfl:k=0:=by simpa using hk
  exact⟨fun⟨h,_⟩=>by simp at h,fun _=>rfl⟩
 | cons x l ih=>
  intro n k hk h1 h2
  cases k with
  | zero=>
   have:=h2 au
   simp only[Xf]at this
   rw[jg,V3 this]
   refine⟨fun⟨_,e⟩=>?_,fun e=>?_⟩
   ·simp only[Xf]at e
    rw[V6 e]
   ·rw[V3 (fun q=>e ⟨au,by simpa using q⟩)]
    rfl
  | succ k=>
   have h3:=h1 0 au ab
   simp only[Xf]at h3
   have:=ih n k (by simpa using hk) (fun j hj hjk=>by have:=h1 (j+1) (by simpa using hj) ab;simpa using this) (fun h=>by have:=h2 (by simpa using h);simpa using this)
   rw[jg,V6 h3]
   refine⟨fun⟨h,e⟩=>?_,fun e=>?_⟩
   ·rw[this.1 ⟨by simpa using h,by simpa using e⟩]
   ·rw[this.2 (fun⟨h,q⟩=>e ⟨by simpa using h,by simpa using q⟩)]
    rfl
section
variable {P:Program} {n:Nat} {S:St}
theorem tM {t:Nat}{es es':List (List PV)}(h:S.get t=.per (cA k es))(e:es=es'):cC P n S (.tmp t) (.per (cA k es')):=dA (e▸h)
end
abbrev VV (n:Int):List PV:=[ak (.int .i64 n)]
abbrev Nv (l:List Int):PV:=cA 1 (l.map VV)
abbrev CM (l:List Int):Cnt:=.per (Nv l)
theorem qS (l:List Int)(n:Int)(hl:l.length≤1000000000):Fn prog 278 [CM l,iC .i64 n] (.per (Nv (jg l n))):=by
 generalize hR:jg l n=R
 refine fi func278 ntmps278 ?_
 (refine w0 ?_)
 refine aj (X:=Nat) (fun k=>k≤l.length∧∀j (h:j<l.length),j<k→l[j]<n)
  (fun k=>ay [(0,CM l),(1,iC .i64 n),(5,iC .i64 ((k:Nat):Int))] []) (fun k=>l.length-k) 0 ⟨Wa _,fun j _ h=>ab⟩ ?_
 rintro k ⟨h1,h2⟩
 by_cases hgo:∃h:k<l.length,l[k]<n
 ·obtain⟨hk,hlt⟩:=hgo
  have h2':∀j (h:j<l.length),j<k+1→l[j]<n:=fun j h hj=>by
   rcases Wm j k with q|q
   ·exact h2 j h q
   ·obtain rfl:j=k:=ab
    exact hlt
  clear hR h2
  (refine w0 ?_;repeat' first|apply ah|refine ai fun hc=>?_)
  refine⟨k+1,⟨hk,h2'⟩,ab,?_⟩
  exact ae
 ·have hP:=QN l n k h1 h2 (fun h q=>hgo ⟨h,q⟩)
  clear h2
  by_cases hk:k<l.length
  ·have hge:¬l[k]<n:=fun q=>hgo ⟨hk,q⟩
   by_cases he:l[k]=n
   ·have hR':l=R:=by rw[←hR,hP.1 ⟨hk,he⟩]
    clear hR hP hgo
    (refine w0 ?_;repeat' first|apply ah|refine ai fun hc=>?_)
    refine dw ?_
    exact k9 rfl hR'
   ·have hR':l.take k++n::l.drop k=R:=by rw[←hR,hP.2 (fun⟨_,q⟩=>he q)]
    clear hR hP hgo
    (refine w0 ?_;repeat' first|apply ah|refine ai fun hc=>?_)
    refine aR (bU 34 700 3 1 rfl rfl) ?_
    (refine w0 ?_)
    refine⟨.inl rfl,mH (jj 700 _ 3 1 rfl rfl) (KC rfl (tM rfl (by rw[←hR'];simp;rfl)))⟩
  ·have hR':l.take k++n::l.drop k=R:=by rw[←hR,hP.2 (fun⟨q,_⟩=>hk q)]
   clear hR hP hgo
   (refine w0 ?_;repeat' first|apply ah|refine ai fun hc=>?_)
   refine aR (bU 34 700 3 1 rfl rfl) ?_
   (refine w0 ?_)
   refine⟨.inl rfl,mH (jj 700 _ 3 1 rfl rfl) (KC rfl (tM rfl (by rw[←hR'];simp;rfl)))⟩
theorem CN:∀(l:List Int)(n:Int),(jg l n).length≤l.length+1:=by
 intro l
 induction l with
 | nil=>intro n;simp[jg]
 | cons x l ih=>
  intro n
  rw[jg]
  split
  ·have:=ih n;simp;omega
  ·split<;>simp
theorem yj (e:List Int)(l:List Rn)(k:Nat)(h:k<l.length):f0 e (l.take (k+1))=qB (f0 e (l.take k)) l[k]:=by
 unfold f0
 rw[List.take_succ_eq_append_getElem h,List.foldl_append]
 rfl
theorem pt (e:List Int)(l:List Rn)(k:Nat):(f0 e (l.take k)).length≤e.length+2*l.length:=by
 have h:=qC (l.take k) e
 rw[WA]at h
 omega
theorem E8 (a b:List Rn)(ha:a.length≤100000000)(hb:b.length≤100000000):Fn prog 252 [gQ a,gQ b] (.per (Nv (f0 (f0 [] a) b))):=by
 have lA:=qC a []
 simp only[List.length_nil,WF]at lA
 generalize hR:f0 (f0 [] a) b=R
 refine fi func252 ntmps252 ?_
 (refine w0 ?_)
 refine bQ (bU 5 700 3 1 rfl rfl) (bQ (jj 700 _ 3 1 rfl rfl) ?_)
 refine aj (X:=Nat) (fun k=>k≤a.length)
  (fun k=>ay [(0,gQ a),(1,gQ b),(5,CM (f0 [] (a.take k))),(6,iC .i64 ((k:Nat):Int))] []) (fun k=>a.length-k) 0 (Wa _) ?_
 intro k hk
 by_cases hlt:k<a.length
 ·have hs:=yj [] a k hlt
  have hlen:=pt [] a k
  simp only[List.length_nil,WF]at hlen
  have c0:=qt a[k]
  generalize f0 [] (a.take k)=E at *
  clear hR
  cases hr:jk a[k]with
  | true=>
   have hi:=(cD _).1 hr
   rw[hr]at c0
   have c1:=qS E a[k].fr ab
   have hp:=CN E a[k].fr
   have c2:=qS (jg E a[k].fr) (a[k].to+1) ab
   rw[qB,V6 hr]at hs
   generalize jg E a[k].fr=E1 at *
   generalize jg E1 (a[k].to+1)=E2 at *
   (refine kG c0 c1 c2 ?_;repeat' first|apply ah|refine ai fun hc=>?_)
   refine⟨k+1,hlt,ab,?_⟩
   rw[hs]
   exact ae
  | false=>
   rw[hr]at c0
   rw[qB,V3 (by simp[hr])]at hs
   (refine aq c0 ?_;repeat' first|apply ah|refine ai fun hc=>?_)
   refine⟨k+1,hlt,ab,?_⟩
   rw[hs]
   exact ae
 ·rw[Wd (show a.length≤k by omega)]
  generalize f0 [] a=E0 at *
  (refine w0 ?_;repeat' first|apply ah|refine ai fun hc=>?_)
  refine aj (X:=Nat) (fun k=>k≤b.length)
   (fun k=>ay [(1,gQ b),(5,CM (f0 E0 (b.take k))),(7,iC .i64 ((k:Nat):Int))] []) (fun k=>b.length-k) 0 (Wa _) ?_
  clear hlt hk
  intro k hk
  by_cases hlt:k<b.length
  ·have hs:=yj E0 b k hlt
   have hlen:=pt E0 b k
   have c0:=qt b[k]
   generalize f0 E0 (b.take k)=E at *
   clear hR
   cases hr:jk b[k]with
   | true=>
    have hi:=(cD _).1 hr
    rw[hr]at c0
    have c1:=qS E b[k].fr ab
    have hp:=CN E b[k].fr
    have c2:=qS (jg E b[k].fr) (b[k].to+1) ab
    rw[qB,V6 hr]at hs
    generalize jg E b[k].fr=E1 at *
    generalize jg E1 (b[k].to+1)=E2 at *
    (refine kG c0 c1 c2 ?_;repeat' first|apply ah|refine ai fun hc=>?_)
    refine⟨k+1,hlt,ab,?_⟩
    rw[hs]
    exact ae
   | false=>
    rw[hr]at c0
    rw[qB,V3 (by simp[hr])]at hs
    (refine aq c0 ?_;repeat' first|apply ah|refine ai fun hc=>?_)
    refine⟨k+1,hlt,ab,?_⟩
    rw[hs]
    exact ae
  ·rw[Wd (show b.length≤k by omega),hR]
   (refine w0 ?_;repeat' first|apply ah|refine ai fun hc=>?_)
   exact dw (k9 rfl rfl)
theorem vH (l:List Rn)(n:Int)(hl:l.length≤1000000000):Fn prog 143 [gQ l,iC .i64 n] (dq (dR l n)):=by
 generalize hT:dR l n=T
 refine fi func143 ntmps143 ?_
 (refine w0 ?_)
 refine aj (X:=Nat) (fun i=>i≤l.length∧dR (l.drop i) n=T)
  (fun i=>ay [(0,gQ l),(1,iC .i64 n),(5,iC .i64 ((i:Nat):Int))] []) (fun i=>l.length-i) 0 ⟨Wa _,by simpa using hT⟩ ?_
 rintro i ⟨h1,h2⟩
 clear hT
 by_cases hlt:i<l.length
 ·rw[List.drop_eq_getElem_cons hlt,dR,List.any_cons,←dR]at h2
  have c0:=qt l[i]
  cases hr:jk l[i]with
  | true=>
   rw[hr]at c0
   rw[hr,WP]at h2
   by_cases c1:l[i].fr≤n
   ·by_cases c2:n≤l[i].to
    ·rw[Wb c1,Wb c2,WP,Bool.true_or]at h2
     subst h2
     (refine aq c0 ?_;repeat' first|apply ah|refine ai fun hc=>?_)
     exact dp
    ·rw[Wb c1,Wj c2,WP,Xo]at h2
     (refine aq c0 ?_;repeat' first|apply ah|refine ai fun hc=>?_)
     refine⟨i+1,⟨hlt,h2⟩,ab,?_⟩
     exact ae
   ·rw[Wj c1,WV,Xo]at h2
    (refine aq c0 ?_;repeat' first|apply ah|refine ai fun hc=>?_)
    refine⟨i+1,⟨hlt,h2⟩,ab,?_⟩
    exact ae
  | false=>
   rw[hr]at c0
   rw[hr,WV,Xo]at h2
   (refine aq c0 ?_;repeat' first|apply ah|refine ai fun hc=>?_)
   refine⟨i+1,⟨hlt,h2⟩,ab,?_⟩
   exact ae
 ·have h2':false=T:=by
   rw[Wv ab]at h2
   exact h2
  subst h2'
  clear h2
  (refine w0 ?_;repeat' first|apply ah|refine ai fun hc=>?_)
  exact dp
end Go.Proofs.YtaclhhkblbacgaaGreat
