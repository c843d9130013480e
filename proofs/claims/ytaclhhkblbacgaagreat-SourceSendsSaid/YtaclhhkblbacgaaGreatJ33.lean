/- Texts joined: Od Batch Split. -/
import Derived.Test.YtaclhhkblbacgaaGreatJ29
set_option maxRecDepth 10000
set_option maxHeartbeats 8000000
namespace Go.Proofs.YtaclhhkblbacgaaGreat
open Go.RowKit Go.Proofs.Tryz
abbrev Snt:=It×Int
abbrev sntP (x:Snt):List PV:=itP x.1++[ak (.int .i64 x.2)]
abbrev Ut (x:Snt):Cnt:=.per (cB (sntP x))
def sL (x y:Snt):Int:=if x.1.prio>y.1.prio then -1 else if x.1.prio<y.1.prio then 1 else if x.2≠y.2 then x.2-y.2 else cP x.1.key y.1.key
def cL (x y:Snt):Bool:=decide (sL x y<0)
def pu (x:Snt):Prop:=x.1.key.size≤1000000000∧0≤x.2∧x.2≤3
theorem vS (x y:Snt):cL x y=true↔(y.1.prio<x.1.prio∨(x.1.prio=y.1.prio∧(x.2<y.2∨(x.2=y.2∧x.1.key<y.1.key)))):=by
 unfold cL sL
 rw[XD,←i7]
 split
 ·constructor
  ·intro _;left;omega
  ·intro _;omega
 ·split
  ·constructor
   ·intro h;omega
   ·rintro(h|⟨h,_⟩)<;>omega
  ·split
   ·constructor
    ·intro h;right;exact⟨ab,.inl ab⟩
    ·rintro(h|⟨_,h|⟨h,_⟩⟩)<;>omega
   ·rename_i h3
    have h3:=Decidable.of_not_not h3
    constructor
    ·intro h;right;exact⟨ab,.inr ⟨h3,h⟩⟩
    ·rintro(h|⟨_,h|⟨_,h⟩⟩)
     ·omega
     ·omega
     ·exact h
theorem ef:sX cL where
 irr x:=by
  rw[←Wy,vS]
  rintro(h|⟨_,h|⟨_,h⟩⟩)
  ·omega
  ·omega
  ·grind
 tr x y z h1 h2:=by
  rw[vS]at *
  rcases h1 with h1|⟨h1,h1'|⟨h1',h1''⟩⟩<;>rcases h2 with h2|⟨h2,h2'|⟨h2',h2''⟩⟩
  all_goals first
   | (left;omega)
   | (right;refine⟨ab,.inl ab⟩)
   | (right;refine⟨ab,.inr ⟨ab,by grind⟩⟩)
 ntr x y z h1 h2:=by
  rw[←Wy,vS]at *
  rintro(h|⟨h,h'|⟨h',h''⟩⟩)
  ·apply h1
   by_cases q:y.1.prio<x.1.prio
   ·exact .inl q
   ·exfalso;exact h2 (.inl ab)
  ·by_cases q:y.1.prio=x.1.prio
   ·by_cases q2:x.2<y.2
    ·exact h1 (.inr ⟨ab,.inl q2⟩)
    ·exact h2 (.inr ⟨ab,.inl ab⟩)
   ·rcases Int.lt_or_gt_of_ne q with g|g
    ·exact h1 (.inl g)
    ·exact h2 (.inl ab)
  ·by_cases q:y.1.prio=x.1.prio
   ·by_cases q2:x.2=y.2
    ·by_cases q3:x.1.key<y.1.key
     ·exact h1 (.inr ⟨ab,.inr ⟨q2,q3⟩⟩)
     ·exact h2 (.inr ⟨ab,.inr ⟨ab,by grind⟩⟩)
    ·rcases Int.lt_or_gt_of_ne q2 with g|g
     ·exact h1 (.inr ⟨ab,.inl g⟩)
     ·exact h2 (.inr ⟨ab,.inl ab⟩)
   ·rcases Int.lt_or_gt_of_ne q with g|g
    ·exact h1 (.inl g)
    ·exact h2 (.inl ab)
theorem qY (x y:Snt)(hx:pu x)(hy:pu y):dh prog 337 [Ut x,Ut y] [] (.per (ak (.int .i64 (sL x y)))) []:=by
 obtain⟨⟨xk,xr,xc,xa,xp,xd,xb⟩,xs⟩:=x
 obtain⟨⟨yk,yr,yc,ya,yp,yd,yb⟩,ys⟩:=y
 obtain⟨hk,hx0,hx3⟩:=hx
 obtain⟨-,hy0,hy3⟩:=hy
 simp only at hk hx0 hx3 hy0 hy3
 have h1:=ii xk yk ab
 have hE:sL (⟨xk,xr,xc,xa,xp,xd,xb⟩,xs) (⟨yk,yr,yc,ya,yp,yd,yb⟩,ys)=(if xp>yp then -1 else if xp<yp then 1 else if xs≠ys then xs-ys else cP xk yk):=rfl
 rw[hE]
 show dh prog _ [.per (cB [ak (.string xk),ak (.int .i64 xr),ak (.int .i64 xc),ak (.int .i64 xa),ak (.int .i64 xp),ak (.bool xd),ak (.string xb),ak (.int .i64 xs)]),.per (cB [ak (.string yk),ak (.int .i64 yr),ak (.int .i64 yc),ak (.int .i64 ya),ak (.int .i64 yp),ak (.bool yd),ak (.string yb),ak (.int .i64 ys)])] [] _ []
 refine dH func337 ntmps337 ?_
 (refine aq h1 ?_;repeat' first|apply ah|refine ai fun hc=>?_)
 ·rw[V6 (by assumption)]
  (refine⟨(by first|exact .inl rfl|exact .inr rfl),gq [] rfl rfl .nil ?_⟩)
  exact bm rfl rfl
 ·rw[V3 (by assumption),V6 (by assumption)]
  (refine⟨(by first|exact .inl rfl|exact .inr rfl),gq [] rfl rfl .nil ?_⟩)
  exact bm rfl rfl
 ·rw[V3 (by assumption),V3 (by assumption),V6 (by assumption)]
  (refine⟨(by first|exact .inl rfl|exact .inr rfl),gq [] rfl rfl .nil ?_⟩)
  exact bm rfl rfl
 ·rw[V3 (by assumption),V3 (by assumption),V3 ab]
  (refine⟨(by first|exact .inl rfl|exact .inr rfl),gq [] rfl rfl .nil ?_⟩)
  exact bm rfl rfl
abbrev jp:Cnt:=.per (ak (.func (.func 337) #[] #[]))
abbrev em (l:List Snt):Blk:=.row 389 8 (l.map sntP)
def mh (l:List Snt):Prop:=∀x∈l,pu x
theorem yu (A M Z:List Snt)(hk:mh M)(hl:(A++M++Z).length≤1000000000):dh prog 359 [.row 1000 0,iC .i64 (A.length:Nat),iC .i64 ((A.length+M.length:Nat):Int),jp] [(1000,em (A++M++Z))] .any [(1000,em (A++dI cL M++Z))]:=by
 generalize hR:A++dI cL M++Z=R
 generalize hb:A.length+M.length=b
 simp only[V5]at hl
 refine dH func359 ntmps359 ?_
 (refine w0 ?_)
 refine bZ (X:=Nat×List Snt×List Snt) (fun x=>A.length<x.1∧x.1≤b+1∧A.length+x.2.1.length=min x.1 b∧A.length+x.2.1.length+x.2.2.length=b∧mh x.2.1∧mh x.2.2∧A++x.2.2.foldl (i8 cL) x.2.1++Z=R)
  (fun x=>ay [(0,.row 1000 0),(1,iC .i64 (A.length:Nat)),(2,iC .i64 (b:Nat)),(3,jp),(8,iC .i64 (x.1:Nat))] [(1000,em (A++x.2.1++(x.2.2++Z)))]) (fun x=>b+1-x.1) (A.length+1,M.take 1,M.drop 1) ?_ ?_ ?_
 ·refine⟨aA,aA,by simp only[WA];omega,by simp only[WA,Xb];omega,fun x h=>hk x (Xt h),fun x h=>hk x (List.mem_of_mem_drop h),?_⟩
  rw[←hR]
  cases M with
  | nil=>rfl
  | cons x M=>rfl
 ·have e:A++M.take 1++(M.drop 1++Z)=A++M++Z:=by
   rw[V9,←V9 (M.take 1),WL,V9]
  rw[e]
  exact ae
 ·rintro⟨i,p,q⟩ ⟨h1,h2,h3,h4,hkp,hkq,h5⟩
  simp only at h1 h2 h3 h4 hkp hkq h5 ⊢
  by_cases hlt:i<b
  ·obtain⟨x,q,rfl⟩:∃x q',q=x::q':=by
    cases q with
    | nil=>simp at h4;omega
    | cons x q=>exact⟨x,q,rfl⟩
   have hip:A.length+p.length=i:=ab
   clear h3
   have hkx:=hkq x au
   simp only[Wh,List.foldl_cons]at h4 h5
   (repeat' (first|refine ck ?_|refine bi ?_|refine bA ?_|refine bB ?_|refine cn ?_|refine aU ?_|refine ci ?_|refine cj (by kernel_rfl) ?_|(refine dL rfl rfl ⟨fun hc=>?_,fun hc=>?_⟩<;>(repeat rw[V7]at hc)<;>(try exact ce hc))|((first|apply aB rfl|apply aC rfl|apply aD rfl|apply aF rfl);focus (first|exact cz|fail))|refine bD ?_|refine bF ?_|refine bG ?_|refine de ?_|refine dg ?_|refine bH ?_|refine bj rfl ?_|((first|refine dM rfl rfl rfl ⟨fun hc=>?_,fun hc=>?_⟩|refine dN rfl rfl rfl ⟨fun hc=>?_,fun hc=>?_⟩)<;>(fail_if_success (have q:(true=true):=hc))<;>(fail_if_success (have q:(false=false):=hc))<;>(repeat rw[V7]at hc)<;>(try exact ce hc))|refine aH rfl rfl (fun hc=>?_) ?_))
   refine bZ (X:=List Snt×List Snt) (fun y=>y.1.length+y.2.length=p.length∧mh y.1∧mh y.2∧kq cL x y.1.reverse y.2=i8 cL p x)
    (fun y=>ay [(0,.row 1000 0),(1,iC .i64 (A.length:Nat)),(2,iC .i64 (b:Nat)),(3,jp),(8,iC .i64 (i:Nat)),(9,iC .i64 ((A.length+y.1.length:Nat):Int))] [(1000,em (A++y.1++x::(y.2++(q++Z))))]) (fun y=>y.1.length) (p,[]) ⟨au,hkp,fun x h=>by simp at h,rfl⟩ ?_ ?_
   ·subst hip
    exact ae
   ·rintro⟨p1,p2⟩ ⟨g1,gk1,gk2,g2⟩
    simp only at g1 gk1 gk2 g2 ⊢
    have out:i8 cL p x=p1++x::p2→(∃z:Nat×List Snt×List Snt,(A.length<z.1∧z.1≤b+1∧A.length+z.2.1.length=min z.1 b∧A.length+z.2.1.length+z.2.2.length=b∧mh z.2.1∧mh z.2.2∧A++z.2.2.foldl (i8 cL) z.2.1++Z=R)∧z=(i+1,p1++x::p2,q)):=fun e=>by
     refine⟨_,⟨aA,aA,bn,bn,fun y hy=>?_,fun y hy=>hkq y (by simp[hy]),by rw[←e];exact h5⟩,rfl⟩
     rcases Wz.1 hy with h|h
     ·exact gk1 y h
     ·rcases Wp.1 h with h|h
      ·subst h;exact hkx
      ·exact gk2 y h
    have hL0:A++p1++x::(p2++(q++Z))=A++(p1++x::p2)++(q++Z):=au
    rcases fm p1 with rfl|⟨p1',y,rfl⟩
    ·have e:i8 cL p x=[]++x::p2:=by rw[←g2];rfl
     obtain⟨z,hz,rfl⟩:=out e
     rw[hL0]
     (refine w0 ?_;repeat' first|apply ah|refine ai fun hc=>?_)
     refine⟨_,hz,aA,?_⟩
     exact ae
    ·obtain⟨j,hj⟩:∃j,A.length+p1'.length=j:=⟨_,rfl⟩
     have hj1:A.length+(p1'++[y]).length=j+1:=bn
     have hky:=gk1 y au
     have hm:=qY x y hkx hky
     generalize hL:A++(p1'++[y])++x::(p2++(q++Z))=L at *
     have hlen:j+1<L.length:=by rw[←hL];simp;omega
     have HJ:(L.map sntP)[j+1]?=some (sntP x):=by
      rw[List.getElem?_map,←hL,List.getElem?_append_right bn,V5,hj1,XB];rfl
     have HJ1:(L.map sntP)[j]?=some (sntP y):=by
      rw[List.getElem?_map,←hL,V9,V9,List.getElem?_append_right ab,List.getElem?_append_right ab]
      rw[show j-A.length-p1'.length=0 by omega];rfl
     rw[hj1]
     have hrev:(p1'++[y]).reverse=y::p1'.reverse:=au
     rw[hrev,kq]at g2
     have HS1:(L.map sntP).set (j+1) (cH (sntP x) 0 (sntP y))=(L.set (j+1) y).map sntP:=by rw[←cg];rfl
     have HJ2:((L.set (j+1) y).map sntP)[j]?=some (sntP y):=by
      rw[←cg,List.getElem?_set_ne ab];exact HJ1
     have HS2:((L.set (j+1) y).map sntP).set j (cH (sntP y) 0 (sntP x))=(A++p1'++x::((y::p2)++(q++Z))).map sntP:=by
      rw[cg sntP (L.set (j+1) y) j x |>.symm.trans rfl |> fun h=>(show((L.set (j+1) y).map sntP).set j (cH (sntP y) 0 (sntP x))=((L.set (j+1) y).set j x).map sntP from cg sntP _ j x)]
      rw[←hL,fk (A++(p1'++[y])) x y _ (j+1) bn,show A++(p1'++[y])++y::(p2++(q++Z))=(A++p1')++y::(y::(p2++(q++Z)))by simp,fk (A++p1') y x _ j bn]
      simp
     by_cases hxy:sL x y<0
     ·rw[V6 (show cL x y=true from Wb hxy)]at g2
      clear out
      (refine w0 ?_;repeat' first|apply ah|refine ai fun hc=>?_|((first|apply aB rfl|apply aC rfl|apply aD rfl|apply aF rfl);(focus ((try (apply bI;(focus rfl);apply ag rfl rfl rfl rfl rfl));first|((apply aZ 5;(focus rfl);first|exact ax ⟨rfl,rfl,rfl⟩ rfl inferInstance inferInstance rfl rfl rfl HJ rfl rfl rfl|exact ax ⟨rfl,rfl,rfl⟩ rfl inferInstance inferInstance rfl rfl rfl HJ1 rfl rfl rfl))|((apply aZ 6;(focus rfl);first|exact aM ⟨rfl,rfl⟩ rfl inferInstance rfl rfl rfl rfl HJ rfl (.inl rfl) rfl HS1|exact aM ⟨rfl,rfl⟩ rfl inferInstance rfl rfl rfl rfl HJ2 rfl (.inl rfl) rfl HS2))|(exact GK [] hm)));refine w0 ?_))
      refine⟨(p1',y::p2),⟨by simp at g1 ⊢;omega,fun z h=>gk1 z (by simp[h]),fun z h=>?_,g2⟩,au,?_⟩
      ·rcases Wp.1 h with h|h
       ·subst h;exact hky
       ·exact gk2 z h
      ·simp only[hj]
       exact ae
     ·rw[V3 (show ¬cL x y=true by unfold cL;rw[XD];exact hxy)]at g2
      have e:i8 cL p x=(p1'++[y])++x::p2:=by rw[←g2];simp
      obtain⟨z,hz,rfl⟩:=out e
      (refine w0 ?_;repeat' first|apply ah|refine ai fun hc=>?_|((first|apply aB rfl|apply aC rfl|apply aD rfl|apply aF rfl);(focus ((try (apply bI;(focus rfl);apply ag rfl rfl rfl rfl rfl));first|((apply aZ 5;(focus rfl);first|exact ax ⟨rfl,rfl,rfl⟩ rfl inferInstance inferInstance rfl rfl rfl HJ rfl rfl rfl|exact ax ⟨rfl,rfl,rfl⟩ rfl inferInstance inferInstance rfl rfl rfl HJ1 rfl rfl rfl))|(exact GK [] hm)));refine w0 ?_))
      refine⟨_,hz,aA,?_⟩
      simp only
      rw[←hL0]
      exact ae
  ·have hq:q=[]:=Wf ab
   subst hq
   simp only[List.foldl_nil]at h5
   (refine w0 ?_;repeat' first|apply ah|refine ai fun hc=>?_)
   rw[Wu,h5]
   exact j3
def iK (R:List Rg)(hs:Int→Int→Bool)(x:It):Int:=(if cQ R x.key then 0 else 2)+(if hs x.rep x.cnt then 1 else 0)
theorem Jh (R:List Rg)(hs:Int→Int→Bool)(x:It):0≤iK R hs x∧iK R hs x≤3:=by
 unfold iK;split<;>split<;>omega
def rk (R:List Rg)(hs:Int→Int→Bool)(x:It):Snt:=(x,iK R hs x)
def gw (R:List Rg)(hs:Int→Int→Bool)(l:List It):List It:=(dI cL (l.map (rk R hs))).map Prod.fst
theorem S6 {R:List Rg}{hs:Int→Int→Bool}{l:List It}(hk:ng l):mh (l.map (rk R hs)):=fun x hx=>by
 obtain⟨y,hy,rfl⟩:=List.mem_map.1 hx
 have:=Jh R hs y
 exact⟨hk y hy,this.1,this.2⟩
theorem NV (R R':List Rg)(hR:R'.length≤12)(hA:∀s,cQ R' s=cQ R s)(th:PV)(hs:Int→Int→Bool)(x:It)(hk:x.key.size≤1000000000)
 (hH:Fn prog 351 [.per th,sD x.rep x.cnt] (dq (hs x.rep x.cnt))):Fn prog 335 [.per (fW R'),.per th,uz x] (el (iK R hs x)):=by
 have h1:=GU R' x.key hR hk
 rw[hA]at h1
 unfold iK
 generalize cQ R x.key=a at *
 generalize hs x.rep x.cnt=c at *
 cases a<;>cases c
 all_goals
  refine fi func335 ntmps335 ?_
  (refine bg h1 hH ?_;repeat' first|apply ah|refine ai fun hc=>?_)
  refine dw ?_
  exact al rfl au
theorem NW (R:List Rg)(hR:R.length≤12)(th:PV)(hs:Int→Int→Bool)(hH:∀r c,Fn prog 351 [.per th,sD r c] (dq (hs r c)))(l:List It)(hk:ng l)(hl:l.length≤1000000)
 (h3:dh prog 336 [.row 1000 0,jp] [(1000,em (l.map (rk R hs)))] .any [(1000,em (dI cL (l.map (rk R hs))))]) :
 Fn prog 315 [ec R,.per th,fj l] (I2 (gw R hs l)):=by
 have h1:=(E7 R (by have:=WT fX R;omega) ab).frz
 have hA:=(rT R).2
 have hRl:(qI R).length≤12:=by have:=vq R;omega
 have h2:∀x∈l,Fn prog 335 [.per (fW (qI R)),.per th,uz x] (el (iK R hs x)):=fun x hx=>NV R (qI R) hRl hA th hs x (hk x hx) (hH _ _)
 have hQl:(dI cL (l.map (rk R hs))).length=l.length:=by rw[jY,V7]
 unfold gw
 generalize qI R=R' at *
 generalize dI cL (l.map (rk R hs))=Q at *
 clear hH hA hRl hR
 refine fi func315 ntmps315 ?_
 (refine aq h1 ?_)
 refine bQ (bU 7 600 389 8 rfl rfl) ?_
 refine aj (X:=Nat) (fun k=>k≤l.length)
  (fun k=>ay [(0,.per (fW R')),(1,.per th),(7,.row 600 0),(15,fj l),(16,iC .i64 (l.length:Nat)),(17,iC .i64 (k:Nat))] [(600,em ((l.take k).map (rk R hs)))]) (fun k=>l.length-k) 0 (Wa _) ?_
 rintro k g1
 by_cases hlt:k<l.length
 ·have h4:=h2 l[k] (Wk hlt)
  have ht:((l.take (k+1)).map (rk R hs)).map sntP=((l.take k).map (rk R hs)).map sntP++[sntP (rk R hs l[k])]:=by
   rw[List.take_succ_eq_append_getElem hlt,List.map_append,List.map_append];rfl
  have htl:((l.take k).map (rk R hs)).length≤1000000:=by rw[V7,WA];omega
  generalize (l.take k).map (rk R hs)=A at *
  generalize hB:(l.take (k+1)).map (rk R hs)=B at *
  clear h1 h2 h3
  (refine aq h4 ?_;repeat' first|apply ah|refine ai fun hc=>?_)
  refine⟨k+1,ab,ab,av (aN 600 601) (av (aN 601 600) ?_)⟩
  show Le _ _ (ay _ [(600,em ((l.take (k+1)).map (rk R hs)))])
  rw[hB]
  unfold em
  rw[ht]
  exact ae
 ·obtain rfl:k=l.length:=ab
  rw[WX]
  clear h1 h2
  (refine fP (xi [(1000,600)] h3) ?_;repeat' first|apply ah|refine ai fun hc=>?_)
  refine bQ (bU 10 700 82 7 rfl rfl) ?_
  refine aj (X:=Nat) (fun k=>k≤Q.length)
   (fun k=>ay [(10,.row 700 0),(33,.row 600 0),(34,iC .i64 (Q.length:Nat)),(35,iC .i64 (k:Nat))] [(600,em Q),(700,gp ((Q.take k).map Prod.fst))]) (fun k=>Q.length-k) 0 (Wa _) ?_
  rintro k g1
  by_cases hlt:k<Q.length
  ·have ht:((Q.take (k+1)).map Prod.fst).map itP=((Q.take k).map Prod.fst).map itP++[itP Q[k].1]:=by
    rw[List.take_succ_eq_append_getElem hlt,List.map_append,List.map_append];rfl
   have htl:((Q.take k).map Prod.fst).length≤1000000:=by rw[V7,WA];omega
   have HQ:(Q.map sntP)[k]?=some (sntP Q[k]):=by rw[List.getElem?_map,V4 hlt];rfl
   generalize (Q.take k).map Prod.fst=A at *
   generalize hB:(Q.take (k+1)).map Prod.fst=B at *
   generalize Q[k]=q at *
   clear h3
   (refine w0 ?_;repeat' first|apply ah|refine ai fun hc=>?_|((first|apply aB rfl|apply aC rfl|apply aD rfl|apply aF rfl);(focus ((try (apply bI;(focus rfl);apply ag rfl rfl rfl rfl rfl));first|((apply aZ 5;(focus rfl);exact ax ⟨rfl,rfl,rfl⟩ rfl inferInstance inferInstance rfl rfl rfl HQ rfl rfl rfl))));refine w0 ?_))
   refine⟨k+1,ab,ab,av (aN 700 701) (av (aN 701 700) ?_)⟩
   show Le _ _ (ay _ [_,(700,gp ((Q.take (k+1)).map Prod.fst))])
   rw[hB]
   unfold gp
   rw[ht]
   exact ae
  ·obtain rfl:k=Q.length:=ab
   rw[WX]
   clear h3
   (refine w0 ?_;repeat' first|apply ah|refine ai fun hc=>?_)
   exact dw (cJ rfl rfl rfl rfl)
theorem Ji (R:List Rg)(hR:R.length≤1000000000)(bs:List Bool)(pr sd:Int)(hs:Int→Int→Bool)(x:It)(hk:x.key.size≤1000000000)
 (hH:0<bs.length→Fn prog 320 [.per (pf bs pr sd),sD x.rep x.cnt] (dq (hs x.rep x.cnt))) (h0:bs.length=0→hs x.rep x.cnt=false) :
 Fn prog 275 [ec R,.per (pf bs pr sd),uz x] (el (iK R hs x)):=by
 have h1:=qN R x.key hR hk
 unfold iK
 generalize cQ R x.key=a at *
 generalize hs x.rep x.cnt=c at *
 by_cases hb:0<bs.length
 ·replace hH:=hH hb
  clear h0
  cases a<;>cases c
  all_goals
   refine fi func275 ntmps275 ?_
   (refine bg h1 hH ?_;repeat' first|apply ah|refine ai fun hc=>?_)
   refine dw ?_
   exact al rfl au
 ·rw[h0 ab]
  clear hH
  cases a
  all_goals
   refine fi func275 ntmps275 ?_
   (refine aq h1 ?_;repeat' first|apply ah|refine ai fun hc=>?_)
   refine dw ?_
   exact al rfl au
theorem Jj (R:List Rg)(bs:List Bool)(pr sd:Int)(hs:Int→Int→Bool)(x y:It)(hk:x.key.size≤1000000000)
 (h1:Fn prog 275 [ec R,.per (pf bs pr sd),uz x] (el (iK R hs x))) (h2:Fn prog 275 [ec R,.per (pf bs pr sd),uz y] (el (iK R hs y))) :
 Fn prog 246 [ec R,.per (pf bs pr sd),uz x,uz y] (dq (cL (rk R hs x) (rk R hs y))):=by
 have h3:=jR x.key y.key ab
 have hE:cL (rk R hs x) (rk R hs y)=(if x.prio≠y.prio then decide (x.prio>y.prio)else if iK R hs x≠iK R hs y then decide (iK R hs x<iK R hs y)else decide (cP x.key y.key<0)):=by
  unfold cL sL rk
  simp only
  by_cases a:x.prio>y.prio
  ·rw[V6 a,V6 ab,Wb bz,Wb a]
  ·rw[V3 a]
   by_cases b:x.prio<y.prio
   ·rw[V6 b,V6 ab,Wj bz,Wj a]
   ·rw[V3 b,V3 (by omega:¬x.prio≠y.prio)]
    by_cases c:iK R hs x≠iK R hs y
    ·rw[V6 c,V6 c,decide_eq_decide];omega
    ·rw[V3 c,V3 c]
 rw[hE]
 generalize iK R hs x=cx at *
 generalize iK R hs y=cy at *
 generalize decide (cP x.key y.key<0)=d at *
 refine fi func246 ntmps246 ?_
 (refine fO h1 h2 h3 ?_;repeat' first|apply ah|refine ai fun hc=>?_)
 ·rw[V6 (by assumption)]
  exact dp
 ·rw[V3 ab,V6 (by assumption)]
  exact dp
 ·rw[V3 ab,V3 ab]
  exact dp
theorem C1 {α β:Type}{lt:β→β→Bool}{f:α→β}(x:α):∀(l r:List α),kq lt (f x) (l.map f) (r.map f)=(kq (fun x y=>lt (f x) (f y)) x l r).map f
 | [],r=>by simp[kq]
 | y::l,r=>by
  have ih:=C1 (lt:=lt) (f:=f) x l (y::r)
  rw[List.map_cons]at ih
  rw[List.map_cons,kq,kq]
  split
  ·exact ih
  ·simp
theorem NX {α β:Type}{lt:β→β→Bool}{f:α→β}(l:List α):dI lt (l.map f)=(dI (fun x y=>lt (f x) (f y)) l).map f:=by
 unfold dI
 have:∀(l p:List α),List.foldl (i8 lt) (p.map f) (l.map f)=(List.foldl (i8 fun x y=>lt (f x) (f y)) p l).map f:=by
  intro l
  induction l with
  | nil=>intro p;rfl
  | cons x l ih=>
   intro p
   rw[List.map_cons,List.foldl_cons,List.foldl_cons,←ih]
   congr 1
   unfold i8
   rw[←List.map_reverse]
   exact C1 x _ []
 exact this l []
abbrev G2 (R:List Rg)(hs:Int→Int→Bool)(x y:It):Bool:=cL (rk R hs x) (rk R hs y)
theorem vT (R:List Rg)(hs:Int→Int→Bool)(l:List It):gw R hs l=dI (G2 R hs) l:=by
 unfold gw
 rw[NX,List.map_map]
 exact List.map_id _
theorem S7 (R:List Rg)(hs:Int→Int→Bool):sX (G2 R hs):=⟨fun _=>ef.irr _,fun _ _ _=>ef.tr _ _ _,fun _ _ _=>ef.ntr _ _ _⟩
theorem sf (R:List Rg)(hs:Int→Int→Bool)(l:List It):(gw R hs l).length=l.length:=by rw[vT,jY]
section
variable {P:Program} {n t:Nat} {ops:Array Oper} {o:Oper} {S:St}
end
theorem NY (R:List Rg)(bs:List Bool)(pr sd:Int)(hs:Int→Int→Bool)(l:List It)(hl:l.length≤1000000)
 (hAh:∀x∈l,∀y∈l,Fn prog 246 [ec R,.per (pf bs pr sd),uz x,uz y] (dq (cL (rk R hs x) (rk R hs y)))) :
 Fn prog 183 [ec R,.per (pf bs pr sd),fj l] (.per (dP (gw R hs l))):=by
 have hm:∀k,∀y∈dI (G2 R hs) (l.take k),y∈l:=fun k y hy=>Xt ((lX (S7 R hs)).1 hy)
 have hlen:∀k,(dI (G2 R hs) (l.take k)).length≤l.length:=fun k=>by rw[jY,WA];omega
 have hstep:∀k (h:k<l.length),dI (G2 R hs) (l.take (k+1))=i8 (G2 R hs) (dI (G2 R hs) (l.take k)) l[k]:=fun k h=>by
  unfold dI;rw[List.take_succ_eq_append_getElem h,List.foldl_append];rfl
 rw[vT]
 refine fi func183 ntmps183 ?_
 (refine w0 ?_)
 refine bQ (bU 7 600 82 7 rfl rfl) (bQ (jj 600 _ 82 7 rfl rfl) ?_)
 refine aj (X:=Nat) (fun k=>k≤l.length)
  (fun k=>ay [(0,ec R),(2,fj l),(4,.ptr 4 0 0),(7,.per (dP (dI (G2 R hs) (l.take k)))),(8,iC .i64 (k:Nat))] [(4,.box 87 [.per (cA 1 (bs.map boolP)),iC .i64 pr,iC .u64 sd])]) (fun k=>l.length-k) 0 (Wa _) ?_
 rintro k hk
 by_cases hlt:k<l.length
 ·have hst:=hstep k hlt
  have hmk:=hm k
  have hlk:=hlen k
  have hxm:=Wk hlt
  generalize dI (G2 R hs) (l.take k)=O at *
  clear hm hlen hstep
  (repeat' (first|refine ck ?_|refine bi ?_|refine bA ?_|refine bB ?_|refine cn ?_|refine aU ?_|refine ci ?_|refine cj (by kernel_rfl) ?_|(refine dL rfl rfl ⟨fun hc=>?_,fun hc=>?_⟩<;>(repeat rw[V7]at hc)<;>(try exact ce hc))|((first|apply aB rfl|apply aC rfl|apply aD rfl|apply aF rfl);focus (first|exact cz|fail))|refine bD ?_|refine bF ?_|refine bG ?_|refine de ?_|refine dg ?_|refine bH ?_|refine bj rfl ?_|((first|refine dM rfl rfl rfl ⟨fun hc=>?_,fun hc=>?_⟩|refine dN rfl rfl rfl ⟨fun hc=>?_,fun hc=>?_⟩)<;>(fail_if_success (have q:(true=true):=hc))<;>(fail_if_success (have q:(false=false):=hc))<;>(repeat rw[V7]at hc)<;>(try exact ce hc))|refine aH rfl rfl (fun hc=>?_) ?_))
  refine aj (X:=List It×List It) (fun p=>p.1++p.2=O∧kq (G2 R hs) l[k] p.1.reverse p.2=i8 (G2 R hs) O l[k])
   (fun p=>ay [(0,ec R),(2,fj l),(4,.ptr 4 0 0),(7,.per (dP O)),(8,iC .i64 (k:Nat)),(9,iC .i64 (p.1.length:Nat))] [(4,.box 87 [.per (cA 1 (bs.map boolP)),iC .i64 pr,iC .u64 sd])]) (fun p=>p.1.length) (O,[]) ⟨au,rfl⟩ ?_
  rintro⟨p1,p2⟩ ⟨q1,q2⟩
  simp only at q1 q2 ⊢
  have hfin:i8 (G2 R hs) O l[k]=p1++l[k]::p2→Cnt.per (cA 7 ((([]:List (List PV))++(O.take p1.length).map itP)++[itP l[k]]++(O.drop p1.length).map itP))=.per (dP (dI (G2 R hs) (l.take (k+1)))):=fun h=>by
   rw[hst,h,←q1]
   simp[dP]
  have hpl:p1.length≤O.length:=by rw[←q1,V5];omega
  rcases fm p1 with rfl|⟨p1',y,rfl⟩
  ·have hf:=hfin (by rw[←q2];rfl)
   clear hfin hAh
   (refine w0 ?_;repeat' first|apply ah|refine ai fun hc=>?_)
   refine aR (bU 37 601 82 7 rfl rfl) ?_
   (refine w0 ?_)
   refine⟨k+1,ab,ab,av (jj 601 _ 82 7 rfl rfl) ?_⟩
   refine kd ?_ ?_
   ·((repeat (first|exact f9.nil|(refine f9.cons ?_ ?_;rotate_left)));(all_goals try (first|rfl|(refine Dx ?_;first|omega|(simp;done)|(simp;omega))|(refine pb ?_;first|(simp;done)|(simp[*];done)))))
    exact hf
   ·((repeat (first|exact ga.nil|(refine ga.cons ?_ ?_;rotate_left)));(all_goals try (first|rfl|(refine mD ?_;(rw[List.map_append]<;>rfl);done)|(refine ke ?_;(rw[List.map_append]<;>rfl);done))))
  ·obtain⟨j,hj⟩:∃j,p1'.length=j:=⟨_,rfl⟩
   have hj1:(p1'++[y]).length=j+1:=bn
   have hyl:=hmk y (by rw[←q1];simp)
   have hm:=hAh l[k] hxm y hyl
   have HJ:(O.map itP)[j]?=some (itP y):=by
    rw[List.getElem?_map,←q1,V9,List.getElem?_append_right ab,hj,XB];rfl
   rw[hj1]at hfin hpl
   rw[hj1]
   have hrev:(p1'++[y]).reverse=y::p1'.reverse:=au
   rw[hrev,kq]at q2
   by_cases hxy:G2 R hs l[k] y=true
   ·rw[V6 hxy]at q2
    have hxy':cL (rk R hs l[k]) (rk R hs y)=true:=hxy
    rw[hxy']at hm
    clear hfin hAh
    (repeat' (first|refine ck ?_|refine bi ?_|refine bA ?_|refine bB ?_|refine cn ?_|refine aU ?_|refine bV cI ?_|refine ci ?_|refine cj (by kernel_rfl) ?_|(refine dL rfl rfl ⟨fun hc=>?_,fun hc=>?_⟩<;>(repeat rw[V7]at hc)<;>(try exact ce hc))|((first|apply aB rfl|apply aC rfl|apply aD rfl|apply aF rfl);focus (first|((apply aZ 12;(focus rfl);exact iO ⟨rfl,rfl,rfl⟩ rfl inferInstance inferInstance rfl rfl rfl rfl HJ))|(apply bI;(focus rfl);apply ag rfl rfl rfl rfl rfl;((apply aZ 12;(focus rfl);exact iO ⟨rfl,rfl,rfl⟩ rfl inferInstance inferInstance rfl rfl rfl rfl HJ)))|exact cz|exact nf (hm)|fail))|refine bD ?_|refine bF ?_|refine bG ?_|refine de ?_|refine dg ?_|refine bH ?_|refine bj rfl ?_|((first|refine dM rfl rfl rfl ⟨fun hc=>?_,fun hc=>?_⟩|refine dN rfl rfl rfl ⟨fun hc=>?_,fun hc=>?_⟩)<;>(fail_if_success (have q:(true=true):=hc))<;>(fail_if_success (have q:(false=false):=hc))<;>(repeat rw[V7]at hc)<;>(try exact ce hc))|refine aH rfl rfl (fun hc=>?_) ?_))
    refine⟨(p1',y::p2),⟨by simp only;rw[←q1];simp,q2⟩,aA,?_⟩
    simp only[hj]
    exact ae
   ·rw[V3 hxy]at q2
    have hxy':cL (rk R hs l[k]) (rk R hs y)=false:=by simpa using hxy
    rw[hxy']at hm
    have hf:=hfin (by rw[←q2];simp)
    clear hfin hAh
    (repeat' (first|refine ck ?_|refine bi ?_|refine bA ?_|refine bB ?_|refine cn ?_|refine aU ?_|refine bV cI ?_|refine ci ?_|refine cj (by kernel_rfl) ?_|(refine dL rfl rfl ⟨fun hc=>?_,fun hc=>?_⟩<;>(repeat rw[V7]at hc)<;>(try exact ce hc))|((first|apply aB rfl|apply aC rfl|apply aD rfl|apply aF rfl);focus (first|((apply aZ 12;(focus rfl);exact iO ⟨rfl,rfl,rfl⟩ rfl inferInstance inferInstance rfl rfl rfl rfl HJ))|(apply bI;(focus rfl);apply ag rfl rfl rfl rfl rfl;((apply aZ 12;(focus rfl);exact iO ⟨rfl,rfl,rfl⟩ rfl inferInstance inferInstance rfl rfl rfl rfl HJ)))|exact cz|exact nf (hm)|fail))|refine bD ?_|refine bF ?_|refine bG ?_|refine de ?_|refine dg ?_|refine bH ?_|refine bj rfl ?_|((first|refine dM rfl rfl rfl ⟨fun hc=>?_,fun hc=>?_⟩|refine dN rfl rfl rfl ⟨fun hc=>?_,fun hc=>?_⟩)<;>(fail_if_success (have q:(true=true):=hc))<;>(fail_if_success (have q:(false=false):=hc))<;>(repeat rw[V7]at hc)<;>(try exact ce hc))|refine aH rfl rfl (fun hc=>?_) ?_))
    refine aR (bU 37 601 82 7 rfl rfl) ?_
    (refine w0 ?_)
    refine⟨k+1,ab,ab,av (jj 601 _ 82 7 rfl rfl) ?_⟩
    refine kd ?_ ?_
    ·((repeat (first|exact f9.nil|(refine f9.cons ?_ ?_;rotate_left)));(all_goals try (first|rfl|(refine Dx ?_;first|omega|(simp;done)|(simp;omega))|(refine pb ?_;first|(simp;done)|(simp[*];done)))))
     exact hf
    ·((repeat (first|exact ga.nil|(refine ga.cons ?_ ?_;rotate_left)));(all_goals try (first|rfl|(refine mD ?_;(rw[List.map_append]<;>rfl);done)|(refine ke ?_;(rw[List.map_append]<;>rfl);done))))
 ·obtain rfl:k=l.length:=ab
  rw[WX]
  (refine w0 ?_;repeat' first|apply ah|refine ai fun hc=>?_)
  exact OZ
def ie (l:List It):Nat:=(l.map fun x=>(xy x).length).sum
theorem pZ (l:List It)(x:It):ie (l++[x])=ie l+(xy x).length:=by simp[ie]
theorem NZ (l:List It):ie l≤200*l.length:=by
 induction l with
 | nil=>simp[ie]
 | cons x l ih=>have:=zc x;simp only[ie,List.map_cons,List.sum_cons,Wh]at ih ⊢;omega
structure Spl where
 D:List (List It)
 c:Option (List It)
 left:Int
def sM (x:It):Int:=(xy x).length
def p0 (limit:Int)(s:Spl)(x:It):Spl:=match s.c with
 | none=>⟨s.D,some [x],limit-sM x⟩
 | some c=>if sM x>s.left then⟨s.D++[c],some [x],limit-sM x⟩else⟨s.D,some (c++[x]),s.left-sM x⟩
def lz (limit:Int)(l:List It):Spl:=l.foldl (p0 limit) ⟨[],none,-1⟩
def vU (limit:Int)(x:It):Prop:=eC x=true∧sM x≤limit
def vV (limit:Int)(l:List It)(k:Nat)(s:Spl):St:=match s.c with
 | none=>ay [(0,iC .i64 limit),(6,.row 600 0),(7,iC .i64 s.left),(12,fj l),(13,iC .i64 (l.length:Nat)),(14,iC .i64 (k:Nat))] [(600,.row 23 1 [])]
 | some c=>ay [(0,iC .i64 limit),(6,.row 600 0),(7,iC .i64 s.left),(12,fj l),(13,iC .i64 (l.length:Nat)),(14,iC .i64 (k:Nat))] [(600,.mix 23 (s.D.map dP) (.row 601 0)),(601,.row 82 7 (c.map itP))]
theorem yv (limit:Int)(l:List It)(k:Nat)(h:k<l.length):lz limit (l.take (k+1))=p0 limit (lz limit (l.take k)) l[k]:=by
 unfold lz;rw[bc l k h,List.foldl_append];rfl
theorem C2 {limit left:Int}{D:List (List It)}{c:List It}{x:It}(h:((xy x).length:Int)>left):p0 limit ⟨D,some c,left⟩ x=⟨D++[c],some [x],limit-sM x⟩:=by simp[p0,sM,h]
theorem G3 {limit left:Int}{D:List (List It)}{c:List It}{x:It}(h:¬((xy x).length:Int)>left):p0 limit ⟨D,some c,left⟩ x=⟨D,some (c++[x]),left-sM x⟩:=by simp[p0,sM,h]
structure S8 (limit:Int)(k:Nat)(s:Spl):Prop where
 left1:-1≤s.left
 left2:s.left≤9223372036854775807
 none1:s.c=none→s.left = -1∧s.D=[]
 len:s.D.length+(s.c.map List.length).getD 0≤k
 ne:∀c,s.c=some c→1≤c.length
theorem QX (limit:Int)(l:List It)(h1:limit≤9223372036854775807)(hall:∀x∈l,vU limit x):S8 limit l.length (lz limit l):=by
 have key:∀(m:List It)(s:Spl)(k:Nat),(∀x∈m,vU limit x)→S8 limit k s→S8 limit (k+m.length) (m.foldl (p0 limit) s):=by
  intro m
  induction m with
  | nil=>intro s k _ h;exact h
  | cons x m ih=>
   intro s k hm h
   rw[List.foldl_cons,Wh,show k+(m.length+1)=(k+1)+m.length by omega]
   refine ih _ _ (fun y hy=>hm y (by simp[hy])) ?_
   obtain⟨hx1,hx2⟩:=hm x au
   have hn:0≤sM x:=Int.natCast_nonneg _
   obtain⟨q1,q2,q3,q4,q5⟩:=h
   unfold p0
   split
   ·rename_i hc
    have:=q3 hc
    exact⟨aA,aA,au,by rw[hc]at q4;simp at q4 ⊢;omega,au⟩
   ·rename_i c hc
    rw[hc]at q4
    simp at q4
    have:=q5 c hc
    split
    ·exact⟨aA,aA,au,bn,au⟩
    ·exact⟨aA,aA,au,bn,au⟩
 have:=key l ⟨[],none,-1⟩ 0 hall ⟨au,au,fun _=>⟨rfl,rfl⟩,au,au⟩
 simpa[lz]using this
theorem vW {P:Program}{n:Nat}{fn:Func}{S S':St}{r:Ret}(h:Le n S S')(k:nm P n fn S' r):nm P n fn S r:=fun C a w hL hR=>k C a w hL (h C a w hR)
def jc (limit:Int):List It→Int
 | []=>0
 | x::r=>if eC x=false then 2 else if sM x>limit then 12 else jc limit r
def sh (limit:Int)(l:List It):List (List It):=
 if jc limit l=0 then(match(lz limit l).c with|none=>[[]]|some c=>(lz limit l).D++[c])else []
theorem zX (limit:Int)(l:List It):∃m,m≤l.length∧(∀x∈l.take m,vU limit x)∧(∀h:m<l.length,(eC l[m]=false∧jc limit l=2)∨(eC l[m]=true∧sM l[m]>limit∧jc limit l=12))∧(m=l.length→jc limit l=0):=by
 induction l with
 | nil=>exact⟨0,V8 _,au,fun h=>by simp at h,fun _=>rfl⟩
 | cons x r ih=>
  by_cases h1:eC x=false
  ·exact⟨0,au,au,fun h=>.inl ⟨h1,by simp[jc,h1]⟩,fun h=>by simp at h⟩
  by_cases h2:sM x>limit
  ·exact⟨0,au,au,fun h=>.inr ⟨by simpa using h1,h2,by simp[jc,h1,h2]⟩,fun h=>by simp at h⟩
  obtain⟨m,q1,q2,q3,q4⟩:=ih
  have hb:jc limit (x::r)=jc limit r:=by simp[jc,h1,h2]
  rw[hb]
  refine⟨m+1,bn,fun y hy=>?_,fun h=>q3 (by simpa using h),fun h=>q4 (by simpa using h)⟩
  rw[List.take_succ_cons,Wp]at hy
  obtain rfl|hy:=hy
  ·exact⟨by simpa using h1,ab⟩
  ·exact q2 y hy
theorem C3 (limit:Int)(l:List It)(hl:l.length≤1000000000)(h1:-9223372036854775808≤limit)(h2:limit≤9223372036854775807) :
 Fn prog 314 [iC .i64 limit,fj l] (.tup2 (.per (cA 1 ((sh limit l).map fun b=>[dP b]))) (.per (ak (.int .i64 (jc limit l))))):=by
 obtain⟨m,hm,hall,hbad,hok⟩:=zX limit l
 unfold sh
 refine fi func314 ntmps314 ?_
 (refine wH ?_)
 refine bQ (bU 6 600 23 1 rfl rfl) ?_
 refine uj m (fun k=>vV limit l k (lz limit (l.take k))) ?_ ?_
 ·show Le _ _ (ay _ _)
  exact ae
 ·intro k hk
  have hI:=QX limit (l.take k) h2 (fun x hx=>hall x (Xt (by rw[List.take_take,Nat.min_eq_left hk];exact hx)))
  rw[WA,Nat.min_eq_left (W7 hk hm)]at hI
  by_cases hkm:k<m
  ·have hlt:k<l.length:=ab
   have hsn:=yv limit l k hlt
   obtain⟨hx1,hx2⟩:=hall l[k] (by rw[List.mem_take_iff_getElem];exact⟨k,ab,rfl⟩)
   rw[hsn]
   generalize lz limit (l.take k)=s at *
   obtain⟨D,c,left⟩:=s
   obtain⟨i1,i2,i3,i4,i5⟩:=hI
   unfold sM at *
   simp only at i1 i2
   cases c with
   | none=>
    obtain⟨e1,e2⟩:=i3 rfl
    simp only at e1 e2
    subst e1;subst e2
    unfold vV
    simp only
    (have kc1:=eI l[k];have kc2:=dU l[k];refine wS ?_;(repeat' first|apply ah|refine ai fun hc=>?_);all_goals clear kc2 kc1)
    refine bQ (Fe 600 1 601 23 82 7 (D:=[]) rfl rfl rfl) ?_
    (refine kf (eI l[k]) ?_;repeat' first|apply ah|refine ai fun hc=>?_|((first|apply aB rfl|apply aC rfl|apply aD rfl|apply aF rfl);(focus ((try (apply bI;(focus rfl);apply ag rfl rfl rfl rfl rfl));first|(exact r9 ⟨rfl,rfl,rfl⟩ rfl inferInstance inferInstance rfl rfl rfl rfl (i:=0) (by rfl) (by first|omega|(simp;done)|(simp;omega)|(simp[aQ];done)|(simp[aQ];omega)))|(exact vK ⟨rfl,rfl,rfl⟩ rfl inferInstance rfl rfl rfl rfl)|(exact sa ⟨rfl,rfl⟩ rfl inferInstance rfl rfl rfl rfl rfl rfl rfl)));refine kf (eI l[k]) ?_))
    refine⟨hkm,?_⟩
    show Le _ _ (ay _ _)
    exact ae
   | some c=>
    have i6:=i5 c rfl
    simp at i4
    unfold vV
    simp only
    (have kc1:=eI l[k];have kc2:=dU l[k];refine wS ?_;(repeat' first|apply ah|refine ai fun hc=>?_|((first|apply aB rfl|apply aC rfl|apply aD rfl|apply aF rfl);(focus ((try (apply bI;(focus rfl);apply ag rfl rfl rfl rfl rfl));first|(exact zT ⟨rfl,rfl,rfl⟩ rfl inferInstance rfl rfl rfl)));refine wS ?_));all_goals clear kc2 kc1)
    ·refine aR (vJ 600 0 601 23 rfl rfl rfl rfl) ?_
     (have kc1:=eI l[k];have kc2:=dU l[k];refine wS ?_;all_goals clear kc2 kc1)
     refine bQ (Fe 600 1 601 23 82 7 (D:=D.map dP++[dP c]) rfl (by rw[List.map_append];rfl) rfl) ?_
     (refine kf (eI l[k]) ?_;repeat' first|apply ah|refine ai fun hc=>?_|((first|apply aB rfl|apply aC rfl|apply aD rfl|apply aF rfl);(focus ((try (apply bI;(focus rfl);apply ag rfl rfl rfl rfl rfl));first|(exact r9 ⟨rfl,rfl,rfl⟩ rfl inferInstance inferInstance rfl rfl rfl rfl (i:=D.length+1) (by first|omega|(simp;done)|(simp;omega)|(simp[aQ];done)|(simp[aQ];omega)) (by first|omega|(simp;done)|(simp;omega)|(simp[aQ];done)|(simp[aQ];omega)))|(exact vK ⟨rfl,rfl,rfl⟩ rfl inferInstance rfl rfl rfl (by first|omega|(simp;done)|(simp;omega)|(simp[aQ];done)|(simp[aQ];omega)))|(exact sa ⟨rfl,rfl⟩ rfl inferInstance rfl rfl rfl (by first|omega|(simp;done)|(simp;omega)|(simp[aQ];done)|(simp[aQ];omega)) rfl rfl rfl)));refine kf (eI l[k]) ?_))
     refine⟨hkm,?_⟩
     have hsp:p0 limit ⟨D,some c,left⟩ l[k]=⟨D++[c],some [l[k]],limit-sM l[k]⟩:=C2 (by assumption)
     rw[hsp]
     show Le _ _ (ay _ _)
     exact ae
    ·(refine kf (eI l[k]) ?_;repeat' first|apply ah|refine ai fun hc=>?_|((first|apply aB rfl|apply aC rfl|apply aD rfl|apply aF rfl);(focus ((try (apply bI;(focus rfl);apply ag rfl rfl rfl rfl rfl));first|(exact zT ⟨rfl,rfl,rfl⟩ rfl inferInstance rfl rfl rfl)|(exact r9 ⟨rfl,rfl,rfl⟩ rfl inferInstance inferInstance rfl rfl rfl rfl (i:=D.length) (by first|omega|(simp;done)|(simp;omega)|(simp[aQ];done)|(simp[aQ];omega)) (by first|omega|(simp;done)|(simp;omega)|(simp[aQ];done)|(simp[aQ];omega)))|(exact vK ⟨rfl,rfl,rfl⟩ rfl inferInstance rfl rfl rfl (by first|omega|(simp;done)|(simp;omega)|(simp[aQ];done)|(simp[aQ];omega)))|(exact sa ⟨rfl,rfl⟩ rfl inferInstance rfl rfl rfl (by first|omega|(simp;done)|(simp;omega)|(simp[aQ];done)|(simp[aQ];omega)) rfl rfl rfl)));refine kf (eI l[k]) ?_))
     refine⟨hkm,?_⟩
     have hsp:p0 limit ⟨D,some c,left⟩ l[k]=⟨D,some (c++[l[k]]),left-sM l[k]⟩:=G3 (by assumption)
     rw[hsp]
     show Le _ _ (ay _ _)
     exact ae
  have hkm:k=m:=ab
  subst hkm
  by_cases hlt:k<l.length
  ·have hb:=hbad hlt
   clear hbad hok hall
   generalize lz limit (l.take k)=s at *
   obtain⟨D,c,left⟩:=s
   obtain⟨i1,i2,i3,i4,i5⟩:=hI
   unfold sM at *
   rcases hb with⟨hb1,hb2⟩|⟨hb1,hb2,hb3⟩
   all_goals
    have hb0:jc limit l≠0:=ab
    rw[V3 hb0]
    cases c with
    | none=>
     unfold vV
     simp only
     (refine sA (eI l[k]) (dU l[k]) ?_;repeat' first|apply ah|refine ai fun hc=>?_)
     refine d9 ?_ ?_
     ·exact eL rfl
     ·exact al rfl ab
    | some c=>
     unfold vV
     simp only
     (refine sA (eI l[k]) (dU l[k]) ?_;repeat' first|apply ah|refine ai fun hc=>?_)
     refine d9 ?_ ?_
     ·exact eL rfl
     ·exact al rfl ab
  ·have e:l.take k=l:=Wd ab
   have hb0:=hok ab
   rw[hb0,V6 rfl]
   have hkl:k=l.length:=ab
   rw[e]at hI ⊢
   clear e
   subst hkl
   clear hbad hok hall hb0
   generalize lz limit l=s at *
   obtain⟨D,c,left⟩:=s
   obtain⟨i1,i2,i3,i4,i5⟩:=hI
   cases c with
   | none=>
    obtain⟨e1,e2⟩:=i3 rfl
    simp only at e1 e2
    subst e1;subst e2
    unfold vV
    simp only
    (refine wH ?_;repeat' first|apply ah|refine ai fun hc=>?_)
    refine⟨.inl rfl,vW (Fe 600 1 699 23 82 7 (D:=[]) rfl rfl rfl) (vW (vJ 600 1 699 23 rfl rfl rfl rfl) ?_)⟩
    exact AV rfl (DN rfl rfl rfl) (al rfl rfl)
   | some c=>
    simp at i4
    unfold vV
    simp only
    (refine wH ?_;repeat' first|apply ah|refine ai fun hc=>?_|((first|apply aB rfl|apply aC rfl|apply aD rfl|apply aF rfl);(focus ((try (apply bI;(focus rfl);apply ag rfl rfl rfl rfl rfl));first|(exact zT ⟨rfl,rfl,rfl⟩ rfl inferInstance rfl rfl rfl)));refine wH ?_))
    refine⟨.inl rfl,vW (vJ 600 0 601 23 rfl rfl rfl rfl) ?_⟩
    exact AV rfl (DN rfl rfl (mD (by simp[Function.comp_def]))) (al rfl rfl)
end Go.Proofs.YtaclhhkblbacgaaGreat
