/- Lemmas, walks. -/
import Derived.Test.YtecdgdoledkdfaaGreatJ19
set_option maxRecDepth 10000
set_option maxHeartbeats 8000000
namespace Go.Proofs.YtecdgdoledkdfaaGreat
open Go.RowKit Go.Proofs.Tryz
variable {l:List It} {k:ByteArray}
theorem Rl {k:List Pc}(hk:aY k){f:List Rg}:cW k f=k↔∀s,cz f s=false->eI k s=[]:=by grind[lz,lL,nL,kN]
theorem ru {s:Sta}(h:oA s=true):(1<=s.id/\s.id<=16)/\(0<=s.cnt/\s.cnt<=1099511627776)/\s.its.length<=4096/\bT s.flt/\fV s.its=true/\aY s.know/\cW s.know s.flt=s.know/\mb s.know s.id<=s.cnt/\jw s.its=true/\∀x∈s.its,cz s.flt x.key=true/\cq s.know x.key x.rep x.cnt=true:=by grind[oA]
theorem Fe (h:fV l=true):l.all dA=true:=by grind[fV]
theorem L7:∀(a s:List UInt8),dZ a s<=0->dZ s (a++[0])<0->s=a:=by
 intro a
 induction a with
 | nil=>
  intro s _ h
  cases s with
  | nil=>rfl
  | cons c t=>
   exfalso
   have hc:¬c.toNat<(0:UInt8).toNat:=aA
   simp only[aaE,dZ]at h
   rw[aab hc]at h
   split at h
   ·omega
   ·cases t<;>simp[dZ]at h
 | cons x a ih=>
  intro s h1 h2
  cases s<;>grind[dZ,abg]
theorem AP:∀(a:List UInt8),dZ a (a++[0])<0:=by
 intro a
 induction a<;>grind[dZ]
theorem app0 (k:ByteArray):(k++⟨#[0]⟩:ByteArray).data.toList=k.data.toList++[0]:=aA
theorem WC (h:mj k=true):gg ⟨k,k++⟨#[0]⟩,false⟩=true:=by
 rw[cg]
 unfold mj at h
 simp at h
 have hs:(k++⟨#[0]⟩:ByteArray).size=k.size+1:=by rw[ByteArray.size_append];rfl
 refine⟨aL,aL,?_⟩
 simp_all[cG,AP]
theorem Rm (h:mj k=true)(s:ByteArray):ca ⟨k,k++⟨#[0]⟩,false⟩ s=true↔s=k:=by
 rw[db (WC h)]
 simp only[aaL,false_or]
 constructor
 ·rintro⟨h1,h2⟩
  rw[<-ED]at h1
  rw[<-iP]at h2
  grind[cG,app0,ByteArray.ext,Array.ext',L7]
 ·rintro rfl
  refine⟨(ED _ _).1 (by rw[xI];decide),?_⟩
  rw[<-iP]
  simp_all[cG,AP]
theorem Iy {r c:Int}(h1:mj k=true)(h2:gc r c=true):aY (rk k r c)/\∀s,eI (rk k r c) s=if s=k then [⟨r,[⟨c,c⟩]⟩]else []:=by
 unfold rk
 rw[h1,h2,aae (by rfl)]
 have hv:1<=r/\r<=16/\1<=c/\c<=1099511627776:=by grind[gc]
 have hkn:ck [⟨r,[⟨c,c⟩]⟩]:=by
  rw[xU]
  refine⟨⟨hv.1,hv.2.1,aA,λi hi=>?_⟩,λq hq=>(by simp at hq),mZ⟩
  intro hi'
  simp_all[cK]
 refine⟨(dy _ _).2 ⟨⟨WC h1,aA,hkn⟩,λq hq=>(by simp at hq),ig⟩,λs=>?_⟩
 by_cases e:s=k
 all_goals grind[lY,Rm,gy,sH]
theorem Vk {r c:Int}(hr:1<=r/\r<=16){j:Int}(hj:1<=j):bx [⟨r,[⟨c,c⟩]⟩] (j-1).toNat=if r=j then [⟨c,c⟩]else []:=by grind[bx]
theorem Ff {a b:List Pc}(ha:aY a)(hb:aY b)(h:∀s r c,cq a s r c=cq b s r c):a=b:=by
 refine nL ha hb λs=>H9 (Ce ha s) (Ce hb s) λr hr n=>?_
 have h1:=h s ((r:Int)+1) n
 rw[kX ha,kX hb,aav,kY,kY,show((r:Int)+1-1).toNat=r by omega]at h1
 have hv:(1<=n/\n<=1099511627776)->gc ((r:Int)+1) n=true:=λq=>by grind[gc]
 grind[EE]
theorem AQ {r c:Int}(h1:mj k=true)(h2:gc r c=true)(s:ByteArray)(r' c':Int):cq (rk k r c) s r' c'=(decide (s=k)&&(decide (r'=r)&&decide (c'=c))):=by grind[Iy,gc,kX,kY,Vk,d9,jr,cK,ql]
def L8 (l:List It):List Pc:=l.foldl (λk x=>zo (k++(if gc x.rep x.cnt then rk x.key x.rep x.cnt else []))) []
theorem Iz (x:It):aY (if gc x.rep x.cnt then rk x.key x.rep x.cnt else []):=by grind[Iy,rk,ig]
def YI (x:It)(s:ByteArray)(r c:Int):Bool:=decide (s=x.key)&&(decide (r=x.rep)&&decide (c=x.cnt))
theorem yt (hl:l.all dA=true):aY (L8 l)/\∀s r c,cq (L8 l) s r c=l.any λx=>YI x s r c:=by
 unfold L8
 have key:∀(l:List It)(k:List Pc),l.all dA=true->aY k->aY (l.foldl (λk x=>zo (k++(if gc x.rep x.cnt then rk x.key x.rep x.cnt else []))) k) /\
  ∀s r c,cq (l.foldl (λk x=>zo (k++(if gc x.rep x.cnt then rk x.key x.rep x.cnt else []))) k) s r c=(cq k s r c||l.any λx=>YI x s r c):=by
  intro l
  induction l<;>grind[ri,dA,ye,Iz,AQ,YI]
 obtain⟨h1,h2⟩:=key l [] hl ig
 exact⟨h1,λs r c=>by rw[h2];rfl⟩
theorem jx (h:l.all dA=true):l.filter dA=l:=List.filter_eq_self.2 λx hx=>aaH.1 h x hx
structure Ro (t:Sta)(c:List It)(g:Sta):Prop where
 id:g.id=t.id
 flt:g.flt=t.flt
 cnt:g.cnt=t.cnt
 right:oA g=true
 look:∀k,f0 k g.its=f0 k (t.its++c)
 has:∀s r n,cq g.know s r n=(cq t.know s r n||c.any λx=>YI x s r n)
theorem yu {s:Sta}(h:oA s=true):s.its.all dA=true/\Up s.its:=by
 obtain⟨_,_,_,_,c5,_⟩:=ru h
 grind[Fe,AH,m6]
theorem IA (l:List Rg)(hl:l.length<=1000000000):Fn prog 67 [cU l] (pn l):=by
 by_cases h0:0<l.length
 ·refine fi func67 ntmps67 ?_
  (refine w0 ?_;refine ah λhc=>?_)
  exact oo
 ·obtain rfl:l=[]:=aax ae
  refine fi func67 ntmps67 ?_
  (refine w0 ?_;repeat' first|apply aw|refine ah λhc=>?_)
  ·exact dr (dG rfl)
  ·exact oo
abbrev Snt:=It×Int
abbrev sntP (x:Snt):List PV:=itP x.1++[ai (.int .i64 x.2)]
abbrev Zn (x:Snt):Cnt:=.per (cu (sntP x))
def vj (x y:Snt):Int:=if x.1.prio>y.1.prio then -1 else if x.1.prio<y.1.prio then 1 else if x.2≠y.2 then x.2-y.2 else cG x.1.key y.1.key
def cP (x y:Snt):Bool:=decide (vj x y<0)
def qK (x:Snt):Prop:=x.1.key.size<=1000000000/\0<=x.2/\x.2<=3
theorem yv (x y:Snt):cP x y=true↔(y.1.prio<x.1.prio\/(x.1.prio=y.1.prio/\(x.2<y.2\/(x.2=y.2/\x.1.key<y.1.key)))):=by grind[cP,vj,iP]
theorem ey:vy cP where
 irr x:=by
  rw[<-aaB,yv]
  grind
 tr x y z h1 h2:=by
  rw[yv]at *
  rcases h1 with h1|⟨h1,h1'|⟨h1',h1''⟩⟩<;>rcases h2 with h2|⟨h2,h2'|⟨h2',h2''⟩⟩
  all_goals grind
 ntr x y z h1 h2:=by
  rw[<-aaB,yv]at *
  grind
theorem td (x y:Snt)(hx:qK x)(hy:qK y):bZ prog 336 [Zn x,Zn y] [] (.per (ai (.int .i64 (vj x y)))) []:=by
 obtain⟨⟨xk,xr,xc,xa,xp,xd,xb⟩,xs⟩:=x
 obtain⟨⟨yk,yr,yc,ya,yp,yd,yb⟩,ys⟩:=y
 obtain⟨hk,hx0,hx3⟩:=hx
 obtain⟨-,hy0,hy3⟩:=hy
 simp only at hk hx0 hx3 hy0 hy3
 have h1:=hY xk yk ae
 have hE:vj (⟨xk,xr,xc,xa,xp,xd,xb⟩,xs) (⟨yk,yr,yc,ya,yp,yd,yb⟩,ys)=(if xp>yp then -1 else if xp<yp then 1 else if xs≠ys then xs-ys else cG xk yk):=rfl
 rw[hE]
 show bZ prog _ [.per (cu [ai (.string xk),ai (.int .i64 xr),ai (.int .i64 xc),ai (.int .i64 xa),ai (.int .i64 xp),ai (.bool xd),ai (.string xb),ai (.int .i64 xs)]),.per (cu [ai (.string yk),ai (.int .i64 yr),ai (.int .i64 yc),ai (.int .i64 ya),ai (.int .i64 yp),ai (.bool yd),ai (.string yb),ai (.int .i64 ys)])] [] _ []
 refine cp func336 ntmps336 ?_
 (refine au h1 ?_;repeat' first|apply aw|refine ah λhc=>?_)
 ·rw[aae (by assumption)]
  (refine⟨(by first|exact .inl rfl|exact .inr rfl),dv [] rfl rfl .nil ?_⟩)
  exact bh rfl rfl
 ·rw[aab (by assumption),aae (by assumption)]
  (refine⟨(by first|exact .inl rfl|exact .inr rfl),dv [] rfl rfl .nil ?_⟩)
  exact bh rfl rfl
 ·rw[aab (by assumption),aab (by assumption),aae (by assumption)]
  (refine⟨(by first|exact .inl rfl|exact .inr rfl),dv [] rfl rfl .nil ?_⟩)
  exact bh rfl rfl
 ·rw[aab (by assumption),aab (by assumption),aab ae]
  (refine⟨(by first|exact .inl rfl|exact .inr rfl),dv [] rfl rfl .nil ?_⟩)
  exact bh rfl rfl
abbrev jG:Cnt:=.per (ai (.func (.func 336) #[] #[]))
abbrev eD (l:List Snt):Blk:=.row 388 8 (l.map sntP)
def m7 (l:List Snt):Prop:=∀x∈l,qK x
theorem AR (A M Z:List Snt)(hk:m7 M)(hl:(A++M++Z).length<=1000000000):bZ prog 358 [.row 1000 0,iC .i64 (A.length:Nat),iC .i64 ((A.length+M.length:Nat):Int),jG] [(1000,eD (A++M++Z))] .any [(1000,eD (A++eC cP M++Z))]:=by
 generalize hR:A++eC cP M++Z=R
 generalize hb:A.length+M.length=b
 simp only[aai]at hl
 refine cp func358 ntmps358 ?_
 (refine w0 ?_)
 refine ci (X:=Nat×List Snt×List Snt) (λx=>A.length<x.1/\x.1<=b+1/\A.length+x.2.1.length=min x.1 b/\A.length+x.2.1.length+x.2.2.length=b/\m7 x.2.1/\m7 x.2.2/\A++x.2.2.foldl (lq cP) x.2.1++Z=R)
  (λx=>aF [(0,.row 1000 0),(1,iC .i64 (A.length:Nat)),(2,iC .i64 (b:Nat)),(3,jG),(8,iC .i64 (x.1:Nat))] [(1000,eD (A++x.2.1++(x.2.2++Z)))]) (λx=>b+1-x.1) (A.length+1,M.take 1,M.drop 1) ?_ ?_ ?_
 ·refine⟨aL,aL,by grind,by grind,λx h=>hk x (abC h),λx h=>hk x (List.mem_of_mem_drop h),?_⟩
  rw[<-hR]
  cases M with
  | nil=>rfl
  | cons x M=>rfl
 ·have e:A++M.take 1++(M.drop 1++Z)=A++M++Z:=by rw[aal,<-aal (M.take 1),aa0,aal]
  rw[e]
  exact ab
 ·rintro⟨i,p,q⟩ ⟨h1,h2,h3,h4,hkp,hkq,h5⟩
  simp only at h1 h2 h3 h4 hkp hkq h5 ⊢
  by_cases hlt:i<b
  ·obtain⟨x,q,rfl⟩:∃x q',q=x::q':=by cases q<;>grind
   have hip:A.length+p.length=i:=ae
   clear h3
   have hkx:=hkq x aA
   simp only[aaD,List.foldl_cons]at h4 h5
   (repeat' (first|refine oq ?_|(refine dW rfl rfl ⟨λhc=>?_,λhc=>?_⟩<;>(repeat rw[aad]at hc)<;>(try exact cj hc))|((first|refine dX rfl rfl rfl ⟨λhc=>?_,λhc=>?_⟩|refine dY rfl rfl rfl ⟨λhc=>?_,λhc=>?_⟩)<;>(fail_if_success (have q:(true=true):=hc))<;>(fail_if_success (have q:(false=false):=hc))<;>(repeat rw[aad]at hc)<;>(try exact cj hc))|refine aQ rfl rfl (λhc=>?_) ?_))
   refine ci (X:=List Snt×List Snt) (λy=>y.1.length+y.2.length=p.length/\m7 y.1/\m7 y.2/\mw cP x y.1.reverse y.2=lq cP p x)
    (λy=>aF [(0,.row 1000 0),(1,iC .i64 (A.length:Nat)),(2,iC .i64 (b:Nat)),(3,jG),(8,iC .i64 (i:Nat)),(9,iC .i64 ((A.length+y.1.length:Nat):Int))] [(1000,eD (A++y.1++x::(y.2++(q++Z))))]) (λy=>y.1.length) (p,[]) ⟨aA,hkp,λx h=>by simp at h,rfl⟩ ?_ ?_
   ·subst hip
    exact ab
   ·rintro⟨p1,p2⟩ ⟨g1,gk1,gk2,g2⟩
    simp only at g1 gk1 gk2 g2 ⊢
    have out:lq cP p x=p1++x::p2->(∃z:Nat×List Snt×List Snt,(A.length<z.1/\z.1<=b+1/\A.length+z.2.1.length=min z.1 b/\A.length+z.2.1.length+z.2.2.length=b/\m7 z.2.1/\m7 z.2.2/\A++z.2.2.foldl (lq cP) z.2.1++Z=R)/\z=(i+1,p1++x::p2,q)):=λe=>by
     refine⟨_,⟨aL,aL,bD,bD,λy hy=>?_,λy hy=>hkq y (by simp[hy]),by rw[<-e];exact h5⟩,rfl⟩
     rcases aaS.1 hy with h|h
     ·exact gk1 y h
     ·rcases aaU.1 h with h|h
      ·subst h;exact hkx
      ·exact gk2 y h
    have hL0:A++p1++x::(p2++(q++Z))=A++(p1++x::p2)++(q++Z):=aA
    rcases gl p1 with rfl|⟨p1',y,rfl⟩
    ·have e:lq cP p x=[]++x::p2:=by rw[<-g2];rfl
     obtain⟨z,hz,rfl⟩:=out e
     rw[hL0]
     (refine w0 ?_;repeat' first|apply aw|refine ah λhc=>?_)
     refine⟨_,hz,aL,?_⟩
     exact ab
    ·obtain⟨j,hj⟩:∃j,A.length+p1'.length=j:=⟨_,rfl⟩
     have hj1:A.length+(p1'++[y]).length=j+1:=bD
     have hky:=gk1 y aA
     have hm:=td x y hkx hky
     generalize hL:A++(p1'++[y])++x::(p2++(q++Z))=L at *
     have hlen:j+1<L.length:=by rw[<-hL];simp;omega
     have HJ:(L.map sntP)[j+1]?=some (sntP x):=by rw[List.getElem?_map,<-hL,List.getElem?_append_right bD,aai,hj1,Nat.sub_self];rfl
     have HJ1:(L.map sntP)[j]?=some (sntP y):=by
      rw[List.getElem?_map,<-hL,aal,aal,List.getElem?_append_right ae,List.getElem?_append_right ae]
      rw[show j-A.length-p1'.length=0 by omega];rfl
     rw[hj1]
     have hrev:(p1'++[y]).reverse=y::p1'.reverse:=aA
     rw[hrev,mw]at g2
     have HS1:(L.map sntP).set (j+1) (cN (sntP x) 0 (sntP y))=(L.set (j+1) y).map sntP:=by rw[<-cO];rfl
     have HJ2:((L.set (j+1) y).map sntP)[j]?=some (sntP y):=by rw[<-cO,List.getElem?_set_ne ae];exact HJ1
     have HS2:((L.set (j+1) y).map sntP).set j (cN (sntP y) 0 (sntP x))=(A++p1'++x::((y::p2)++(q++Z))).map sntP:=by
      rw[cO sntP (L.set (j+1) y) j x |>.symm.trans rfl |> λh=>(show((L.set (j+1) y).map sntP).set j (cN (sntP y) 0 (sntP x))=((L.set (j+1) y).set j x).map sntP from cO sntP _ j x)]
      rw[<-hL,gk (A++(p1'++[y])) x y _ (j+1) bD,show A++(p1'++[y])++y::(p2++(q++Z))=(A++p1')++y::(y::(p2++(q++Z)))by simp,gk (A++p1') y x _ j bD]
      simp
     by_cases hxy:vj x y<0
     ·rw[aae (show cP x y=true from aao hxy)]at g2
      clear out
      (refine w0 ?_;repeat' first|apply aw|refine ah λhc=>?_|((first|apply aH rfl|apply cB rfl|apply aJ rfl|apply cC rfl);(focus (try apply ag rfl rfl rfl rfl rfl);first|((apply bn 5;(focus rfl);first|exact aD ⟨rfl,rfl,rfl⟩ rfl aS aS rfl rfl rfl HJ rfl rfl rfl|exact aD ⟨rfl,rfl,rfl⟩ rfl aS aS rfl rfl rfl HJ1 rfl rfl rfl))|((apply bn 6;(focus rfl);first|exact aW ⟨rfl,rfl⟩ rfl aS rfl rfl rfl rfl HJ rfl (.inl rfl) rfl HS1|exact aW ⟨rfl,rfl⟩ rfl aS rfl rfl rfl rfl HJ2 rfl (.inl rfl) rfl HS2))|(exact Nk [] hm));refine w0 ?_))
      refine⟨(p1',y::p2),⟨by simp at g1 ⊢;omega,λz h=>gk1 z (by simp[h]),λz h=>?_,g2⟩,aA,?_⟩
      ·rcases aaU.1 h with h|h
       ·subst h;exact hky
       ·exact gk2 z h
      ·simp only[hj]
       exact ab
     ·rw[aab (show ¬cP x y=true by grind[cP])]at g2
      have e:lq cP p x=(p1'++[y])++x::p2:=by rw[<-g2];simp
      obtain⟨z,hz,rfl⟩:=out e
      (refine w0 ?_;repeat' first|apply aw|refine ah λhc=>?_|((first|apply aH rfl|apply aJ rfl);(focus (try apply ag rfl rfl rfl rfl rfl);first|((apply bn 5;(focus rfl);first|exact aD ⟨rfl,rfl,rfl⟩ rfl aS aS rfl rfl rfl HJ rfl rfl rfl|exact aD ⟨rfl,rfl,rfl⟩ rfl aS aS rfl rfl rfl HJ1 rfl rfl rfl))|(exact Nk [] hm));refine w0 ?_))
      refine⟨_,hz,aL,?_⟩
      simp only
      rw[<-hL0]
      exact ab
  ·have hq:q=[]:=aax ae
   subst hq
   simp only[List.foldl_nil]at h5
   (refine w0 ?_;refine ah λhc=>?_)
   rw[aaE,h5]
   exact kJ
def jH (R:List Rg)(hs:Int->Int->Bool)(x:It):Int:=(if cz R x.key then 0 else 2)+(if hs x.rep x.cnt then 1 else 0)
theorem L9 (R:List Rg)(hs:Int->Int->Bool)(x:It):0<=jH R hs x/\jH R hs x<=3:=by grind[jH]
def tE (R:List Rg)(hs:Int->Int->Bool)(x:It):Snt:=(x,jH R hs x)
def g8 (R:List Rg)(hs:Int->Int->Bool)(l:List It):List It:=(eC cP (l.map (tE R hs))).map Prod.fst
theorem XZ {R:List Rg}{hs:Int->Int->Bool}(hk:n8 l):m7 (l.map (tE R hs)):=λx hx=>by
 obtain⟨y,hy,rfl⟩:=List.mem_map.1 hx
 have:=L9 R hs y
 exact⟨hk y hy,this.1,this.2⟩
theorem Rp (R:List Rg)(hR:bT R)(hl:R.length<=1000000)(th:PV)(hs:Int->Int->Bool)(x:It)(hk:x.key.size<=1000000000)
 (hH:Fn prog 350 [.per th,vb x.rep x.cnt] (dE (hs x.rep x.cnt))):Fn prog 334 [.per (gd R),.per th,vq x] (eA (jH R hs x)):=by
 have h1:=sS R x.key hR ae hk
 unfold jH
 generalize cz R x.key=a at *
 generalize hs x.rep x.cnt=c at *
 cases a<;>cases c
 all_goals
  refine fi func334 ntmps334 ?_
  (refine bt h1 hH ?_;repeat' first|apply aw|refine ah λhc=>?_)
  refine dr ?_
  exact aq rfl aA
theorem Rq (R:List Rg)(hR:bT R)(hRl:R.length<=1000000)(th:PV)(hs:Int->Int->Bool)(hH:∀r c,Fn prog 350 [.per th,vb r c] (dE (hs r c)))(l:List It)(hk:n8 l)(hl:l.length<=1000000)
 (h3:bZ prog 335 [.row 1000 0,jG] [(1000,eD (l.map (tE R hs)))] .any [(1000,eD (eC cP (l.map (tE R hs))))]) :
 Fn prog 314 [cU R,.per th,eS l] (Ic (g8 R hs l)):=by
 have h1:=(sW R hR ae).frz
 have h2:∀x∈l,Fn prog 334 [.per (gd R),.per th,vq x] (eA (jH R hs x)):=λx hx=>Rp R hR hRl th hs x (hk x hx) (hH _ _)
 have hQl:(eC cP (l.map (tE R hs))).length=l.length:=by rw[lu,aad]
 unfold g8
 generalize eC cP (l.map (tE R hs))=Q at *
 clear hH hRl hR
 refine fi func314 ntmps314 ?_
 (refine au h1 ?_)
 refine bw (bS 7 600 388 8 rfl rfl) ?_
 refine aj (X:=Nat) (λk=>k<=l.length)
  (λk=>aF [(0,.per (gd R)),(1,.per th),(7,.row 600 0),(15,eS l),(16,iC .i64 (l.length:Nat)),(17,iC .i64 (k:Nat))] [(600,eD ((l.take k).map (tE R hs)))]) (λk=>l.length-k) 0 (aag _) ?_
 rintro k g1
 by_cases hlt:k<l.length
 ·have h4:=h2 l[k] (aar hlt)
  have ht:((l.take (k+1)).map (tE R hs)).map sntP=((l.take k).map (tE R hs)).map sntP++[sntP (tE R hs l[k])]:=by rw[List.take_succ_eq_append_getElem hlt,List.map_append,List.map_append];rfl
  have htl:((l.take k).map (tE R hs)).length<=1000000:=by rw[aad,aaK];omega
  generalize (l.take k).map (tE R hs)=A at *
  generalize hB:(l.take (k+1)).map (tE R hs)=B at *
  clear h1 h2 h3
  (refine au h4 ?_;refine ah λhc=>?_)
  refine⟨k+1,ae,ae,az (aU 600 601) (az (aU 601 600) ?_)⟩
  show Le _ _ (aF _ [(600,eD ((l.take (k+1)).map (tE R hs)))])
  rw[hB]
  unfold eD
  rw[ht]
  exact ab
 ·obtain rfl:k=l.length:=ae
  rw[aa9]
  clear h1 h2
  (refine ee (gn [(1000,600)] h3) ?_;refine ah λhc=>?_)
  refine bw (bS 10 700 79 7 rfl rfl) ?_
  refine aj (X:=Nat) (λk=>k<=Q.length)
   (λk=>aF [(10,.row 700 0),(33,.row 600 0),(34,iC .i64 (Q.length:Nat)),(35,iC .i64 (k:Nat))] [(600,eD Q),(700,gz ((Q.take k).map Prod.fst))]) (λk=>Q.length-k) 0 (aag _) ?_
  rintro k g1
  by_cases hlt:k<Q.length
  ·have ht:((Q.take (k+1)).map Prod.fst).map itP=((Q.take k).map Prod.fst).map itP++[itP Q[k].1]:=by rw[List.take_succ_eq_append_getElem hlt,List.map_append,List.map_append];rfl
   have htl:((Q.take k).map Prod.fst).length<=1000000:=by rw[aad,aaK];omega
   have HQ:(Q.map sntP)[k]?=some (sntP Q[k]):=by rw[List.getElem?_map,aaa hlt];rfl
   generalize (Q.take k).map Prod.fst=A at *
   generalize hB:(Q.take (k+1)).map Prod.fst=B at *
   generalize Q[k]=q at *
   clear h3
   (refine w0 ?_;repeat' first|apply aw|refine ah λhc=>?_|((first|apply aH rfl|apply aJ rfl);(focus (try apply ag rfl rfl rfl rfl rfl);((apply bn 5;(focus rfl);exact aD ⟨rfl,rfl,rfl⟩ rfl aS aS rfl rfl rfl HQ rfl rfl rfl)));refine w0 ?_))
   refine⟨k+1,ae,ae,az (aU 700 701) (az (aU 701 700) ?_)⟩
   show Le _ _ (aF _ [_,(700,gz ((Q.take (k+1)).map Prod.fst))])
   rw[hB]
   unfold gz
   rw[ht]
   exact ab
  ·obtain rfl:k=Q.length:=ae
   rw[aa9]
   clear h3
   (refine w0 ?_;refine ah λhc=>?_)
   exact dr (cJ rfl rfl rfl rfl)
theorem Ma (R:List Rg)(hR:R.length<=1000000000)(bs:List Bool)(pr sd:Int)(hs:Int->Int->Bool)(x:It)(hk:x.key.size<=1000000000)
 (hH:0<bs.length->Fn prog 319 [.per (qy bs pr sd),vb x.rep x.cnt] (dE (hs x.rep x.cnt))) (h0:bs.length=0->hs x.rep x.cnt=false) :
 Fn prog 274 [cU R,.per (qy bs pr sd),vq x] (eA (jH R hs x)):=by
 have h1:=ly R x.key hR hk
 unfold jH
 generalize cz R x.key=a at *
 generalize hs x.rep x.cnt=c at *
 by_cases hb:0<bs.length
 ·replace hH:=hH hb
  clear h0
  cases a<;>cases c
  all_goals
   refine fi func274 ntmps274 ?_
   (refine bt h1 hH ?_;repeat' first|apply aw|refine ah λhc=>?_)
   refine dr ?_
   exact aq rfl aA
 ·rw[h0 ae]
  clear hH
  cases a
  all_goals
   refine fi func274 ntmps274 ?_
   (refine au h1 ?_;repeat' first|apply aw|refine ah λhc=>?_)
   refine dr ?_
   exact aq rfl aA
theorem Mb (R:List Rg)(bs:List Bool)(pr sd:Int)(hs:Int->Int->Bool)(x y:It)(hk:x.key.size<=1000000000)
 (h1:Fn prog 274 [cU R,.per (qy bs pr sd),vq x] (eA (jH R hs x))) (h2:Fn prog 274 [cU R,.per (qy bs pr sd),vq y] (eA (jH R hs y))) :
 Fn prog 245 [cU R,.per (qy bs pr sd),vq x,vq y] (dE (cP (tE R hs x) (tE R hs y))):=by
 have h3:=kf x.key y.key ae
 have hE:cP (tE R hs x) (tE R hs y)=(if x.prio≠y.prio then decide (x.prio>y.prio)else if jH R hs x≠jH R hs y then decide (jH R hs x<jH R hs y)else decide (cG x.key y.key<0)):=by grind[cP,vj,tE]
 rw[hE]
 generalize jH R hs x=cx at *
 generalize jH R hs y=cy at *
 generalize decide (cG x.key y.key<0)=d at *
 refine fi func245 ntmps245 ?_
 (refine fF h1 h2 h3 ?_;repeat' first|apply aw|refine ah λhc=>?_)
 ·rw[aae (by assumption)]
  exact dz
 ·rw[aab ae,aae (by assumption)]
  exact dz
 ·rw[aab ae,aab ae]
  exact dz
theorem Fg {α β:Type}{lt:β->β->Bool}{f:α->β}(x:α):∀(l r:List α),mw lt (f x) (l.map f) (r.map f)=(mw (λx y=>lt (f x) (f y)) x l r).map f
 | [],r=>by simp[mw]
 | y::l,r=>by
  have ih:=Fg (lt:=lt) (f:=f) x l (y::r)
  rw[List.map_cons]at ih
  rw[List.map_cons,mw,mw]
  split
  ·exact ih
  ·simp
theorem Rr {α β:Type}{lt:β->β->Bool}{f:α->β}(l:List α):eC lt (l.map f)=(eC (λx y=>lt (f x) (f y)) l).map f:=by
 unfold eC
 have:∀(l p:List α),List.foldl (lq lt) (p.map f) (l.map f)=(List.foldl (lq λx y=>lt (f x) (f y)) p l).map f:=by
  intro l
  induction l with
  | nil=>intro p;rfl
  | cons x l ih=>
   intro p
   rw[List.map_cons,List.foldl_cons,List.foldl_cons,<-ih]
   congr 1
   unfold lq
   rw[<-List.map_reverse]
   exact Fg x _ []
 exact this l []
abbrev Kb (R:List Rg)(hs:Int->Int->Bool)(x y:It):Bool:=cP (tE R hs x) (tE R hs y)
theorem yw (R:List Rg)(hs:Int->Int->Bool)(l:List It):g8 R hs l=eC (Kb R hs) l:=by
 unfold g8
 rw[Rr,List.map_map]
 exact List.map_id _
theorem X0 (R:List Rg)(hs:Int->Int->Bool):vy (Kb R hs):=⟨λ_=>ey.irr _,λ_ _ _=>ey.tr _ _ _,λ_ _ _=>ey.ntr _ _ _⟩
theorem uF (R:List Rg)(hs:Int->Int->Bool)(l:List It):(g8 R hs l).length=l.length:=by rw[yw,lu]
section
variable {P:Program} {n t:Nat} {ops:Array Oper} {o:Oper} {S:St}
end
theorem Rs (R:List Rg)(bs:List Bool)(pr sd:Int)(hs:Int->Int->Bool)(l:List It)(hl:l.length<=1000000)
 (hAh:∀x∈l,∀y∈l,Fn prog 245 [cU R,.per (qy bs pr sd),vq x,vq y] (dE (cP (tE R hs x) (tE R hs y)))) :
 Fn prog 178 [cU R,.per (qy bs pr sd),eS l] (.per (cX (g8 R hs l))):=by
 have hm:∀k,∀y∈eC (Kb R hs) (l.take k),y∈l:=λk y hy=>abC ((sG (X0 R hs)).1 hy)
 have hlen:∀k,(eC (Kb R hs) (l.take k)).length<=l.length:=λk=>by rw[lu,aaK];omega
 have hstep:∀k (h:k<l.length),eC (Kb R hs) (l.take (k+1))=lq (Kb R hs) (eC (Kb R hs) (l.take k)) l[k]:=λk h=>by grind[eC,List.take_succ_eq_append_getElem]
 rw[yw]
 refine fi func178 ntmps178 ?_
 (refine w0 ?_)
 refine bw (bS 7 600 79 7 rfl rfl) (bw (iW 600 _ 79 7 rfl rfl) ?_)
 refine aj (X:=Nat) (λk=>k<=l.length)
  (λk=>aF [(0,cU R),(2,eS l),(4,.ptr 4 0 0),(7,.per (cX (eC (Kb R hs) (l.take k)))),(8,iC .i64 (k:Nat))] [(4,.box 155 [.per (cn 1 (bs.map boolP)),iC .i64 pr,iC .u64 sd])]) (λk=>l.length-k) 0 (aag _) ?_
 rintro k hk
 by_cases hlt:k<l.length
 ·have hst:=hstep k hlt
  have hmk:=hm k
  have hlk:=hlen k
  have hxm:=aar hlt
  generalize eC (Kb R hs) (l.take k)=O at *
  clear hm hlen hstep
  (repeat' (first|refine oq ?_|(refine dW rfl rfl ⟨λhc=>?_,λhc=>?_⟩<;>(repeat rw[aad]at hc)<;>(try exact cj hc))|((first|refine dX rfl rfl rfl ⟨λhc=>?_,λhc=>?_⟩|refine dY rfl rfl rfl ⟨λhc=>?_,λhc=>?_⟩)<;>(fail_if_success (have q:(true=true):=hc))<;>(fail_if_success (have q:(false=false):=hc))<;>(repeat rw[aad]at hc)<;>(try exact cj hc))|refine aQ rfl rfl (λhc=>?_) ?_))
  refine aj (X:=List It×List It) (λp=>p.1++p.2=O/\mw (Kb R hs) l[k] p.1.reverse p.2=lq (Kb R hs) O l[k])
   (λp=>aF [(0,cU R),(2,eS l),(4,.ptr 4 0 0),(7,.per (cX O)),(8,iC .i64 (k:Nat)),(9,iC .i64 (p.1.length:Nat))] [(4,.box 155 [.per (cn 1 (bs.map boolP)),iC .i64 pr,iC .u64 sd])]) (λp=>p.1.length) (O,[]) ⟨aA,rfl⟩ ?_
  rintro⟨p1,p2⟩ ⟨q1,q2⟩
  simp only at q1 q2 ⊢
  have hfin:lq (Kb R hs) O l[k]=p1++l[k]::p2->Cnt.per (cn 7 ((([]:List (List PV))++(O.take p1.length).map itP)++[itP l[k]]++(O.drop p1.length).map itP))=.per (cX (eC (Kb R hs) (l.take (k+1)))):=λh=>by
   rw[hst,h,<-q1]
   simp[cX]
  have hpl:p1.length<=O.length:=by rw[<-q1,aai];omega
  rcases gl p1 with rfl|⟨p1',y,rfl⟩
  ·have hf:=hfin (by rw[<-q2];rfl)
   clear hfin hAh
   (refine w0 ?_;refine ah λhc=>?_)
   refine aV (bS 37 601 79 7 rfl rfl) ?_
   (refine w0 ?_)
   refine⟨k+1,ae,ae,az (iW 601 _ 79 7 rfl rfl) ?_⟩
   refine kA ?_ ?_
   ·((repeat (first|exact gp.nil|(refine gp.cons ?_ ?_;rotate_left)));(all_goals try (first|rfl|(refine Gj ?_;first|omega|(simp;done)|(simp;omega))|(refine qw ?_;first|(simp;done)|(simp[*];done)))))
    exact hf
   ·((repeat (first|exact gq.nil|(refine gq.cons ?_ ?_;rotate_left)));(all_goals try (first|rfl|(refine nq ?_;(rw[List.map_append]<;>rfl);done)|(refine kB ?_;(rw[List.map_append]<;>rfl);done))))
  ·obtain⟨j,hj⟩:∃j,p1'.length=j:=⟨_,rfl⟩
   have hj1:(p1'++[y]).length=j+1:=bD
   have hyl:=hmk y (by rw[<-q1];simp)
   have hm:=hAh l[k] hxm y hyl
   have HJ:(O.map itP)[j]?=some (itP y):=by rw[List.getElem?_map,<-q1,aal,List.getElem?_append_right ae,hj,Nat.sub_self];rfl
   rw[hj1]at hfin hpl
   rw[hj1]
   have hrev:(p1'++[y]).reverse=y::p1'.reverse:=aA
   rw[hrev,mw]at q2
   by_cases hxy:Kb R hs l[k] y=true
   ·rw[aae hxy]at q2
    have hxy':cP (tE R hs l[k]) (tE R hs y)=true:=hxy
    rw[hxy']at hm
    clear hfin hAh
    (repeat' (first|((first|apply aH rfl|apply cB rfl|apply aJ rfl|apply cC rfl);focus (first|((apply bn 12;(focus rfl);exact jh ⟨rfl,rfl,rfl⟩ rfl aS aS rfl rfl rfl rfl HJ))|(apply gR;(focus rfl);apply ag rfl rfl rfl rfl rfl;((apply bn 12;(focus rfl);exact jh ⟨rfl,rfl,rfl⟩ rfl aS aS rfl rfl rfl rfl HJ)))))|refine oq ?_|refine bW cI ?_|(refine dW rfl rfl ⟨λhc=>?_,λhc=>?_⟩<;>(repeat rw[aad]at hc)<;>(try exact cj hc))|((first|apply aH rfl|apply cB rfl|apply aJ rfl|apply cC rfl);focus (first|exact nS (hm)))|((first|refine dX rfl rfl rfl ⟨λhc=>?_,λhc=>?_⟩|refine dY rfl rfl rfl ⟨λhc=>?_,λhc=>?_⟩)<;>(fail_if_success (have q:(true=true):=hc))<;>(fail_if_success (have q:(false=false):=hc))<;>(repeat rw[aad]at hc)<;>(try exact cj hc))|refine aQ rfl rfl (λhc=>?_) ?_))
    refine⟨(p1',y::p2),⟨by grind,q2⟩,aL,?_⟩
    simp only[hj]
    exact ab
   ·rw[aab hxy]at q2
    have hxy':cP (tE R hs l[k]) (tE R hs y)=false:=by simpa using hxy
    rw[hxy']at hm
    have hf:=hfin (by rw[<-q2];simp)
    clear hfin hAh
    (repeat' (first|((first|apply aH rfl|apply cB rfl|apply aJ rfl|apply cC rfl);focus (first|((apply bn 12;(focus rfl);exact jh ⟨rfl,rfl,rfl⟩ rfl aS aS rfl rfl rfl rfl HJ))|(apply gR;(focus rfl);apply ag rfl rfl rfl rfl rfl;((apply bn 12;(focus rfl);exact jh ⟨rfl,rfl,rfl⟩ rfl aS aS rfl rfl rfl rfl HJ)))))|refine oq ?_|refine bW cI ?_|(refine dW rfl rfl ⟨λhc=>?_,λhc=>?_⟩<;>(repeat rw[aad]at hc)<;>(try exact cj hc))|((first|apply aH rfl|apply cB rfl|apply aJ rfl|apply cC rfl);focus (first|exact nS (hm)))|((first|refine dX rfl rfl rfl ⟨λhc=>?_,λhc=>?_⟩|refine dY rfl rfl rfl ⟨λhc=>?_,λhc=>?_⟩)<;>(fail_if_success (have q:(true=true):=hc))<;>(fail_if_success (have q:(false=false):=hc))<;>(repeat rw[aad]at hc)<;>(try exact cj hc))|refine aQ rfl rfl (λhc=>?_) ?_))
    refine aV (bS 37 601 79 7 rfl rfl) ?_
    (refine w0 ?_)
    refine⟨k+1,ae,ae,az (iW 601 _ 79 7 rfl rfl) ?_⟩
    refine kA ?_ ?_
    ·((repeat (first|exact gp.nil|(refine gp.cons ?_ ?_;rotate_left)));(all_goals try (first|rfl|(refine Gj ?_;first|omega|(simp;done)|(simp;omega))|(refine qw ?_;first|(simp;done)|(simp[*];done)))))
     exact hf
    ·((repeat (first|exact gq.nil|(refine gq.cons ?_ ?_;rotate_left)));(all_goals try (first|rfl|(refine nq ?_;(rw[List.map_append]<;>rfl);done)|(refine kB ?_;(rw[List.map_append]<;>rfl);done))))
 ·obtain rfl:k=l.length:=ae
  rw[aa9]
  (refine w0 ?_;refine ah λhc=>?_)
  exact Nj
def jd (l:List It):Nat:=(l.map λx=>(z8 x).length).sum
theorem ry (l:List It)(x:It):jd (l++[x])=jd l+(z8 x).length:=by simp[jd]
theorem Rt (l:List It):jd l<=200*l.length:=by
 induction l with
 | nil=>simp[jd]
 | cons x l ih=>have:=BO x;simp only[jd,List.map_cons,List.sum_cons,aaD]at ih ⊢;omega
structure Spl where
 D:List (List It)
 c:Option (List It)
 left:Int
def wd (x:It):Int:=(z8 x).length
def rz (limit:Int)(s:Spl)(x:It):Spl:=match s.c with
 | none=>⟨s.D,some [x],limit-wd x⟩
 | some c=>if wd x>s.left then⟨s.D++[c],some [x],limit-wd x⟩else⟨s.D,some (c++[x]),s.left-wd x⟩
def mA (limit:Int)(l:List It):Spl:=l.foldl (rz limit) ⟨[],none,-1⟩
def yx (limit:Int)(x:It):Prop:=dA x=true/\wd x<=limit
def yz (limit:Int)(l:List It)(k:Nat)(s:Spl):St:=match s.c with
 | none=>aF [(0,iC .i64 limit),(6,.row 600 0),(7,iC .i64 s.left),(12,eS l),(13,iC .i64 (l.length:Nat)),(14,iC .i64 (k:Nat))] [(600,.row 23 1 [])]
 | some c=>aF [(0,iC .i64 limit),(6,.row 600 0),(7,iC .i64 s.left),(12,eS l),(13,iC .i64 (l.length:Nat)),(14,iC .i64 (k:Nat))] [(600,.mix 23 (s.D.map cX) (.row 601 0)),(601,.row 79 7 (c.map itP))]
theorem AU (limit:Int)(l:List It)(k:Nat)(h:k<l.length):mA limit (l.take (k+1))=rz limit (mA limit (l.take k)) l[k]:=by grind[mA,bp]
theorem Ru {limit left:Int}{D:List (List It)}{c:List It}{x:It}(h:((z8 x).length:Int)>left):rz limit ⟨D,some c,left⟩ x=⟨D++[c],some [x],limit-wd x⟩:=by simp[rz,wd,h]
theorem Kc {limit left:Int}{D:List (List It)}{c:List It}{x:It}(h:¬((z8 x).length:Int)>left):rz limit ⟨D,some c,left⟩ x=⟨D,some (c++[x]),left-wd x⟩:=by simp[rz,wd,h]
structure X1 (limit:Int)(k:Nat)(s:Spl):Prop where
 left1:-1<=s.left
 left2:s.left<=9223372036854775807
 none1:s.c=none->s.left = -1/\s.D=[]
 len:s.D.length+(s.c.map List.length).getD 0<=k
 ne:∀c,s.c=some c->1<=c.length
theorem Vl (limit:Int)(l:List It)(h1:limit<=9223372036854775807)(hall:∀x∈l,yx limit x):X1 limit l.length (mA limit l):=by
 have key:∀(m:List It)(s:Spl)(k:Nat),(∀x∈m,yx limit x)->X1 limit k s->X1 limit (k+m.length) (m.foldl (rz limit) s):=by
  intro m
  induction m with
  | nil=>intro s k _ h;exact h
  | cons x m ih=>
   intro s k hm h
   rw[List.foldl_cons,aaD,show k+(m.length+1)=(k+1)+m.length by omega]
   refine ih _ _ (λy hy=>hm y (by simp[hy])) ?_
   obtain⟨hx1,hx2⟩:=hm x aA
   have hn:0<=wd x:=Int.natCast_nonneg _
   obtain⟨q1,q2,q3,q4,q5⟩:=h
   unfold rz
   split
   ·rename_i hc
    have:=q3 hc
    exact⟨aL,aL,aA,by rw[hc]at q4;simp at q4 ⊢;omega,aA⟩
   ·rename_i c hc
    rw[hc]at q4
    simp at q4
    have:=q5 c hc
    split
    ·exact⟨aL,aL,aA,bD,aA⟩
    ·exact⟨aL,aL,aA,bD,aA⟩
 have:=key l ⟨[],none,-1⟩ 0 hall ⟨aA,aA,λ_=>⟨rfl,rfl⟩,aA,aA⟩
 simpa[mA]using this
theorem yA {P:Program}{n:Nat}{fn:Func}{S S':St}{r:Ret}(h:Le n S S')(k:oG P n fn S' r):oG P n fn S r:=λC a w hL hR=>k C a w hL (h C a w hR)
def jC (limit:Int):List It->Int
 | []=>0
 | x::r=>if dA x=false then 2 else if wd x>limit then 12 else jC limit r
def uG (limit:Int)(l:List It):List (List It):=
 if jC limit l=0 then(match(mA limit l).c with|none=>[[]]|some c=>(mA limit l).D++[c])else []
theorem Cz (limit:Int)(l:List It):∃m,m<=l.length/\(∀x∈l.take m,yx limit x)/\(∀h:m<l.length,(dA l[m]=false/\jC limit l=2)\/(dA l[m]=true/\wd l[m]>limit/\jC limit l=12))/\(m=l.length->jC limit l=0):=by
 induction l with
 | nil=>exact⟨0,aaf _,aA,λh=>by simp at h,λ_=>rfl⟩
 | cons x r ih=>
  by_cases h1:dA x=false
  ·exact⟨0,aA,aA,λh=>.inl ⟨h1,by simp[jC,h1]⟩,λh=>by simp at h⟩
  by_cases h2:wd x>limit
  ·exact⟨0,aA,aA,λh=>.inr ⟨by simpa using h1,h2,by simp[jC,h1,h2]⟩,λh=>by simp at h⟩
  obtain⟨m,q1,q2,q3,q4⟩:=ih
  have hb:jC limit (x::r)=jC limit r:=by simp[jC,h1,h2]
  rw[hb]
  refine⟨m+1,bD,λy hy=>?_,λh=>q3 (by simpa using h),λh=>q4 (by simpa using h)⟩
  rw[List.take_succ_cons,aaU]at hy
  obtain rfl|hy:=hy
  ·exact⟨by simpa using h1,ae⟩
  ·exact q2 y hy
theorem Fh (limit:Int)(l:List It)(hl:l.length<=1000000000)(h1:-9223372036854775808<=limit)(h2:limit<=9223372036854775807) :
 Fn prog 313 [iC .i64 limit,eS l] (.tup2 (.per (cn 1 ((uG limit l).map λb=>[cX b]))) (.per (ai (.int .i64 (jC limit l))))):=by
 obtain⟨m,hm,hall,hbad,hok⟩:=Cz limit l
 unfold uG
 refine fi func313 ntmps313 ?_
 (refine wH ?_)
 refine bw (bS 6 600 23 1 rfl rfl) ?_
 refine wD m (λk=>yz limit l k (mA limit (l.take k))) ?_ ?_
 ·show Le _ _ (aF _ _)
  exact ab
 ·intro k hk
  have hI:=Vl limit (l.take k) h2 (λx hx=>hall x (abC (by rw[List.take_take,Nat.min_eq_left hk];exact hx)))
  rw[aaK,Nat.min_eq_left (abk hk hm)]at hI
  by_cases hkm:k<m
  ·have hlt:k<l.length:=ae
   have hsn:=AU limit l k hlt
   obtain⟨hx1,hx2⟩:=hall l[k] (by rw[List.mem_take_iff_getElem];exact⟨k,ae,rfl⟩)
   rw[hsn]
   generalize mA limit (l.take k)=s at *
   obtain⟨D,c,left⟩:=s
   obtain⟨i1,i2,i3,i4,i5⟩:=hI
   unfold wd at *
   simp only at i1 i2
   cases c with
   | none=>
    obtain⟨e1,e2⟩:=i3 rfl
    simp only at e1 e2
    subst e1;subst e2
    unfold yz
    simp only
    (have kc1:=eX l[k];have kc2:=dL l[k];refine wS ?_;(repeat' first|apply aw|refine ah λhc=>?_);all_goals clear kc2 kc1)
    refine bw (Ip 600 1 601 23 79 7 (D:=[]) rfl rfl rfl) ?_
    (refine kD (eX l[k]) ?_;repeat' first|apply aw|refine ah λhc=>?_|((first|apply aH rfl|apply cB rfl|apply aJ rfl|apply cC rfl);(focus (try apply ag rfl rfl rfl rfl rfl);first|(exact uB ⟨rfl,rfl,rfl⟩ rfl aS aS rfl rfl rfl rfl (i:=0) (by rfl) (by first|omega|(simp;done)|(simp;omega)|(simp[aX];done)|(simp[aX];omega)))|(exact yl ⟨rfl,rfl,rfl⟩ rfl aS rfl rfl rfl rfl)|(exact uC ⟨rfl,rfl⟩ rfl aS rfl rfl rfl rfl rfl rfl rfl));refine kD (eX l[k]) ?_))
    refine⟨hkm,?_⟩
    show Le _ _ (aF _ _)
    exact ab
   | some c=>
    have i6:=i5 c rfl
    simp at i4
    unfold yz
    simp only
    (have kc1:=eX l[k];have kc2:=dL l[k];refine wS ?_;(repeat' first|apply aw|refine ah λhc=>?_|((first|apply aH rfl|apply aJ rfl);(focus (try apply ag rfl rfl rfl rfl rfl);(exact Cw ⟨rfl,rfl,rfl⟩ rfl aS rfl rfl rfl));refine wS ?_));all_goals clear kc2 kc1)
    ·refine aV (yj 600 0 601 23 rfl rfl rfl rfl) ?_
     (have kc1:=eX l[k];have kc2:=dL l[k];refine wS ?_;all_goals clear kc2 kc1)
     refine bw (Ip 600 1 601 23 79 7 (D:=D.map cX++[cX c]) rfl (by rw[List.map_append];rfl) rfl) ?_
     (refine kD (eX l[k]) ?_;repeat' first|apply aw|refine ah λhc=>?_|((first|apply aH rfl|apply cB rfl|apply aJ rfl|apply cC rfl);(focus (try apply ag rfl rfl rfl rfl rfl);first|(exact uB ⟨rfl,rfl,rfl⟩ rfl aS aS rfl rfl rfl rfl (i:=D.length+1) (by first|omega|(simp;done)|(simp;omega)|(simp[aX];done)|(simp[aX];omega)) (by first|omega|(simp;done)|(simp;omega)|(simp[aX];done)|(simp[aX];omega)))|(exact yl ⟨rfl,rfl,rfl⟩ rfl aS rfl rfl rfl (by first|omega|(simp;done)|(simp;omega)|(simp[aX];done)|(simp[aX];omega)))|(exact uC ⟨rfl,rfl⟩ rfl aS rfl rfl rfl (by first|omega|(simp;done)|(simp;omega)|(simp[aX];done)|(simp[aX];omega)) rfl rfl rfl));refine kD (eX l[k]) ?_))
     refine⟨hkm,?_⟩
     have hsp:rz limit ⟨D,some c,left⟩ l[k]=⟨D++[c],some [l[k]],limit-wd l[k]⟩:=Ru (by assumption)
     rw[hsp]
     show Le _ _ (aF _ _)
     exact ab
    ·(refine kD (eX l[k]) ?_;repeat' first|apply aw|refine ah λhc=>?_|((first|apply aH rfl|apply cB rfl|apply aJ rfl|apply cC rfl);(focus (try apply ag rfl rfl rfl rfl rfl);first|(exact Cw ⟨rfl,rfl,rfl⟩ rfl aS rfl rfl rfl)|(exact uB ⟨rfl,rfl,rfl⟩ rfl aS aS rfl rfl rfl rfl (i:=D.length) (by first|omega|(simp;done)|(simp;omega)|(simp[aX];done)|(simp[aX];omega)) (by first|omega|(simp;done)|(simp;omega)|(simp[aX];done)|(simp[aX];omega)))|(exact yl ⟨rfl,rfl,rfl⟩ rfl aS rfl rfl rfl (by first|omega|(simp;done)|(simp;omega)|(simp[aX];done)|(simp[aX];omega)))|(exact uC ⟨rfl,rfl⟩ rfl aS rfl rfl rfl (by first|omega|(simp;done)|(simp;omega)|(simp[aX];done)|(simp[aX];omega)) rfl rfl rfl));refine kD (eX l[k]) ?_))
     refine⟨hkm,?_⟩
     have hsp:rz limit ⟨D,some c,left⟩ l[k]=⟨D,some (c++[l[k]]),left-wd l[k]⟩:=Kc (by assumption)
     rw[hsp]
     show Le _ _ (aF _ _)
     exact ab
  have hkm:k=m:=ae
  subst hkm
  by_cases hlt:k<l.length
  ·have hb:=hbad hlt
   clear hbad hok hall
   generalize mA limit (l.take k)=s at *
   obtain⟨D,c,left⟩:=s
   obtain⟨i1,i2,i3,i4,i5⟩:=hI
   unfold wd at *
   rcases hb with⟨hb1,hb2⟩|⟨hb1,hb2,hb3⟩
   all_goals
    have hb0:jC limit l≠0:=ae
    rw[aab hb0]
    cases c with
    | none=>
     unfold yz
     simp only
     (refine u3 (eX l[k]) (dL l[k]) ?_;repeat' first|apply aw|refine ah λhc=>?_)
     refine dV ?_ ?_
     ·exact eZ rfl
     ·exact aq rfl ae
    | some c=>
     unfold yz
     simp only
     (refine u3 (eX l[k]) (dL l[k]) ?_;repeat' first|apply aw|refine ah λhc=>?_)
     refine dV ?_ ?_
     ·exact eZ rfl
     ·exact aq rfl ae
  ·have e:l.take k=l:=aaj ae
   have hb0:=hok ae
   rw[hb0,aae rfl]
   have hkl:k=l.length:=ae
   rw[e]at hI ⊢
   clear e
   subst hkl
   clear hbad hok hall hb0
   generalize mA limit l=s at *
   obtain⟨D,c,left⟩:=s
   obtain⟨i1,i2,i3,i4,i5⟩:=hI
   cases c with
   | none=>
    obtain⟨e1,e2⟩:=i3 rfl
    simp only at e1 e2
    subst e1;subst e2
    unfold yz
    simp only
    (refine wH ?_;repeat' first|apply aw|refine ah λhc=>?_)
    refine⟨.inl rfl,yA (Ip 600 1 699 23 79 7 (D:=[]) rfl rfl rfl) (yA (yj 600 1 699 23 rfl rfl rfl rfl) ?_)⟩
    exact Ds rfl (GC rfl rfl rfl) (aq rfl rfl)
   | some c=>
    simp at i4
    unfold yz
    simp only
    (refine wH ?_;repeat' first|apply aw|refine ah λhc=>?_|((first|apply aH rfl|apply aJ rfl);(focus (try apply ag rfl rfl rfl rfl rfl);(exact Cw ⟨rfl,rfl,rfl⟩ rfl aS rfl rfl rfl));refine wH ?_))
    refine⟨.inl rfl,yA (yj 600 0 601 23 rfl rfl rfl rfl) ?_⟩
    exact Ds rfl (GC rfl rfl (nq (by simp[Function.comp_def]))) (aq rfl rfl)
