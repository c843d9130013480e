/- Lemmas, walks. -/
import Derived.Test.YtecdgdoledkdfaaGreatJ28
set_option maxRecDepth 10000
set_option maxHeartbeats 8000000
namespace Go.Proofs.YtecdgdoledkdfaaGreat
open Go.RowKit Go.Proofs.Tryz
theorem VO {N:BP}{w:World}{vs:List Value}{v:Value}(h:(cu (vs.map ai)).p N w v):v=.agg vs.toArray:=by
 obtain⟨us,rfl,hs,hc⟩:=h
 congr 1
 apply Array.ext
 ·simpa using hs
 ·intro i h1 h2
  have hv:vs[i]?=some (vs.toArray[i]):=aA
  obtain⟨y,hy,-,hr⟩:=hc i (ai (vs.toArray[i])) (by rw[List.getElem?_map,hv];rfl)
  have hr:y=vs.toArray[i]:=hr
  have:us[i]?=some us[i]:=by simp[h1]
  rw[this]at hy
  cases hy
  exact hr
theorem Yn {N:BP}{w:World}{v:Value}{x:It}(h:(cu (itP x)).p N w v):v=tC x:=VO (vs:=encIt x) h
theorem MR (seed:Int)(x:It):Fn prog 229 [iC .u64 seed,.per (cu (itP x))] (.per (ai (.int .u64 (eM seed x)))):=by
 refine⟨⟨_,func229,by kernel_rfl,by kernel_rfl⟩,λN0 w vs _ ha=>?_⟩
 obtain⟨v,u,rfl,h1,h2⟩:=sa ha
 obtain rfl:v=.int .u64 seed:=h1
 obtain rfl:u=tC x:=Yn h2
 refine Calls.mono (Mq seed x w) ?_
 rintro e w' ⟨rfl,h⟩
 exact⟨_,rfl,h,rfl⟩
theorem Sq (h n:Int)(h0:0<=h)(h1:h<18446744073709551616):Fn prog 267 [iC .u64 h,iC .i64 n] (.per (ai (.int .u64 (cut h n)))):=by
 refine⟨⟨_,func267,by kernel_rfl,by kernel_rfl⟩,λN0 w vs _ ha=>?_⟩
 obtain⟨v,u,rfl,e1,e2⟩:=sa ha
 obtain rfl:v=.int .u64 h:=e1
 obtain rfl:u=.int .i64 n:=e2
 refine Calls.mono (Vz h n w h0 h1) ?_
 rintro e w' ⟨rfl,rfl⟩
 exact⟨_,rfl,bQ.refl _,rfl⟩
theorem VP (h n:Int)(h0:0<=h)(h1:h<18446744073709551616):Fn prog 315 [iC .u64 h,iC .i64 n] (.per (ai (.int .u64 (cut h n)))):=by
 refine⟨⟨_,func315,by kernel_rfl,by kernel_rfl⟩,λN0 w vs _ ha=>?_⟩
 obtain⟨v,u,rfl,e1,e2⟩:=sa ha
 obtain rfl:v=.int .u64 h:=e1
 obtain rfl:u=.int .i64 n:=e2
 refine Calls.mono (IJ h n w h0 h1) ?_
 rintro e w' ⟨rfl,rfl⟩
 exact⟨_,rfl,bQ.refl _,rfl⟩
theorem Sr (seed:Int)(l:List It):Fn prog 316 [iC .u64 seed,.per (cn 7 (l.map itP))] (.per (ai (.int .u64 (rA seed l)))):=by
 refine⟨⟨_,func316,by kernel_rfl,by kernel_rfl⟩,λN0 w vs _ ha=>?_⟩
 obtain⟨v,u,rfl,h1,h2⟩:=sa ha
 obtain rfl:v=.int .u64 seed:=h1
 refine Calls.mono (Fy seed u l w (wP h2)) ?_
 rintro e w' ⟨rfl,h⟩
 exact⟨_,rfl,h,rfl⟩
def qN (t:Tr)(seed bits:Int):PV:=em [Bc t,ai (.int .u64 seed),ai (.int .i64 bits)]
section
variable {n:Nat} {S:St}
theorem VQ (id off idr e:Nat){u:Value}{cells:List Cnt}(h1:u.oneCell'=true)(h2:u.cells=#[u])(hb:S.blk id=.box e cells)(hc:cells[off]?=some (.per (ai u)))(hne:Nat.beq idr id=false:=by rfl)(hfx:eL idr=false:=by rfl) :
 Le n S (S.app none .any [(id,S.ver id,.box e (cells.set off (.row idr (S.ver idr+1)))),(idr,S.ver idr+1,.obj (qz u h1 h2))]):=by
 rintro C a w ⟨g,hR⟩
 have hne':idr≠id:=λe=>by rw[bc.2 e]at hne;cases hne
 have hvr:∀i,(S.app none .any [(id,S.ver id,.box e (cells.set off (.row idr (S.ver idr+1)))),(idr,S.ver idr+1,.obj (qz u h1 h2))]).ver i=if i=idr then S.ver idr+1 else S.ver i:=by grind[St.app_ver,ub,bc]
 have hst:=ni (v:=u) (t:=idr) hR (bQ.refl w) hvr hfx
 have hrh:(g.mkN idr u).rh idr=u:=aae rfl
 have hid:hst=hst:=rfl
 refine⟨g.mkN idr u,?_⟩
 have key:=hR.appL (g':=g.mkN idr u) (bs:=[(id,S.ver id,.box e (cells.set off (.row idr (S.ver idr+1)))),(idr,S.ver idr+1,.obj (qz u h1 h2))]) (d:=none) (λt h=>by cases h) (c:=.any) (v:=undef)
  (hst.cong ?hcg) trivial ?_
 case hcg=>
  grind[ub,tG]
 ·exact key
 ·intro i v B hu
  rcases Oe hu with⟨rfl,rfl,rfl⟩|⟨rfl,rfl,rfl⟩
  ·have h0:=hst.brep (λb id e=>(hR.dom b id e).1) (id:=i) (λh=>hne' h.symm) (hR.blks i)
   rw[hb]at h0
   obtain⟨cs,q1,q2,q3,q4⟩:=h0
   refine⟨cs,q1,q2,by rw[q3];simp,λj c hj=>?_⟩
   rw[List.getElem?_set]at hj
   split at hj
   ·rename_i e1
    subst e1
    split at hj
    ·cases hj
     obtain⟨y,r1,r2,r3⟩:=q4 off _ hc
     refine⟨y,r1,r2,by rw[hvr,aae rfl];exact aaf _,λ_=>?_⟩
     rw[hrh];exact r3
    ·cases hj
   ·exact q4 j c hj
  ·exact hrh
end
theorem yU (t:Tr)(s b:Int):Fn prog 233 [.per (qN t s b)] (.per (Bc t)):=by
 unfold qN
 refine fi func233 ntmps233 ?_
 (refine w0 ?_;refine ah λhc=>?_)
 exact Nj
def Yo:It:=⟨⟨#[]⟩,0,0,0,0,false,⟨#[]⟩⟩
abbrev aam (x:It):List Cnt:=[sC x.key,iC .i64 x.rep,iC .i64 x.cnt,iC .i64 x.rank,iC .i64 x.prio,bC x.dead,sC x.body]
theorem FR (l:Tr)(x:It)(o:Int)(r:Tr):Bc (.node l x o r)=em (itP x++[Bc l,Bc r,ai (.int .i64 ((Tr.node l x o r).dep:Nat)),ai (.int .i64 ((Tr.node l x o r).siz:Nat)),ai (.int .u64 o),ai (.int .u64 (Tr.node l x o r).tot)]):=by rw[Bc]
def Th:Tr->Nat->It
 | .nil,_=>Yo
 | .node l y _ r,i=>if i<l.siz then Th l i else if l.siz<i then Th r (i-(l.siz+1))else y
theorem VR (t:Tr)(s b i:Int)(hs:t.siz<=1000000):Fn prog 157 [.per (qN t s b),iC .i64 i] (.tup2 (.per (cu (itP (if i<0\/i>=(t.siz:Nat)then Yo else Th t i.toNat)))) (dE (decide (0<=i/\i<(t.siz:Nat))))):=by
 have h1:=yU t s b
 have h2:=lD t
 generalize qN t s b=T at *
 refine fi func157 ntmps157 ?_
 (refine bt h1 h2 ?_;repeat' first|apply aw|refine ah λhc=>?_)
 ·have hD:decide (0<=i/\i<((t.siz:Nat):Int))=false:=aap ae
  rw[aae (show i<0\/i>=((t.siz:Nat):Int)by omega),hD]
  refine dV ?_ ?_
  ·exact Od
  ·exact aP rfl rfl
 ·have hD:decide (0<=i/\i<((t.siz:Nat):Int))=false:=aap ae
  rw[aae (show i<0\/i>=((t.siz:Nat):Int)by omega),hD]
  refine dV ?_ ?_
  ·exact Od
  ·exact aP rfl rfl
 ·have hD:decide (0<=i/\i<((t.siz:Nat):Int))=true:=aao ae
  rw[aab (show ¬(i<0\/i>=((t.siz:Nat):Int))by omega),hD]
  clear h1 h2
  obtain⟨j,rfl⟩:∃j:Nat,i=j:=⟨i.toNat,ae⟩
  rw[Int.toNat_natCast]
  generalize hR:Th t j=R
  refine aj (X:=Tr×Nat) (λu=>u.2<u.1.siz/\u.1.siz<=1000000/\Th u.1 u.2=R) (λu=>aF [(1,iC .i64 (u.2:Nat)),(4,.ptr 4 0 0),(6,.per (Bc u.1))] [(4,.box 79 (aam Yo))]) (λu=>u.1.siz) (t,j) ⟨aL,aL,hR⟩ ?_
  intro u ⟨hj,hb,hu⟩
  obtain⟨u,i⟩:=u
  simp only at hj hb hu ⊢
  cases u with
  | nil=>simp[Tr.siz]at hj
  | node l y p r=>
   have h3:=lD l
   simp only[Th]at hu
   simp only[Tr.siz]at hj hb
   rw[FR]
   (refine au h3 ?_;repeat' first|apply aw|refine ah λhc=>?_|((first|apply aH rfl|apply aJ rfl);(focus (try apply ag rfl rfl rfl rfl rfl);((apply bn 5;(focus rfl);first|exact bJ ⟨rfl,rfl,rfl⟩ rfl aS aS rfl rfl rfl rfl|exact bK ⟨rfl,rfl,rfl⟩ rfl aS aS rfl rfl rfl rfl)));refine au h3 ?_))
   ·rw[aae ae]at hu
    refine⟨(l,i),⟨aL,aL,hu⟩,by grind[Tr.siz],?_⟩
    exact ab
   ·rw[aab ae,aae ae]at hu
    refine⟨(r,i-(l.siz+1)),⟨aL,aL,hu⟩,by grind[Tr.siz],?_⟩
    exact ab
   ·rw[aab ae,aab ae]at hu
    subst hu
    refine dV ?_ ?_
    ·exact Od
    ·exact aP rfl rfl
def eY:Tr->ByteArray->Nat×Int
 | .nil,_=>(0,0)
 | .node l y p r,k=>if cG y.key k<0 then((eY r k).1+(1+l.siz),(eY r k).2+(p+l.tot))else eY l k
theorem nb:∀(t:Tr)(k:ByteArray),(eY t k).1<=t.siz
 | .nil,_=>aaf _
 | .node l y p r,k=>by
  have h1:=nb l k
  have h2:=nb r k
  rw[eY]
  grind[Tr.siz]
theorem py (x:Int):IntKind.u64.wrap x=x % 18446744073709551616:=by simp[IntKind.wrap,IntKind.bits,IntKind.signed]
def Tr.lst:Tr->List It
 | .nil=>[]
 | .node l x _ r=>l.lst++x::r.lst
theorem yV (t:Tr)(s b:Int)(k:ByteArray)(hs:t.siz<=1000000)(hw:∀x∈t.lst,x.key.size<=1000000000):Fn prog 311 [.per (qN t s b),sC k] (.tup2 (eA (((eY t k).1:Nat):Int)) (.per (ai (.int .u64 (IntKind.u64.wrap (eY t k).2))))):=by
 have h1:=yU t s b
 have hM:=nb t k
 generalize hR:eY t k=R at *
 generalize qN t s b=T at *
 refine fi func311 ntmps311 ?_
 (refine au h1 ?_)
 refine aj (X:=Tr×Nat×Int) (λu=>(∀x∈u.1.lst,x.key.size<=1000000000)/\u.2.1+(eY u.1 k).1=R.1/\IntKind.u64.wrap (u.2.2+(eY u.1 k).2)=IntKind.u64.wrap R.2/\IntKind.u64.wrap u.2.2=u.2.2) (λu=>aF [(1,sC k),(4,iC .i64 0),(5,iC .u64 0),(6,iC .i64 (u.2.1:Nat)),(7,iC .u64 u.2.2),(8,.per (Bc u.1))] []) (λu=>u.1.siz) (t,0,0) ⟨hw,by simp[hR],by simp[hR],by simp[py]⟩ ?_
 intro u ⟨hw,e1,e2,e3⟩
 obtain⟨u,m,z⟩:=u
 simp only at e1 e2 e3 hw ⊢
 cases u with
 | nil=>
  simp only[eY,Int.add_zero,abo]at e1 e2
  rw[e3]at e2
  subst e1
  subst e2
  show AW _ _ _ _ (aF [(1,sC k),(4,iC .i64 0),(5,iC .u64 0),(6,iC .i64 (R.1:Nat)),(7,iC .u64 _),(8,.per (ai (.pointer none)))] [])
  (refine w0 ?_;refine ah λhc=>?_)
  refine dV ?_ ?_
  ·exact aq rfl rfl
  ·exact cS rfl
 | node l y p r=>
  have h3:=hY y.key k (by have:=hw y (by simp[Tr.lst]);omega)
  have h4:=lD l
  have h5:=pu l
  simp only[eY]at e1 e2
  rw[FR]
  by_cases c1:cG y.key k<0
  ·rw[aae c1]at e1 e2
   simp only at e1 e2
   have e4:(m:Int)+(1+(l.siz:Nat))=((m+(1+l.siz):Nat):Int):=ae
   (refine mM e4 h3 h4 h5 ?_;repeat' first|apply aw|refine ah λhc=>?_)
   refine⟨(r,m+(1+l.siz),IntKind.u64.wrap (z+IntKind.u64.wrap (p+l.tot))),⟨λx hx=>hw x (by simp[Tr.lst,hx]),aL,?_,by grind[py]⟩,by grind[Tr.siz],?_⟩
   ·rw[<-e2]
    grind[py]
   ·exact ab
  ·rw[aab c1]at e1 e2
   (refine fF h3 h4 h5 ?_;repeat' first|apply aw|refine ah λhc=>?_)
   refine⟨(l,m,z),⟨λx hx=>hw x (by simp[Tr.lst,hx]),e1,e2,e3⟩,by grind[Tr.siz],?_⟩
   exact ab
def FS (t:Tr)(r:Rg):Int×Int:=
 if gg r then(if r.op then(((t.siz:Nat):Int)-(((eY t r.lo).1:Nat):Int),IntKind.u64.wrap (t.tot-IntKind.u64.wrap (eY t r.lo).2))
  else((((eY t r.hi).1:Nat):Int)-(((eY t r.lo).1:Nat):Int),IntKind.u64.wrap (IntKind.u64.wrap (eY t r.hi).2-IntKind.u64.wrap (eY t r.lo).2)))
 else(0,0)
theorem VS (t:Tr)(s b:Int)(r:Rg)(hs:t.siz<=1000000)(hw:∀x∈t.lst,x.key.size<=1000000000):Fn prog 266 [.per (qN t s b),Ab r] (.tup2 (eA (FS t r).1) (.per (ai (.int .u64 (FS t r).2)))):=by
 have h0:=gW r
 have h1:=yU t s b
 have h2:=lD t
 have h3:=pu t
 have h4:=yV t s b r.lo hs hw
 have h5:=yV t s b r.hi hs hw
 have l4:=nb t r.lo
 have l5:=nb t r.hi
 generalize hO:FS t r=O
 unfold FS at hO
 generalize qN t s b=T at *
 obtain⟨lo,hi,op⟩:=r
 simp only at *
 by_cases c:gg ⟨lo,hi,op⟩=true
 ·rw[aae c]at hO
  cases op with
  | true=>
   rw[aae rfl]at hO
   subst hO
   refine fi func266 ntmps266 ?_
   (refine zT h0 h1 h2 h3 h4 ?_;repeat' first|apply aw|refine ah λhc=>?_)
   refine dV ?_ ?_
   ·exact aq rfl rfl
   ·exact cS rfl
  | false=>
   rw[aab aA]at hO
   subst hO
   refine fi func266 ntmps266 ?_
   (refine OQ h0 h1 h2 h3 h4 h5 ?_;repeat' first|apply aw|refine ah λhc=>?_)
   exact dV (aq rfl rfl) (cS rfl)
 ·rw[aab c]at hO
  subst hO
  refine fi func266 ntmps266 ?_
  (refine au h0 ?_;refine ah λhc=>?_)
  exact dV (aq rfl rfl) (cS rfl)
theorem Kz (t:Tr)(r:Rg):0<=(FS t r).2/\(FS t r).2<18446744073709551616:=by grind[FS,py]
theorem Ss (t:Tr)(s b:Int)(r:Rg)(hs:t.siz<=1000000)(hw:∀x∈t.lst,x.key.size<=1000000000):Fn prog 230 [.per (qN t s b),Ab r] (.per (ai (.int .u64 (cut (FS t r).2 b)))):=by
 have h1:=VS t s b r hs hw
 have h2:=Sq (FS t r).2 b (Kz t r).1 (Kz t r).2
 unfold qN at *
 obtain⟨lo,hi,op⟩:=r
 refine fi func230 ntmps230 ?_
 (refine bt h1 h2 ?_;refine ah λhc=>?_)
 exact Nj
theorem Su (s b:Int):bZ prog 150 [iC .u64 s,iC .i64 b] [] (.ptr 3000 0 0) [(3000,.box 296 [.row 3001 0,iC .u64 s,iC .i64 b]),(3001,.obj (qA .nil))]:=by
 refine cp func150 ntmps150 ?_
 (refine w0 ?_)
 refine⟨.inl rfl,pW (VQ 8 0 2000 296 (u:=.pointer none) (cells:=[.per (ai (.pointer none)),iC .u64 s,iC .i64 b]) rfl rfl rfl rfl) ?_⟩
 refine dv [(8,3000),(2000,3001)] rfl rfl ?_ (nd rfl rfl)
 (repeat (first|exact bG.nil|(refine bG.cons rfl ?_ ?_;(focus first|rfl|skip))))
abbrev WL (s b:Int):Blk:=.box 296 [.row 2000 0,iC .u64 s,iC .i64 b]
theorem MS (t:Tr)(s b:Int)(x:It)(hx:dA x=true)(hs:t.siz<=900000)(hkx:x.key.size<=1000000000):bZ prog 152 [.ptr 1000 0 0,vq x] [(1000,WL s b),(2000,.obj (qA t))] (.per (ai (.bool true))) [(1000,WL s b),(2000,.obj (qA (qB t x (eM s x))))]:=by
 have h1:=dL x
 have h2:=MR s x
 have h3:=I6 t x (eM s x) hs hkx
 refine cp func152 ntmps152 ?_
 (refine OO h1 h2 (gn [(2000,2000),(3000,2020)] h3) ?_;refine ah λhc=>?_)
 all_goals
  refine⟨.inl rfl,dv [(1000,1000),(2020,2000)] rfl rfl ?_ (cD rfl rfl)⟩
  (repeat (first|exact bG.nil|(refine bG.cons rfl ?_ ?_;(focus first|rfl|skip))))
end Go.Proofs.YtecdgdoledkdfaaGreat
namespace Go.Proofs.YtecdgdoledkdfaaGreat
open Go.RowKit Go.Proofs.Tryz
def Tr.pl:Tr->List (It×Int)
 | .nil=>[]
 | .node l x o r=>l.pl++(x,o)::r.pl
theorem uQ:∀t:Tr,t.lst=t.pl.map (·.1)
 | .nil=>rfl
 | .node l x o r=>by
  have h1:=uQ l
  have h2:=uQ r
  grind[Tr.lst,Tr.pl]
theorem uR:∀t:Tr,t.siz=t.pl.length
 | .nil=>rfl
 | .node l x o r=>by
  have h1:=uR l
  have h2:=uR r
  grind[Tr.siz,Tr.pl]
theorem Sv (t:Tr):(yR t).pl=t.pl:=by unfold yR;split<;>simp[Tr.pl]
theorem Sw (t:Tr):(yS t).pl=t.pl:=by unfold yS;split<;>simp[Tr.pl]
theorem Sx (l:Tr)(x:It)(o:Int)(r:Tr):(gJ l x o r).pl=l.pl++(x,o)::r.pl:=by grind[gJ,Sv,Tr.pl,Sw]
def FT (l:List (It×Int)):Prop:=l.Pairwise (λa b=>a.1.key<b.1.key)
def zy:List (It×Int)->It->Int->List (It×Int)
 | [],x,o=>[(x,o)]
 | y::l,x,o=>if x.key<y.1.key then(x,o)::y::l else if y.1.key<x.key then y::zy l x o else(x,o)::l
theorem MT (a:List (It×Int))(y:It×Int)(b:List (It×Int))(x:It)(o:Int)(h:x.key<y.1.key):zy (a++y::b) x o=zy a x o++y::b:=by induction a<;>grind[zy]
theorem yW (a:List (It×Int))(b:List (It×Int))(x:It)(o:Int)(h:∀z∈a,z.1.key<x.key):zy (a++b) x o=a++zy b x o:=by induction a<;>grind[zy]
theorem Sz (a:List (It×Int))(x:It)(o:Int)(h:∀z∈a,z.1.key<x.key):zy a x o=a++[(x,o)]:=by
 have:=yW a [] x o h
 rwa [aan]at this
theorem Bd {l r:List (It×Int)}{y:It×Int}(h:FT (l++y::r)):FT l/\FT r/\(∀z∈l,z.1.key<y.1.key)/\(∀z∈r,y.1.key<z.1.key):=by grind[FT,List.pairwise_cons]
theorem I7:∀(t:Tr)(x:It)(o:Int),FT t.pl->(qB t x o).pl=zy t.pl x o
 | .nil,x,o,_=>rfl
 | .node l y p r,x,o,h=>by
  rw[Tr.pl]at h
  obtain⟨hl,hr,hlt,hgt⟩:=Bd h
  have h1:=I7 l x o hl
  have h2:=I7 r x o hr
  rw[qB]
  by_cases c1:cG x.key y.key<0
  all_goals grind[Sx,Tr.pl,MT,iP,yW,zy,Y9]
def MU (l:List (It×Int)):Int:=(l.map (·.2)).sum
theorem CR:∀t:Tr,t.tot % 18446744073709551616=MU t.pl % 18446744073709551616/\IntKind.u64.wrap t.tot=t.tot
 | .nil=>⟨rfl,bP⟩
 | .node l x o r=>by
  have h1:=(CR l).1
  have h2:=(CR r).1
  grind[Tr.tot,Tr.pl,MU,py]
theorem yX:∀(t:Tr)(k:ByteArray),FT t.pl->(eY t k).1=(t.pl.filter (λp=>decide (p.1.key<k))).length/\(eY t k).2 % 18446744073709551616=MU (t.pl.filter (λp=>decide (p.1.key<k))) % 18446744073709551616
 | .nil,_,_=>⟨rfl,rfl⟩
 | .node l y p r,k,h=>by
  rw[Tr.pl]at h
  obtain⟨hl,hr,hlt,hgt⟩:=Bd h
  obtain⟨a1,a2⟩:=yX l k hl
  obtain⟨b1,b2⟩:=yX r k hr
  have t1:=(CR l).1
  rw[eY,Tr.pl,List.filter_append,List.filter_cons]
  by_cases c1:cG y.key k<0
  all_goals grind[iP,List.filter_eq_self,uR,MU,List.filter_eq_nil_iff]
abbrev Yp (l:List It):Blk:=.row 79 7 (l.map itP)
end Go.Proofs.YtecdgdoledkdfaaGreat
namespace Go.Proofs.YtecdgdoledkdfaaGreat
open Go.RowKit Go.Proofs.Tryz
theorem ZE (l:List It)(r:Rg)(hl:l.length<=1000000)(hk:∀x∈l,x.key.size<=1000000000):Fn prog 317 [.per (cX l),Ab r] (.per (cX (l.filter (λx=>ca r x.key)))):=by
 have h2:∀s:ByteArray,s.size<=1000000000->Fn prog 75 [Ab r,sC s] (dE (ca r s)):=λs hs=>qk r s hs
 generalize hT:l.filter (λx=>ca r x.key)=T
 generalize hH:(λs=>ca r s)=H at *
 have hH':∀s,ca r s=H s:=λs=>by rw[<-hH]
 simp only[hH']at h2 hT
 clear hH hH'
 obtain⟨lo,hi,op⟩:=r
 refine fi func317 ntmps317 ?_
 (refine w0 ?_)
 refine bw (bS 5 600 79 7 rfl rfl) ?_
 refine aj (X:=Nat×List It) (λx=>x.1<=l.length/\x.2.length<=x.1/\x.2++(l.drop x.1).filter (λx=>H x.key)=T)
  (λx=>aF [(0,.per (cX l)),(3,.ptr 3 0 0),(5,.row 600 0),(6,iC .i64 (x.1:Nat))] [(3,.box 40 [sC lo,sC hi,bC op]),(600,Yp x.2)]) (λx=>l.length-x.1) (0,[]) ⟨aag _,aaf _,by simpa using hT⟩ ?_
 rintro⟨i,ac⟩ ⟨g1,g0,g2⟩
 simp only at g1 g0 g2 ⊢
 clear hT
 by_cases hlt:i<l.length
 ·have h3:=h2 l[i].key (hk _ (aar hlt))
  rw[List.drop_eq_getElem_cons hlt,List.filter_cons]at g2
  clear h2
  cases hr:H l[i].key with
  | true=>
   rw[hr]at h3 g2
   (refine au h3 ?_;repeat' first|apply aw|refine ah λhc=>?_)
   refine⟨(i+1,ac++[l[i]]),⟨hlt,bD,by simpa using g2⟩,aL,az (aU 600 601) (az (aU 601 600) ?_)⟩
   exact ab
  | false=>
   rw[hr]at h3 g2
   (refine au h3 ?_;repeat' first|apply aw|refine ah λhc=>?_)
   refine⟨(i+1,ac),⟨hlt,aL,by simpa using g2⟩,aL,?_⟩
   exact ab
 ·obtain rfl:i=l.length:=ae
  rw[aba]at g2
  simp at g2
  subst g2
  clear h2
  (refine w0 ?_;refine ah λhc=>?_)
  refine⟨.inl rfl,lQ (iW 600 _ 79 7 rfl rfl) (KS rfl (cS rfl))⟩
theorem tz (s:Int)(l:List It):0<=rA s l/\rA s l<18446744073709551616:=by
 rcases List.eq_nil_or_concat l with rfl|⟨l',x,rfl⟩
 ·exact⟨aby 0,(by decide:(0:Int)<18446744073709551616)⟩
 simp_all[uK,lm,xB]
theorem Yq (l:List It)(r:Rg)(s b:Int)(hl:l.length<=1000000)(hk:∀x∈l,x.key.size<=1000000000):Fn prog 271 [.per (cX l),Ab r,iC .u64 s,iC .i64 b] (.per (ai (.int .u64 (cut (rA s (l.filter (λx=>ca r x.key))) b)))):=by
 have h1:=ZE l r hl hk
 generalize l.filter (λx=>ca r x.key)=T at *
 have h2:=Sr s T
 have h3:=VP (rA s T) b (tz s T).1 (tz s T).2
 obtain⟨lo,hi,op⟩:=r
 refine fi func271 ntmps271 ?_
 (refine fF h1 h2 h3 ?_)
 exact Nj
end Go.Proofs.YtecdgdoledkdfaaGreat
namespace Go.Proofs.YtecdgdoledkdfaaGreat
open Go.RowKit Go.Proofs.Tryz
theorem I8:∀(t:Tr)(i:Nat),i<t.siz->t.lst[i]?=some (Th t i)
 | .nil,i,h=>by simp[Tr.siz]at h
 | .node l y p r,i,h=>by
  have h1:=I8 l i
  have h2:=I8 r (i-(l.siz+1))
  grind[uQ,uR,Th,Tr.lst]
def ZF (s:Int)(t:Tr):Prop:=FT t.pl/\∀p∈t.pl,dA p.1=true/\p.2=eM s p.1
theorem SA {s:Int}{t:Tr}(h:ZF s t):t.pl=t.lst.map (λx=>(x,eM s x)):=by
 rw[uQ,List.map_map]
 refine(List.map_id' _).symm.trans (List.map_congr_left λp hp=>?_)
 rw[Function.comp,<-(h.2 p hp).2]
end Go.Proofs.YtecdgdoledkdfaaGreat
namespace Go.Proofs.YtecdgdoledkdfaaGreat
open Go.RowKit Go.Proofs.Tryz
theorem SB (s:Int)(l:List It):rA s l=(l.map (eM s)).sum % 18446744073709551616:=by
 rw[<-aa6 l]
 induction l.reverse with
 | nil=>rfl
 | cons x l ih=>
  rw[abE,uK,ih,py,List.map_append,List.sum_append]
  grind
theorem FV (s:Int)(lo hi:ByteArray)(h:lo<hi):∀l:List It,
 (l.filter (λx=>decide (x.key<hi))).length=(l.filter (λx=>decide (x.key<lo))).length+(l.filter (λx=>decide (lo<=x.key)&&decide (x.key<hi))).length /\
 ((l.filter (λx=>decide (x.key<hi))).map (eM s)).sum=((l.filter (λx=>decide (x.key<lo))).map (eM s)).sum+((l.filter (λx=>decide (lo<=x.key)&&decide (x.key<hi))).map (eM s)).sum
 | []=>⟨rfl,rfl⟩
 | x::l=>by
  obtain⟨h1,h2⟩:=FV s lo hi h l
  by_cases c1:x.key<lo
  all_goals grind
theorem FW (s:Int)(lo:ByteArray):∀l:List It,
 l.length=(l.filter (λx=>decide (x.key<lo))).length+(l.filter (λx=>decide (lo<=x.key))).length /\
 (l.map (eM s)).sum=((l.filter (λx=>decide (x.key<lo))).map (eM s)).sum+((l.filter (λx=>decide (lo<=x.key))).map (eM s)).sum
 | []=>⟨rfl,rfl⟩
 | x::l=>by
  obtain⟨h1,h2⟩:=FW s lo l
  by_cases c1:x.key<lo
  all_goals grind
theorem Bf {s:Int}{t:Tr}(h:ZF s t)(k:ByteArray):(eY t k).1=(t.lst.filter (λx=>decide (x.key<k))).length/\(eY t k).2 % 18446744073709551616=((t.lst.filter (λx=>decide (x.key<k))).map (eM s)).sum % 18446744073709551616:=by
 obtain⟨h1,h2⟩:=yX t k h.1
 have e:t.pl.filter (λp=>decide (p.1.key<k))=(t.lst.filter (λx=>decide (x.key<k))).map (λx=>(x,eM s x)):=by
  rw[SA h,List.filter_map]
  rfl
 rw[e]at h1 h2
 unfold MU at h2
 rw[List.map_map]at h2
 rw[aad]at h1
 exact⟨h1,h2⟩
theorem VT {s:Int}{t:Tr}(h:ZF s t):t.tot % 18446744073709551616=(t.lst.map (eM s)).sum % 18446744073709551616:=by
 have h1:=(CR t).1
 rw[SA h]at h1
 unfold MU at h1
 rw[List.map_map]at h1
 exact h1
theorem Yr {s:Int}{t:Tr}(h:ZF s t)(r:Rg):(FS t r).1=(((t.lst.filter (λx=>ca r x.key)).length:Nat):Int)/\(FS t r).2=rA s (t.lst.filter (λx=>ca r x.key)):=by
 obtain⟨lo,hi,op⟩:=r
 have hR:=cg ⟨lo,hi,op⟩
 unfold FS ca
 simp only at hR ⊢
 cases hq:gg ⟨lo,hi,op⟩with
 | false=>
  simp only[aa2,aaL,if_false]
  rw[List.filter_eq_nil_iff.2 (λx _=>aA)]
  exact⟨rfl,rfl⟩
 | true=>
  have hR1:=hR.1 hq
  have a:=Bf h lo
  simp only[if_true,aaX]
  rw[SB]
  cases op with
  | true=>
   have b:=FW s lo t.lst
   have c:=VT h
   grind[uQ,uR,py]
  | false=>
   have e:lo<hi:=(iP _ _).1 (by simpa using hR1.2.2)
   have b:=FV s lo hi e t.lst
   have c:=Bf h hi
   grind[py]
end Go.Proofs.YtecdgdoledkdfaaGreat
namespace Go.Proofs.YtecdgdoledkdfaaGreat
open Go.RowKit Go.Proofs.Tryz
abbrev dpP (p:DPt):List PV:=[ai (.int .i64 ((p.fr:Nat):Int)),ai (.int .i64 ((p.to:Nat):Int)),ai (.string p.r.lo),ai (.string p.r.hi),ai (.bool p.r.op)]
abbrev ZG (L:List DPt):Blk:=.row 227 5 (L.map dpP)
abbrev og (t:Tr)(sd b:Int)(L:List DPt)(fd:List Rg)(ak:Int):List (Nat×Blk):=[(1000,.box 140 [.ptr 1001 0 0,.row 2000 0,.row 2001 0,iC .i64 ak]),(1001,.box 296 [.row 2002 0,iC .u64 sd,iC .i64 b]),(2000,ZG L),(2001,.row 40 3 (fd.map rgP)),(2002,.obj (qA t))]
abbrev KA:List (Nat×Nat):=[(1000,1000),(1001,1001),(2000,2000),(2001,2001),(2002,2002)]
abbrev I9 (r:Rg)(s:Int):List PV:=[ai (.string r.lo),ai (.string r.hi),ai (.bool r.op),ai (.int .u64 s)]
theorem SC (t:Tr)(sd b:Int)(fd:List Rg)(ak:Int):bZ prog 153 [.ptr 1000 0 0] (og t sd b [] fd ak) (.tup2 (.per (cu (I9 ⟨⟨#[]⟩,⟨#[]⟩,false⟩ 0))) (.per (ai (.bool false)))) (og t sd b [] fd ak):=by
 refine cp func153 ntmps153 ?_
 (refine rF ?_;refine ah λhc=>?_)
 refine Z0 (KA) ?_ ?_
 ·exact C0
 ·exact cD rfl rfl
theorem FX (t:Tr)(sd b:Int)(L:List DPt)(p:DPt)(fd:List Rg)(ak:Int)(hl:L.length<=1000000)(hs:t.siz<=1000000)(hw:∀x∈t.lst,x.key.size<=1000000000) :
 bZ prog 153 [.ptr 1000 0 0] (og t sd b (L++[p]) fd ak) (.tup2 (.per (cu (I9 p.r (cut (FS t p.r).2 b)))) (.per (ai (.bool true)))) (og t sd b (L++[p]) fd ak):=by
 have c1:=Ss t sd b p.r hs hw
 generalize cut (FS t p.r).2 b=z at c1 ⊢
 have kL1:Hid (((L++[p]).map dpP)[L.length]?=some (dpP p)):=Lib.hid (by rw[List.map_append,List.getElem?_append_right aA];simp)
 have hln:(L++[p]).length=L.length+1:=aA
 generalize L++[p]=Q at *
 have hm:((Q.length:Nat):Int)-1=((L.length:Nat):Int):=ae
 have hlt:L.length<(Q.map dpP).length:=by rw[aad];omega
 refine cp func153 ntmps153 ?_
 (refine eG hm ?_;repeat' first|apply aw|refine ah λhc=>?_|((first|apply aH rfl|apply aJ rfl);(focus (try apply ag rfl rfl rfl rfl rfl);((refine um (ids:=[1001,2002]) (c1) (hg:=?_);((repeat (first|exact jf.nil|(refine jf.cons ?_ ?_;focus (first|exact dj rfl|exact JJ rfl|exact dm rfl rfl rfl (aR _) rfl|(refine dl rfl rfl rfl rfl ?_;(focus (repeat (first|exact cd.nil|(refine cd.cons ?_ ?_;(focus (first|exact cc.per|exact cc.obj rfl rfl (aR _) rfl|exact cc.row rfl rfl rfl)))))))))));done))));refine eG hm ?_))
 all_goals first
  | (exfalso;omega)
  | skip
 refine Z0 (KA) ?_ ?_
 ·exact C0
 ·exact cD rfl rfl
theorem Ja (a b:Nat)(h:a<b)(hb:b<=1000000):Fn prog 156 [iC .i64 (a:Nat),iC .i64 (b:Nat)] (.per (ai (.int .i64 ((a+(b-a) / 2:Nat):Int)))):=by
 have h1:IntKind.u64.wrap ((b:Int)-(a:Int))=((b-a:Nat):Int):=by rw[wrap_u64 ae ae];omega
 have hq:IntKind.u64.wrap ((IntKind.u64.wrap ((b:Int)-(a:Int))).tdiv 2)=(((b-a) / 2:Nat):Int):=by rw[h1,abf ae,wrap_u64 ae ae];omega
 clear h1
 refine fi func156 ntmps156 ?_
 (repeat' (first|((first|apply aH rfl|apply cB rfl|apply aJ rfl|apply cC rfl);focus (first|((apply bn 10;(focus rfl);exact dR ⟨rfl,rfl,rfl⟩ rfl aS aS rfl (by with_reducible exact wrap_u64 ae ae)))|(apply gR;(focus rfl);apply ag rfl rfl rfl rfl rfl;((apply bn 10;(focus rfl);exact dR ⟨rfl,rfl,rfl⟩ rfl aS aS rfl (by with_reducible exact wrap_u64 ae ae))))|((exact kv ⟨rfl,rfl,rfl⟩ rfl rfl rfl bP hq))|(apply gR;(focus rfl);apply ag rfl rfl rfl rfl rfl;((exact kv ⟨rfl,rfl,rfl⟩ rfl rfl rfl bP hq)))))|refine oq ?_|refine bW cI ?_|(refine dW rfl rfl ⟨λhc=>?_,λhc=>?_⟩<;>(repeat rw[aad]at hc)<;>(try exact cj hc))|((first|refine dX rfl rfl rfl ⟨λhc=>?_,λhc=>?_⟩|refine dY rfl rfl rfl ⟨λhc=>?_,λhc=>?_⟩)<;>(fail_if_success (have q:(true=true):=hc))<;>(fail_if_success (have q:(false=false):=hc))<;>(repeat rw[aad]at hc)<;>(try exact cj hc))|refine aQ rfl rfl (λhc=>?_) ?_))
 all_goals first
  | (exfalso;omega)
  | skip
 refine dr ?_
 exact aq rfl ae
def quE (r:Rg)(z:Int):Bool:=(r.lo==⟨#[]⟩&&(r.hi==⟨#[]⟩&&(r.op==false&&true)))&&(z==0&&true)
theorem ZH (r:Rg)(z:Int):Jt prog 10000 228 [.string r.lo,.string r.hi,.bool r.op,.int .u64 z] [.string ⟨#[]⟩,.string ⟨#[]⟩,.bool false,.int .u64 0]=some (quE r z):=by kernel_rfl
theorem quG:prog.eqGuardType prog.depth 228=false:=by kernel_rfl
theorem Ys {r:Rg}(h:r.op=true\/r.lo≠⟨#[]⟩\/r.hi≠⟨#[]⟩)(z:Int):quE r z=false:=by grind[quE,D9]
theorem VU (t:Tr)(sd b:Int)(L O:List DPt)(p:DPt)(fd F:List Rg)(ak:Int)(sm:Bool)(x:It)(hak:0<=ak/\ak<=1000000)(hz:p.r.op=true\/p.r.lo≠⟨#[]⟩\/p.r.hi≠⟨#[]⟩)(hl:L.length<=1000000)(hfl:fd.length<=1000000)(hs:t.siz<=1000000)(hw:∀x∈t.lst,x.key.size<=1000000000)
 (h0:p.fr<=p.to/\p.to<=t.siz) (hO:(sm=true/\O=L/\F=fd)\/(sm=false/\p.to-p.fr<2/\O=L/\F=fd++[p.r])\/(sm=false/\¬p.to-p.fr<2/\O=L++[mO x.key p,ml x.key p]/\F=fd/\Th t (p.fr+(p.to-p.fr) / 2)=x)) :
 bZ prog 79 [.ptr 1000 0 0,bC sm] (og t sd b (L++[p]) fd ak) (.per (ai (.bool true))) (og t sd b O F (ak+1)):=by
 have c1:=FX t sd b L p fd ak hl hs hw
 generalize cut (FS t p.r).2 b=z at c1
 have hE:=ZH p.r z
 rw[Ys hz]at hE
 have kL1:Hid (((L++[p]).map dpP)[L.length]?=some (dpP p)):=Lib.hid (by rw[List.map_append,List.getElem?_append_right aA];simp)
 have hln:(L++[p]).length=L.length+1:=aA
 have hcut:((L++[p]).map dpP).take L.length=L.map dpP:=aA
 generalize L++[p]=Q at *
 have hm:((Q.length:Nat):Int)-1=((L.length:Nat):Int):=ae
 have hlt:L.length<(Q.map dpP).length:=by rw[aad];omega
 have hfo:((p.to:Nat):Int)-((p.fr:Nat):Int)=((p.to-p.fr:Nat):Int):=ae
 rcases hO with⟨rfl,rfl,rfl⟩|⟨rfl,h2,rfl,rfl⟩|⟨rfl,h2,rfl,rfl,hx⟩
 ·refine cp func79 ntmps79 ?_
  (refine eo hm (gn KA c1) ?_;repeat' first|apply aw|refine ah λhc=>?_|((first|apply aH rfl|apply cB rfl|apply aJ rfl|apply cC rfl);(focus (try apply ag rfl rfl rfl rfl rfl);first|(exact ga (us:=[.string p.r.lo,.string p.r.hi,.bool p.r.op,.int .u64 z]) (vs:=[.string ⟨#[]⟩,.string ⟨#[]⟩,.bool false,.int .u64 0]) ⟨rfl,rfl,rfl⟩ rfl rfl rfl (by first|exact .inl ⟨rfl,rfl⟩|exact .inr ⟨rfl,rfl⟩) quG rfl hE)|((exact wc (h:=O.length) ⟨rfl,rfl,rfl⟩ rfl aS aS rfl rfl rfl rfl ⟨rfl,⟨_,_,rfl,rfl⟩,ae,bD⟩ hcut)));refine eo hm (gn KA c1) ?_))
  refine jB (KA) ?_
  exact cD rfl rfl
 ·refine cp func79 ntmps79 ?_
  (refine kT hm hfo (gn KA c1) ?_;repeat' first|apply aw|refine ah λhc=>?_|((first|apply aH rfl|apply cB rfl|apply aJ rfl|apply cC rfl);(focus (try apply ag rfl rfl rfl rfl rfl);first|(exact ga (us:=[.string p.r.lo,.string p.r.hi,.bool p.r.op,.int .u64 z]) (vs:=[.string ⟨#[]⟩,.string ⟨#[]⟩,.bool false,.int .u64 0]) ⟨rfl,rfl,rfl⟩ rfl rfl rfl (by first|exact .inl ⟨rfl,rfl⟩|exact .inr ⟨rfl,rfl⟩) quG rfl hE)|((exact wc (h:=O.length) ⟨rfl,rfl,rfl⟩ rfl aS aS rfl rfl rfl rfl ⟨rfl,⟨_,_,rfl,rfl⟩,ae,bD⟩ hcut)));refine kT hm hfo (gn KA c1) ?_))
  (refine⟨(by first|exact .inl rfl|exact .inr rfl),dv (KA) rfl rfl ?_ ?_⟩;(focus (repeat (first|exact bG.nil|(refine bG.cons rfl ?_ ?_;(focus first|rfl|skip))))))
  ·rw[List.map_append];rfl
  ·(repeat (first|exact bG.nil|(refine bG.cons rfl ?_ ?_;(focus first|rfl|skip))))
  ·exact cD rfl rfl
 ·have c2:=Ja p.fr p.to ae ae
  have c3:=VR t sd b ((p.fr+(p.to-p.fr) / 2:Nat):Int) hs
  rw[aab ae,Int.toNat_natCast,hx]at c3
  generalize decide (0<=((p.fr+(p.to-p.fr) / 2:Nat):Int)/\((p.fr+(p.to-p.fr) / 2:Nat):Int)<(t.siz:Nat))=ok at c3
  refine cp func79 ntmps79 ?_
  (have ke1:=Lib.hid (hm);have ke2:=Lib.hid (hfo);have kc1:=c2;have km1:=(show fK KA _ _ _ _ _ _ from c1);refine rF ?_;(repeat' first|apply aw|refine ah λhc=>?_|((first|apply aH rfl|apply cB rfl|apply aJ rfl|apply cC rfl);(focus (try apply ag rfl rfl rfl rfl rfl);first|((refine um (ids:=[1001,2002]) (c3) (hg:=?_);((repeat (first|exact jf.nil|(refine jf.cons ?_ ?_;focus (first|exact dj rfl|exact JJ rfl|exact dm rfl rfl rfl (aR _) rfl|(refine dl rfl rfl rfl rfl ?_;(focus (repeat (first|exact cd.nil|(refine cd.cons ?_ ?_;(focus (first|exact cc.per|exact cc.obj rfl rfl (aR _) rfl|exact cc.row rfl rfl rfl)))))))))));done)))|(exact ga (us:=[.string p.r.lo,.string p.r.hi,.bool p.r.op,.int .u64 z]) (vs:=[.string ⟨#[]⟩,.string ⟨#[]⟩,.bool false,.int .u64 0]) ⟨rfl,rfl,rfl⟩ rfl rfl rfl (by first|exact .inl ⟨rfl,rfl⟩|exact .inr ⟨rfl,rfl⟩) quG rfl hE)|((exact wc (h:=L.length) ⟨rfl,rfl,rfl⟩ rfl aS aS rfl rfl rfl rfl ⟨rfl,⟨_,_,rfl,rfl⟩,ae,bD⟩ hcut)));refine rF ?_));all_goals clear km1 kc1 ke2 ke1)
  (refine⟨(by first|exact .inl rfl|exact .inr rfl),dv (KA) rfl rfl ?_ ?_⟩;(focus (repeat (first|exact bG.nil|(refine bG.cons rfl ?_ ?_;(focus first|rfl|skip))))))
  ·show _=Blk.row 227 5 ((L++[mO x.key p,ml x.key p]).map dpP);rw[List.map_append];rfl
  ·(repeat (first|exact bG.nil|(refine bG.cons rfl ?_ ?_;(focus first|rfl|skip))))
  ·exact cD rfl rfl
theorem SD (t:Tr)(sd b:Int)(st:List DPt)(fd:List Rg)(ak:Int):bZ prog 36 [.ptr 1000 0 0] (og t sd b st fd ak) (iC .i64 ak) (og t sd b st fd ak):=by
 refine cp func36 ntmps36 ?_
 (refine rF ?_;refine ah λhc=>?_)
 refine jB (KA) ?_
 exact bh rfl rfl
end Go.Proofs.YtecdgdoledkdfaaGreat
namespace Go.Proofs.YtecdgdoledkdfaaGreat
open Go.RowKit Go.Proofs.Tryz
abbrev S0:List Kn:=[⟨1,[⟨1,1⟩]⟩]
abbrev K1:List Pc:=[⟨⟨emB,emB,true⟩,S0⟩]
def qC (l:List Rg):List Pc:=l.map λr=>⟨r,S0⟩
def Gn (F:ByteArray->Bool):List ByteArray->Option ByteArray->List Rg
 | [],none=>[]
 | [],some lo=>[⟨lo,emB,true⟩]
 | e::E,none=>if F e then Gn F E (some e)else Gn F E none
 | e::E,some lo=>if F e then Gn F E (some lo)else⟨lo,e,false⟩::Gn F E none
theorem VV (f:ByteArray->List Kn):∀(E:List ByteArray),∀p∈el f E,p.rg.lo∈E:=by
 intro E
 induction E with
 | nil=>grind[el]
 | cons e E ih=>
  intro p hp
  rw[el]at hp
  rcases aaS.1 hp with q|q
  ·split at q
   ·simp at q
   ·simp at q;subst q;cases E<;>simp[ip]
  grind
theorem VW (F:ByteArray->Bool)(f:ByteArray->List Kn)(hf:∀s,f s=if F s then S0 else []):∀E:List ByteArray,Az E ->
 ju (el f E)=qC (Gn F E none)/\∀lo,vZ ⟨ip lo E,S0⟩ (el f E)=qC (Gn F E (some lo)):=by
 intro E
 induction E with
 | nil=>intro _;exact⟨rfl,λlo=>rfl⟩
 | cons e E ih=>
  intro hu
  obtain⟨u1,u2⟩:=List.pairwise_cons.1 hu
  obtain⟨h1,h2⟩:=ih u2
  have hE:ip e E=⟨e,(ip e E).hi,(ip e E).op⟩/\∀lo,ip lo E=⟨lo,(ip e E).hi,(ip e E).op⟩:=by cases E<;>exact⟨rfl,λ_=>rfl⟩
  cases hF:F e with
  | true=>
   have hs:el f (e::E)=⟨ip e E,S0⟩::el f E:=by rw[el,hf e,hF];rfl
   rw[hs]
   refine⟨?_,λlo=>?_⟩
   ·rw[ju,Gn,aae hF];exact h2 e
   ·rw[Gn,aae hF,vZ,aae (by rw[hE.1];simp[vz,ip])]
    show vZ ⟨⟨lo,(ip e E).hi,(ip e E).op⟩,S0⟩ (el f E)=_
    rw[<-hE.2 lo];exact h2 lo
  | false=>
   have hs:el f (e::E)=el f E:=by rw[el,hf e,hF];rfl
   rw[hs]
   refine⟨?_,λlo=>?_⟩
   ·rw[Gn,aab (by simp[hF])];exact h1
   ·rw[Gn,aab (by simp[hF])]
    show _=⟨⟨lo,e,false⟩,S0⟩::qC (Gn F E none)
    rw[<-h1]
    have hl:=VV f E
    cases hq:el f E with
    | nil=>rfl
    | cons p l=>
     have:=u1 p.rg.lo (hl p (by rw[hq];simp))
     rw[vZ,aab (by simp[vz,ip];intro q;grind)]
     rfl
theorem WM (s:ByteArray):mz K1 s=S0:=by
 have h:ca ⟨emB,emB,true⟩ s=true:=(db bP s).2 ⟨HZ s,.inl rfl⟩
 show gQ ofR ((if ca ⟨emB,emB,true⟩ s then S0 else [])++[])=S0
 rw[aae h]
 exact nM (by decide +kernel)
theorem SE:∀(m:List Rg)(s:ByteArray),eI (qC m) s=if cz m s then S0 else []:=by
 intro m s
 induction m with
 | nil=>rfl
 | cons r m ih=>
  rw[show qC (r::m)=⟨r,S0⟩::qC m from rfl,eI,ih]
  simp only[cz,List.any_cons]
  by_cases q:ca r s=true<;>simp[q]
theorem VX:∀{m:List Rg},bT m->aY (qC m):=by
 intro m h i hi hi'
 have hl:(qC m).length=m.length:=by simp[qC]
 have hg:∀j (q:j<(qC m).length),(qC m)[j]=⟨m[j]'(ae),S0⟩:=λj q=>by simp[qC]
 obtain⟨h1,h2⟩:=h i ae
 rw[hg i hi]
 refine⟨h1,aA,(show ck S0 by decide +kernel),λh0=>?_⟩
 rw[hg (i-1) ae]
 obtain⟨h3,h4⟩:=h2 h0
 exact⟨h3,Int.le_of_lt h4,λq=>absurd ((sP _ _).2 q.1) (Int.ne_of_lt h4)⟩
theorem yY {l m:List Rg}(h:bT m)(ha:∀s,cz m s=cz l s):qC m=cW K1 l:=
 nL (VX h) (lz K1 l).1 λs=>by rw[(lz K1 l).2,lL,WM,SE,ha]
theorem FY {l m:List Rg}(h:qC l=qC m):l=m:=by
 have:=aaA (List.map Pc.rg) h
 simpa[qC,Function.comp_def]using this
theorem SF {l m:List Rg}(h1:bT l)(h2:bT m)(h:∀s,cz l s=cz m s):l=m:=FY ((yY h1 h).trans (yY h2 λ_=>rfl).symm)
theorem SG (l:List Rg):Gn (cz l) (js [emB] l) none=mx l:=by
 have h:=(VW (cz l) (lL K1 l) (λs=>by rw[lL,WM]) (js [emB] l) (Cb l _ (by simp[Az]))).1
 have e:m3 K1 l=js [emB] l:=rfl
 refine FY ?_
 rw[<-h,yY (mX l).1 (mX l).2,cW,e]
 rfl
theorem SH (C:List Rg)(x:Rg):((C++[x]).map rgP)[C.length]?=some (rgP x):=aA
theorem KB (C:List Rg){x y:Rg}{A:List PV}(h:A=rgP y):((C++[x]).map rgP).set C.length A=(C++[y]).map rgP:=by
 subst h
 simp
def yZ:Option ByteArray->List Rg
 | none=>[]
 | some lo=>[⟨lo,emB,true⟩]
theorem Yt (l:List Rg)(s:ByteArray)(hl:l.length<=1000000000)(hs:s.size<=1000000000):Fn prog 318 [iC .i64 1,cU l,cU [],sC s] (dE (cz l s)):=by
 have a1:=ly l s hl hs
 have a2:=ly [] s aA hs
 rw[show cz [] s=false from rfl]at a2
 generalize cz l s=x at *
 refine fi func318 ntmps318 ?_
 (have kf1:=a1;have kf2:=a2;refine rF ?_;(repeat' first|apply aw|refine ah λhc=>?_);all_goals clear kf2 kf1)
 all_goals
  refine dr ?_
  refine aP rfl ?_
  cases x<;>first|rfl|contradiction|simp_all
theorem SI (l:List Rg)(hl:l.length<=100000)(hz:∀r∈l,r.lo.size<=1000000000/\r.hi.size<=1000000000):Fn prog 272 [iC .i64 1,cU l,cU []] (.own 40 3 ((mx l).map rgP)):=by
 have a1:=AM l [] ae aA
 rw[aan]at a1
 rw[<-SG]
 have hel:=lw l [emB]
 have hsz:∀e∈js [emB] l,e.size<=1000000000:=λe he=>by
  rcases(jt l [emB] e).1 he with q|⟨r,hr,q⟩
  ·rw[abI.1 q];decide
  ·have:=hz r hr
   rcases q.2 with e|⟨_,e⟩<;>rw[e]<;>omega
 have hin:∀e∈js [emB] l,Fn prog 318 [iC .i64 1,cU l,cU [],sC e] (dE (cz l e)):=λe he=>Yt l e ae (hsz e he)
 generalize cz l=F at *
 generalize js [emB] l=E at *
 simp only[abx]at hel
 clear hsz
 generalize hR:Gn F E none=R
 refine fi func272 ntmps272 ?_
 (refine oW a1 ?_)
 clear a1
 refine bw (bS 8 700 40 3 rfl rfl) ?_
 refine aj (X:=Nat×List Rg×Option ByteArray) (λx=>x.1<=E.length/\x.2.1.length<=x.1/\(x.2.1++yZ x.2.2).length<=x.1/\x.2.1++Gn F (E.drop x.1) x.2.2=R)
  (λx=>aF [(0,iC .i64 1),(1,cU l),(2,cU []),(7,.per (Zk E)),(8,.row 700 0),(9,bC x.2.2.isSome),(10,iC .i64 (x.1:Nat))] [(700,.row 40 3 ((x.2.1++yZ x.2.2).map rgP))]) (λx=>E.length-x.1) (0,[],none) ⟨aag _,aaf _,aaf _,by simpa using hR⟩ ?_
 rintro⟨i,C,o⟩ ⟨h1,h2,h3,h4⟩
 simp only at h1 h2 h3 h4 ⊢
 by_cases hi:i<E.length
 ·have c1:=hin E[i] (aar hi)
  rw[List.drop_eq_getElem_cons hi]at h4
  clear hin hR
  cases o with
  | none=>
   rw[show yZ none=[]from rfl,aan]at h3 ⊢
   rw[Gn]at h4
   cases hF:F E[i]with
   | true=>
    rw[hF]at c1
    rw[aae hF]at h4
    (refine oW c1 ?_;repeat' first|apply aw|refine ah λhc=>?_)
    refine⟨(i+1,C,some E[i]),⟨hi,aL,by simp[yZ];omega,h4⟩,aL,az (aU 700 701) (az (aU 701 700) ?_)⟩
    exact ab
   | false=>
    rw[hF]at c1
    rw[aab (by simp[hF])]at h4
    (refine oW c1 ?_;repeat' first|apply aw|refine ah λhc=>?_)
    refine⟨(i+1,C,none),⟨hi,aL,by simp[yZ];omega,h4⟩,aL,?_⟩
    rw[show yZ none=[]from rfl,aan]
    exact ab
  | some lo=>
   rw[show yZ (some lo)=[⟨lo,emB,true⟩]from rfl]at h3 ⊢
   rw[Gn]at h4
   cases hF:F E[i]with
   | true=>
    rw[hF]at c1
    rw[aae hF]at h4
    (refine oW c1 ?_;repeat' first|apply aw|refine ah λhc=>?_)
    refine⟨(i+1,C,some lo),⟨hi,aL,by grind[yZ],h4⟩,aL,?_⟩
    exact ab
   | false=>
    rw[hF]at c1
    rw[aab (by simp[hF])]at h4
    have kL1:=Lib.hid (SH C ⟨lo,emB,true⟩)
    have kS1:=Lib.hid (KB C (x:=⟨lo,emB,true⟩) (y:=⟨lo,E[i],true⟩) (A:=cN (rgP ⟨lo,emB,true⟩) 1 [ai (.string E[i])]) rfl)
    have kL2:=Lib.hid (SH C ⟨lo,E[i],true⟩)
    have kS2:=Lib.hid (KB C (x:=⟨lo,E[i],true⟩) (y:=⟨lo,E[i],false⟩) (A:=cN (rgP ⟨lo,E[i],true⟩) 2 [ai (.bool false)]) rfl)
    have n1:(C++[(⟨lo,emB,true⟩:Rg)]).length=C.length+1:=aA
    have n2:(C++[(⟨lo,E[i],true⟩:Rg)]).length=C.length+1:=aA
    generalize hQ:C++[(⟨lo,emB,true⟩:Rg)]=Q at *
    generalize hQ1:C++[(⟨lo,E[i],true⟩:Rg)]=Q1 at *
    have hm:((Q.length:Nat):Int)-1=((C.length:Nat):Int):=ae
    have hm1:((Q1.length:Nat):Int)-1=((C.length:Nat):Int):=ae
    have hlt:C.length<(Q.map rgP).length:=by rw[aad];omega
    have hlt1:C.length<(Q1.map rgP).length:=by rw[aad];omega
    clear hQ hQ1
    (have ke1:=Lib.hid (hm);have ke2:=Lib.hid (hm1);have kc1:=c1;refine rF ?_;(repeat' first|apply aw|refine ah λhc=>?_);all_goals clear kc1 ke2 ke1)
    refine⟨(i+1,C++[⟨lo,E[i],false⟩],none),⟨hi,bD,by simp[yZ];omega,by grind⟩,aL,?_⟩
    rw[show yZ none=[]from rfl,aan]
    exact ab
 ·have hx:E.drop i=[]:=aay ae
  rw[hx]at h4
  have hRo:C++yZ o=R:=by
   rw[<-h4]
   cases o<;>rfl
  rw[hRo]
  clear hin h4 h3 hR
  (refine rF ?_;refine ah λhc=>?_)
  exact oo
theorem Yu (l:List Rg)(hl:l.length<=100000)(hz:∀r∈l,r.lo.size<=1000000000/\r.hi.size<=1000000000):Fn prog 243 [cU l] (pn (mx l)):=by
 have a1:=SI l hl hz
 generalize mx l=R at *
 refine fi func243 ntmps243 ?_
 (have ko1:=a1;refine rF ?_;all_goals clear ko1)
 exact oo
theorem MV (l:List Rg)(s:ByteArray):cz (l.filter gg) s=cz l s:=by grind[cz,ca]
theorem VY (l:List Rg)(hl:l.length<=1000000000)(hs:∀r∈l,r.lo.size<=1000000000000):Fn prog 126 [cU l] (pn (mx l)):=by
 have hs':∀r∈l.filter gg,r.lo.size<=1000000000000:=λr q=>hs r (abt.1 q).1
 obtain⟨h1,h2⟩:=yq hs'
 have hr:∀x∈vi (l.filter gg),gg x=true:=λx q=>(abt.1 (h1.mem_iff.1 q)).2
 have hl':(l.filter gg).length<=l.length:=List.length_filter_le _ _
 have:=J5 l _ (E8 _ hs' ae) h1.length_eq hr h2 hl
 obtain⟨q1,q2⟩:=xR hr h2
 rwa [SF q1 (mX l).1 (λs=>by rw[q2,(mX l).2,<-MV l];exact h1.any_eq)]at this
end Go.Proofs.YtecdgdoledkdfaaGreat
namespace Go.Proofs.YtecdgdoledkdfaaGreat
open Go.RowKit Go.Proofs.Tryz
def fJ (sd:Int)(l:List It):Tr:=l.foldl (λt x=>qB t x (eM sd x)) .nil
theorem rC (sd:Int)(l:List It)(x:It):fJ sd (l++[x])=qB (fJ sd l) x (eM sd x):=by simp[fJ]
theorem VZ (sd:Int):∀l:List It,l.Pairwise (λx y=>x.key<y.key)->(fJ sd l).pl=l.map λx=>(x,eM sd x):=by
 intro l
 rw[<-aa6 l]
 induction l.reverse with
 | nil=>intro _;rfl
 | cons x l ih=>
  intro h
  rw[abE]at h ⊢
  obtain⟨h1,_,h3⟩:=List.pairwise_append.1 h
  have e:=ih h1
  have hs:FT (fJ sd l.reverse).pl:=by rw[e];exact List.pairwise_map.2 h1
  rw[rC,I7 _ _ _ hs,e,Sz _ _ _ (λz hz=>by grind)]
  simp
theorem KC (sd:Int){l:List It}(hr:l.all dA=true)(h:l.Pairwise λx y=>x.key<y.key):ZF sd (fJ sd l)/\(fJ sd l).lst=l/\(fJ sd l).siz=l.length:=by
 have e:=VZ sd l h
 refine⟨⟨?_,λp hp=>?_⟩,?_,?_⟩
 ·rw[e];exact List.pairwise_map.2 h
 ·rw[e]at hp
  grind
 ·rw[uQ,e,List.map_map];exact List.map_id _
 grind[uR]
theorem SJ (sd:Int):∀l:List It,(fJ sd l).siz<=l.length:=by
 intro l
 rw[<-aa6 l]
 induction l.reverse with
 | nil=>exact aaf _
 | cons x l ih=>
  rw[abE,rC]
  have:=pw (fJ sd l.reverse) x (eM sd x)
  simp at *
  omega
structure DsS where
 t:Tr
 sd:Int
 b:Int
 L:List DPt
 fd:List Rg
 ak:Int
abbrev WN (t:Tr)(sd b:Int)(n:Nat):List (Nat×Blk):=[(3000,.box 140 [.ptr 3001 0 0,.row 3002 0,.row 3003 0,iC .i64 0]),(3001,.box 296 [.row 3004 0,iC .u64 sd,iC .i64 b]),(3002,ZG [⟨0,n,⟨emB,emB,true⟩⟩]),(3003,.row 40 3 []),(3004,.obj (qA t))]
abbrev Z7:Option DsS->Cnt
 | none=>.per (ai (.pointer none))
 | some _=>.ptr 1000 0 0
abbrev vo:Option DsS->List (Nat×Blk)
 | none=>[]
 | some d=>og d.t d.sd d.b d.L d.fd d.ak
abbrev YK:Option DsS->List DPt
 | none=>[]
 | some d=>d.L
abbrev WO:Option DsS->List Rg
 | none=>[]
 | some d=>mx d.fd
abbrev dnK:Option DsS->Int
 | none=>0
 | some d=>d.ak
theorem SK:Fn prog 151 [] (.per (cu (rgP ⟨emB,emB,true⟩))):=by
 refine fi func151 ntmps151 ?_
 (refine w0 ?_)
 refine dr ?_
 exact Od
theorem Yv (l:List It)(sd b:Int)(hr:l.all dA=true)(hl:l.length<=100000)(hkey:∀x∈l,x.key.size<=1000000000)(h1:Fn prog 56 [eS l] (dE true)) :
 bZ prog 77 [.per (cX l),iC .u64 sd,iC .i64 b] [] (.tup2 (.ptr 3000 0 0) (iC .i64 0)) (WN (fJ sd l) sd b l.length):=by
 have c0:=SK
 have c3:=Su sd b
 refine cp func77 ntmps77 ?_
 (repeat' (first|((first|apply aH rfl|apply cB rfl|apply aJ rfl|apply cC rfl);focus (first|((apply bn 15;(focus rfl);solve|(apply b0<;>first|exact⟨rfl,rfl,rfl⟩|rfl|infer_instance|(repeat (first|exact bH.nil|(apply bH.cons;(focus (first|exact bd rfl rfl rfl|exact dc rfl|exact dd rfl))))))))|(apply gR;(focus rfl);apply ag rfl rfl rfl rfl rfl;((apply bn 15;(focus rfl);solve|(apply b0<;>first|exact⟨rfl,rfl,rfl⟩|rfl|infer_instance|(repeat (first|exact bH.nil|(apply bH.cons;(focus (first|exact bd rfl rfl rfl|exact dc rfl|exact dd rfl)))))))))))|refine oq ?_|refine bW cI ?_|(refine dW rfl rfl ⟨λhc=>?_,λhc=>?_⟩<;>(repeat rw[aad]at hc)<;>(try exact cj hc))|((first|apply aH rfl|apply cB rfl|apply aJ rfl|apply cC rfl);focus (first|exact nS (c0)|exact nS (h1)|exact Xi [(3000,500),(3001,501)] (c3)))|((first|refine dX rfl rfl rfl ⟨λhc=>?_,λhc=>?_⟩|refine dY rfl rfl rfl ⟨λhc=>?_,λhc=>?_⟩)<;>(fail_if_success (have q:(true=true):=hc))<;>(fail_if_success (have q:(false=false):=hc))<;>(repeat rw[aad]at hc)<;>(try exact cj hc))|refine aQ rfl rfl (λhc=>?_) ?_))
 clear c0 h1 c3
 refine bw (nt 23 2 510 140 40 3 rfl rfl) ?_
 refine aj (X:=Nat) (λi=>i<=l.length) (λi=>aF [(8,.ptr 23 0 0),(24,.per (cX l)),(25,iC .i64 (l.length:Nat)),(26,iC .i64 (i:Nat))] [(23,.box 140 [.ptr 500 0 0,.row 21 0,.row 510 0,iC .i64 0]),(500,.box 296 [.row 501 0,iC .u64 sd,iC .i64 b]),(501,.obj (qA (fJ sd (l.take i)))),(21,ZG [⟨0,l.length,⟨emB,emB,true⟩⟩]),(510,.row 40 3 [])]) (λi=>l.length-i) 0 (aag _) ?_
 intro i h1
 by_cases hi:i<l.length
 ·have hR:=aaH.1 hr _ (aar hi)
  have hsn:fJ sd (l.take (i+1))=qB (fJ sd (l.take i)) l[i] (eM sd l[i]):=by rw[List.take_succ_eq_append_getElem hi,rC]
  have hsz:=SJ sd (l.take i)
  have hln:=List.length_take_le i l
  have c2:=MS (fJ sd (l.take i)) sd b l[i] hR ae (hkey _ (aar hi))
  rw[<-hsn]at c2
  generalize fJ sd (l.take i)=A at *
  generalize hB:fJ sd (l.take (i+1))=B at *
  clear hsn hsz hR
  (refine ee (gn [(1000,500),(2000,501)] c2) ?_;refine ah λhc=>?_)
  refine⟨i+1,ae,ae,?_⟩
  rw[hB]
  exact ab
 ·rw[aaj ae]
  generalize fJ sd l=A
  (refine w0 ?_;refine ah λhc=>?_)
  (refine⟨(by first|exact .inl rfl|exact .inr rfl),rX ([(23,3000),(500,3001),(21,3002),(510,3003),(501,3004)]) rfl rfl ?_ ?_ ?_⟩;(focus (repeat (first|exact bG.nil|(refine bG.cons rfl ?_ ?_;(focus first|rfl|skip))))))
  ·exact nd rfl rfl
  ·exact bh rfl rfl
theorem FZ (d:Option DsS)(h:∀e,d=some e->Fn prog 126 [cU e.fd] (pn (mx e.fd))):bZ prog 231 [Z7 d] (vo d) (.per (gd (WO d))) (vo d):=by
 rcases d with _|⟨t,sd,b,L,fd,ak⟩
 ·refine cp func231 ntmps231 ?_
  (refine w0 ?_;refine ah λhc=>?_)
  refine jB ([]) ?_
  exact fW (bA rfl rfl) ct
 ·have h:=(h _ rfl).frz
  simp only at h
  show bZ prog 231 _ _ (.per (gd (mx fd))) _
  generalize mx fd=R at *
  refine cp func231 ntmps231 ?_
  (refine au h ?_;refine ah λhc=>?_)
  refine jB (KA) ?_
  exact bA rfl rfl
theorem SL (d:Option DsS):bZ prog 36 [Z7 d] (vo d) (iC .i64 (dnK d)) (vo d):=by
 rcases d with _|d
 ·refine cp func36 ntmps36 ?_
  (refine w0 ?_;refine ah λhc=>?_)
  refine jB ([]) ?_
  exact bh rfl rfl
 ·exact SD _ _ _ _ _ _
theorem F0 (d:Option DsS)(h:YK d=[]):bZ prog 153 [Z7 d] (vo d) (.tup2 (.per (cu (I9 ⟨⟨#[]⟩,⟨#[]⟩,false⟩ 0))) (.per (ai (.bool false)))) (vo d):=by
 rcases d with _|⟨t,sd,b,L,fd,ak⟩
 ·refine cp func153 ntmps153 ?_
  (refine w0 ?_;refine ah λhc=>?_)
  refine Z0 ([]) ?_ ?_
  ·exact C0
  ·exact cD rfl rfl
 ·obtain rfl:L=[]:=h
  exact SC _ _ _ _ _
theorem SM (d:Option DsS)(h:YK d=[])(sm:Bool):bZ prog 79 [Z7 d,bC sm] (vo d) (.per (ai (.bool false))) (vo d):=by
 have a1:=F0 d h
 rcases d with _|d
 all_goals
  refine cp func79 ntmps79 ?_
  (refine ee (gn KA a1) ?_;repeat' first|apply aw|refine ah λhc=>?_)
  refine jB (KA) ?_
  exact cD rfl rfl
abbrev WP (x:Srv):List PV:=sY x.s++(ai (.int .i64 x.ses)::ai (.bool true)::(bR x.hello++[ai (.int .i64 x.num)]))
abbrev wl (B:List (List It))(K:List Pc):PV:=em [cn 1 (B.map λc=>[cX c]),ib K]
abbrev nptQ:PV:=ai (.pointer none)
abbrev srC:Option DsS->Cnt
 | none=>.per nptQ
 | some _=>.ptr 2003 0 0
abbrev srE:Option DsS->List (Nat×Blk)
 | none=>[]
 | some d=>[(2003,.box 140 [.ptr 2004 0 0,.row 2000 0,.row 2001 0,iC .i64 d.ak]),(2004,.box 296 [.row 2002 0,iC .u64 d.sd,iC .i64 d.b]),(2000,ZG d.L),(2001,.row 40 3 (d.fd.map rgP)),(2002,.obj (qA d.t))]
abbrev bB (x:Srv)(p:PV)(d:Option DsS):List (Nat×Blk):=(1000,.box 58 ((WP x).map Cnt.per++[srC d,.per p,.per (aK x.rep)]))::srE d
abbrev qO:List (Nat×Nat):=[(1000,1000),(2003,2003),(2004,2004),(2000,2000),(2001,2001),(2002,2002)]
abbrev V0:List (Nat×Nat):=[(1000,2003),(1001,2004),(2000,2000),(2001,2001),(2002,2002)]
theorem V1 (a b c:Int):uN { kind:=6,ses:=a,num:=b,err:=c }:=⟨aA,nP,λp hp=>by simp at hp,aA,aA,aA,λp hp=>by rw[show(mB { kind:=6,ses:=a,num:=b,err:=c }).1=[]from rfl]at hp;simp at hp⟩
theorem uT (a b c:Int):Fn prog 33 [iC .i64 a,iC .i64 b,iC .i64 c] (.per (aK (AZ a b c))):=by
 have a1:Fn prog 15 [.per (cu [ai (.int .i64 6),ai (.int .i64 a),ai (.int .i64 b),dS,dS,dS,dS,ai (.int .i64 c),je,je,je,cA,cA,cA,eP,eP,je,ai (.int .u64 0),cA])] _:=(IR _ (V1 a b c)).arg1 aI
 unfold AZ
 generalize (eV { kind:=6,ses:=a,num:=b,err:=c })=q at *
 refine fi func33 ntmps33 ?_
 (refine au a1 ?_)
 exact Nj
theorem rD (l:List UInt8)(hl:l.length<=1000000000):Fn prog 34 [dw l] (gN l):=by
 by_cases h0:0<l.length
 ·refine fi func34 ntmps34 ?_
  (refine w0 ?_;refine ah λhc=>?_)
  exact oo
 ·obtain rfl:l=[]:=aax ae
  refine fi func34 ntmps34 ?_
  (refine w0 ?_;repeat' first|apply aw|refine ah λhc=>?_)
  ·exact dr (dG rfl)
  ·exact oo
theorem SN (x:Srv)(p:PV)(d:Option DsS)(m:Msg)(hB:uN { m with ses:=x.ses,num:=x.num })(hl:(oz x.ses x.num m).length<=1000000000) :
 bZ prog 154 [.ptr 1000 0 0,zw m] (bB x p d) (.per (aK (oz x.ses x.num m))) (bB { x with rep:=oz x.ses x.num m } p d):=by
 have a1:=IR _ hB
 have a2:=uT x.ses x.num (eV { m with ses:=x.ses,num:=x.num }).2
 have a3:=(rD _ hl).frz
 have e:oz x.ses x.num m=if(eV { m with ses:=x.ses,num:=x.num }).2=0 then(eV { m with ses:=x.ses,num:=x.num }).1 else AZ x.ses x.num (eV { m with ses:=x.ses,num:=x.num }).2:=rfl
 generalize oz x.ses x.num m=R at *
 generalize eV { m with ses:=x.ses,num:=x.num }=q at *
 by_cases c:q.2=0
 ·rw[aae c]at e
  subst e
  rcases d with _|d
  all_goals
   refine cp func154 ntmps154 ?_
   (refine bt a1 a3 ?_;repeat' first|apply aw|refine ah λhc=>?_)
   refine jB (qO) ?_
   exact bA rfl rfl
 ·rw[aab c]at e
  rw[<-e]at a2
  clear e
  rcases d with _|d
  all_goals
   refine cp func154 ntmps154 ?_
   (refine fF a1 a2 a3 ?_;repeat' first|apply aw|refine ah λhc=>?_)
   refine jB (qO) ?_
   exact bA rfl rfl
theorem F3 (x:Srv)(d:Option DsS)(i:Nat)(hi:i<x.bat.length)(hbl:x.bat.length<=1000000000)(hB:uN { tk x.bat x.lrn i with ses:=x.ses,num:=x.num })(hl:(x.batch i).rep.length<=1000000000) :
 bZ prog 80 [.ptr 1000 0 0,iC .i64 (i:Nat)] (bB x (wl x.bat x.lrn) d) (.per (aK (x.batch i).rep)) (bB (x.batch i) (wl x.bat x.lrn) d):=by
 have hg:(x.bat[i]?).getD []=x.bat[i]:=by rw[aaa hi];rfl
 have a1:=SN x (wl x.bat x.lrn) d (tk x.bat x.lrn i) hB hl
 rw[show({ x with rep:=oz x.ses x.num (tk x.bat x.lrn i) }:Srv)=x.batch i from rfl,show oz x.ses x.num (tk x.bat x.lrn i)=(x.batch i).rep from rfl]at a1
 rw[show bB (x.batch i) (wl x.bat x.lrn) d=bB { x with rep:=(x.batch i).rep } (wl x.bat x.lrn) d from rfl]at a1 ⊢
 generalize (x.batch i).rep=R at *
 clear hB hl
 by_cases c:(i:Int)=(x.bat.length:Int)-1
 ·unfold tk at a1
  rw[aae c,hg]at a1
  replace a1:=a1.argsW (As:=[.ptr 1000 0 0,.per (cu [ai (.int .i64 5),dS,dS,dS,dS,dS,ai (.int .i64 (i:Nat)),dS,je,je,ai (.bool true),cA,ib x.lrn,cA,eP,eP,je,ai (.int .u64 0),cX x.bat[i]])]) (.same (.per aI .nil))
  rcases d with _|d
  all_goals
   refine cp func80 ntmps80 ?_
   (refine ee (gn qO a1) ?_;repeat' first|apply aw|refine ah λhc=>?_)
   all_goals first
    | (exfalso;omega)
    | (refine jB (qO) ?_
       exact bA rfl rfl)
 ·unfold tk at a1
  rw[aab c,hg]at a1
  replace a1:=a1.argsW (As:=[.ptr 1000 0 0,.per (cu [ai (.int .i64 5),dS,dS,dS,dS,dS,ai (.int .i64 (i:Nat)),dS,je,je,je,cA,cA,cA,eP,eP,je,ai (.int .u64 0),cX x.bat[i]])]) (.same (.per aI .nil))
  rcases d with _|d
  all_goals
   refine cp func80 ntmps80 ?_
   (refine ee (gn qO a1) ?_;repeat' first|apply aw|refine ah λhc=>?_)
   all_goals first
    | (exfalso;omega)
    | (refine jB (qO) ?_
       exact bA rfl rfl)
