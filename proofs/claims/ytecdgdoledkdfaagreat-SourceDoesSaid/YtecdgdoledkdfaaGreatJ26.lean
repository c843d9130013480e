/- Lemmas, walks. -/
import Derived.Test.YtecdgdoledkdfaaGreatJ25
import Derived.Laws.BitsAllLaws
import Derived.Maps.OwnOps
import Derived.Maps.Views
set_option maxRecDepth 10000
set_option maxHeartbeats 8000000
namespace Go.Proofs.YtecdgdoledkdfaaGreat
open Go.RowKit Go.Proofs.Tryz
structure Srv where
 s:Sta
 ses:Int:=0
 num:Int:=0
 hello:Msg:={}
 ans:List Bool:=[]
 bat:List (List It):=[]
 lrn:List Pc:=[]
 rep:List UInt8:=[]
def AZ (ses num e:Int):List UInt8:=(eV { kind:=6,ses:=ses,num:=num,err:=e }).1
def oz (ses num:Int)(m:Msg):List UInt8:=if(eV { m with ses:=ses,num:=num }).2=0 then(eV { m with ses:=ses,num:=num }).1 else AZ ses num (eV { m with ses:=ses,num:=num }).2
def kr (n:Nat):DPt:=⟨0,n,⟨⟨#[]⟩,⟨#[]⟩,true⟩⟩
def Srv.its (x:Srv):List It:=C3 x.hello.flt x.s.its
def Srv.opn (x:Srv):List DPt:=if x.hello.wants then vN x.its x.ans [kr x.its.length]else []
def Srv.fnd (x:Srv):List Rg:=if x.hello.wants then mx (vO x.its x.ans [kr x.its.length])else []
def tk (B:List (List It))(K:List Pc)(i:Nat):Msg:=
 if(i:Int)=(B.length:Int)-1 then { kind:=5,nxt:=i,its:=(B[i]?).getD [],last:=true,know:=K }else { kind:=5,nxt:=i,its:=(B[i]?).getD [] }
def Srv.batch (x:Srv)(i:Nat):Srv:={ x with rep:=oz x.ses x.num (tk x.bat x.lrn i) }
def Srv.pln (H:List UInt8->Int->Int->Int->Bool)(x:Srv):List (List It)×List Pc×Int:=gA x.s x.hello.flt x.hello.know x.hello.lim x.fnd (H x.hello.there x.hello.seed)
def Srv.first (H:List UInt8->Int->Int->Int->Bool)(x:Srv):Srv:=
 if(x.pln H).2.2=0 then { x with bat:=(x.pln H).1,lrn:=(x.pln H).2.1 }.batch 0 else { x with rep:=AZ x.ses x.num (x.pln H).2.2 }
def Zr (L:List It)(seed bits:Int)(r:Rg):Msg:={ kind:=4,rg:=r,sum:=(cut (rA seed (L.filter λx=>ca r x.key)) bits).toNat }
def Srv.next (H:List UInt8->Int->Int->Int->Bool)(x:Srv):Srv:=
 match x.opn with
 | p::_=>{ x with rep:=oz x.ses x.num (Zr x.its x.hello.seed x.hello.bits p.r) }
 | []=>x.first H
def Srv.told (H:List UInt8->Int->Int->Int->Bool)(x:Srv)(m:Msg)(e:Int):Srv×List UInt8:=
 if e≠0\/m.kind>3\/(m.kind=1/\m.num≠0)\/m.ses<x.ses then(x,[])
 else if m.ses>x.ses then
  (if m.kind=1 then(let y:=({ s:=x.s,ses:=m.ses,hello:=m }:Srv).next H;(y,y.rep))else(x,AZ m.ses m.num 50))
 else if m.num=x.num then(x,x.rep)
 else if m.kind=1 then(x,[])
 else if m.num>x.num+1 then(x,AZ m.ses m.num 50)
 else if m.num≠x.num+1 then(x,[])
 else if m.kind=2 then(match x.opn with
  | _::_=>(let y:={ x with num:=x.num+1,ans:=x.ans++[m.same] }.next H;(y,y.rep))
  | []=>(x,[]))
 else if m.kind=3/\m.nxt<x.bat.length then(let y:={ x with num:=x.num+1 }.batch m.nxt.toNat;(y,y.rep))
 else(x,[])
def Srv.take (H:List UInt8->Int->Int->Int->Bool)(x:Srv)(b:List UInt8):Srv×List UInt8:=x.told H (lW b).1 (lW b).2
theorem IK (a b:ByteArray):a.extract 0 (cT a b)++ny b (cT a b)=b:=by
 have key:∀(l m:List UInt8),l.take (gH l m)=m.take (gH l m):=by
  intro l
  induction l with
  | nil=>intro m;simp[gH]
  | cons x l ih=>
   intro m
   cases m<;>grind[gH]
 have h1:(a.extract 0 (cT a b)++ny b (cT a b)).data.toList=b.data.toList:=by
  rw[ByteArray.data_append,Array.toList_append,nv]
  unfold ny
  rw[ByteArray.data_extract,Array.toList_extract]
  unfold cT
  rw[key]
  simp_all[aaj]
 cases b with|mk d=>
 cases hh:(a.extract 0 (cT a ⟨d⟩)++ny ⟨d⟩ (cT a ⟨d⟩))<;>grind[Array.toList_inj]
theorem X9:∀(l:List It)(was:ByteArray)(acc:List It)(r:List UInt8),l.all dA=true->was.size<=16->io l.length was true acc (gi was l++r) 0=(acc++l,true,r,0):=by
 intro l
 induction l with
 | nil=>grind[io,gi]
 | cons x l ih=>
  intro was acc r hall hw
  rw[List.all_cons,aaC]at hall
  obtain⟨hx,hl⟩:=hall
  have hk:=fQ hx
  have hal:=iv was x.key
  rw[aaD,io,aab aA]
  have hkey:kh was (gi was (x::l)++r) 0=((cT was x.key:Int),x.key,jk x++(gi x.key l++r),0):=by
   dsimp only [kh]
   rw[gi,aal,aal,aal]
   rw[cv (by unfold bF;omega) ae ae]
   dsimp only
   rw[sh (by rw[eT];omega) (by rw[eT];omega)]
   dsimp only
   rw[G7,Int.toNat_natCast,IK]
  rw[hkey]
  grind[Pe]
theorem Fz {l:List It}(h:l.all dA=true)(hl:l.length<=4096):dF (fR l)=(l,0):=by
 unfold dF w8 fR
 dsimp only
 rw[cv (by unfold bF;omega) ae ae]
 dsimp only
 rw[Int.toNat_natCast]
 have:=X9 l s0 [] [] h bP
 rw[aan]at this
 rw[this]
 simp[vt,dg]
theorem Ya {a b:ByteArray}(h:a.data.toList=b.data.toList):a=b:=by cases a;simp_all
theorem RZ (a b:ByteArray)(n:Nat)(h:n=a.size):ny (a++b) n=b:=by
 apply Ya
 simp_all[ny,aaj]
theorem VA:∀(n:Nat)(was:ByteArray)(f:Bool)(acc:List It)(l:List UInt8)(e:Int),(io n was f acc l e).2.2.2=0->(io n was f acc l e).2.1=true ->
 e=0/\f=true/\∃m:List It,(io n was f acc l e).1=acc++m/\m.length=n/\m.all dA=true/\l=gi was m++(io n was f acc l e).2.2.1:=by
 intro n
 induction n with
 | zero=>intro was f acc l e h1 h2;exact⟨h1,h2,[],by simp[io],rfl,rfl,by simp[io,gi]⟩
 | succ n ih=>
  intro was f acc l e h1 h2
  unfold io at h1 h2 ⊢
  by_cases he:e=0
  ·subst he
   rw[aab aA]at h1 h2 ⊢
   dsimp only at h1 h2 ⊢
   obtain⟨g1,g2,m,g3,g4,g5,g6⟩:=ih _ _ _ _ _ h1 h2
   rw[aaC,aaC,beq_iff_eq]at g2
   obtain⟨⟨q1,q2⟩,q3⟩:=g2
   obtain⟨r1,r2,r3⟩:=Li g1
   have hks:=qY was l 0
   have hkd:kh was l 0=((af 0 was.size l 0).1,was.extract 0 (af 0 was.size l 0).1.toNat++⟨(bm 16 (af 0 was.size l 0).2.1 (af 0 was.size l 0).2.2).1.toArray⟩,(bm 16 (af 0 was.size l 0).2.1 (af 0 was.size l 0).2.2).2.1,(bm 16 (af 0 was.size l 0).2.1 (af 0 was.size l 0).2.2).2.2):=rfl
   refine⟨rfl,q1,(fh (kh was l 0).2.1 (kh was l 0).2.2.1 (kh was l 0).2.2.2).1::m,by rw[g3];simp,by simp[g4],by simp[q2,g5],?_⟩
   generalize hX:fh (kh was l 0).2.1 (kh was l 0).2.2.1 (kh was l 0).2.2.2=X at *
   rw[gi,r3]
   generalize hK:kh was l 0=K at *
   obtain⟨k0,k1,k2,k3⟩:=K
   simp only at hks q3 r1 r2 r3 g6 ⊢
   cases hkd
   obtain⟨t1,_,t3⟩:=kU r1
   obtain⟨_,_,_,_,w5⟩:=bN t1
   generalize af 0 was.size l 0=S at *
   generalize bm 16 S.2.1 S.2.2=T at *
   obtain⟨_,hk2,hk3⟩:=hks
   have hn:cT was (was.extract 0 S.1.toNat++⟨T.1.toArray⟩)=S.1.toNat:=ae
   rw[q3]at g6
   rw[q3,hn,RZ _ _ _ bD,aal,aal,aal,<-g6,<-r2,<-t3,<-w5]
  grind
theorem jz {b:List UInt8}(h:(dF b).2=0):(dF b).1.all dA=true/\(dF b).1.length<=4096/\fR (dF b).1=b:=by grind[dF,vt,si,w8,VA,bN,fR]
theorem dD {n:Int}(h:bU n=true):bF n:=by
 unfold bU at h
 exact(of_decide_eq_true h:0<=n/\n<=281474976710656)
theorem ks {n:Int}(h:bF n):bU n=true:=by
 unfold bU
 exact aao (show 0<=n/\n<=281474976710656 from h)
theorem wi (b:Bool):bF (jq b)/\0<=jq b/\jq b<=1/\(jq b==1)=b:=by cases b<;>exact⟨⟨bP,bP⟩,bP,bP,bP⟩
theorem Yb {k s n:Int}(h1:1<=k)(h2:k<=6)(h3:1<=s)(h4:bU s=true)(h5:bU n=true)(r:List UInt8):bM (aO k++(aO s++(aO n++r)))=({ kind:=k,ses:=s,num:=n },r,0):=by
 have h4':=dD h4
 unfold bM
 rw[cv ⟨ae,ae⟩ h1 h2]
 dsimp only
 rw[cv h4' h3 h4'.2]
 grind[lU,dD]
theorem Yc:∀(ps:List (List UInt8)),(∀p∈ps,p.length<=1000000000)->gu ps.length (ps.flatMap txB) 0=(ps,[],0):=by
 intro ps
 induction ps<;>grind[ByteArray.size,gu,txB,sh]
def Mt (m:Msg):Msg:=
 if m.kind=1 then { kind:=1,ses:=m.ses,num:=m.num,lim:=m.lim,seed:=m.seed,bits:=m.bits,wants:=m.wants }
 else if m.kind=2 then { kind:=2,ses:=m.ses,num:=m.num,same:=m.same }
 else if m.kind=3 then { kind:=3,ses:=m.ses,num:=m.num,nxt:=m.nxt }
 else if m.kind=5 then { kind:=5,ses:=m.ses,num:=m.num,nxt:=m.nxt,last:=m.last }
 else if m.kind=6 then { kind:=6,ses:=m.ses,num:=m.num,err:=m.err }
 else { kind:=m.kind,ses:=m.ses,num:=m.num }
theorem qn {m:Msg}(h:lK m=true):1<=m.ses/\bU m.ses=true/\bU m.num=true/\1<=m.kind/\m.kind<=6 /\
 (m.kind=1->bU m.lim=true/\bU m.seed=true/\0<=m.bits/\m.bits<=64/\bT m.flt/\aY m.know/\(m.there=[]\/(mn m.there).2=0)) /\
 (m.kind=3->bU m.nxt=true)/\(m.kind=4->gg m.rg=true) /\
 (m.kind=5->bU m.nxt=true/\m.its.length<=4096/\Au m.its=true/\aY m.know/\(m.last=true\/m.know=[]))/\(m.kind=6->1<=m.err/\bU m.err=true):=by
 unfold lK at h
 simp only[aaC,aaI]at h
 obtain⟨⟨⟨h1,h2⟩,h3⟩,h4⟩:=h
 refine⟨h1,h2,h3,?_⟩
 by_cases k1:m.kind=1
 ·rw[aae k1]at h4
  grind
 rw[aab k1]at h4
 by_cases k3:m.kind=3
 ·rw[aae k3]at h4
  grind
 rw[aab k3]at h4
 by_cases k4:m.kind=4
 ·rw[aae k4]at h4
  grind
 rw[aab k4]at h4
 by_cases k5:m.kind=5
 ·rw[aae k5]at h4
  grind
 rw[aab k5]at h4
 grind
theorem Yd {m:Msg}(h:lK m=true)(r:List UInt8):d7 { kind:=m.kind,ses:=m.ses,num:=m.num } (((da m).drop 3).flatMap aO++r) 0=(Mt m,r,0):=by
 obtain⟨h1,h2,h3,h4,h5,k1,k3,k4,k5,k6⟩:=qn h
 have e:(da m).drop 3=(if m.kind=1 then [m.lim,m.seed,m.bits,jq m.wants]else if m.kind=2 then [jq m.same]else if m.kind=3 then [m.nxt]else if m.kind=5 then [m.nxt,jq m.last]else if m.kind=6 then [m.err]else []):=rfl
 rw[e]
 unfold d7 Mt
 dsimp only
 by_cases c1:m.kind=1
 ·obtain⟨a1,a2,a3,a4,_⟩:=k1 c1
  obtain⟨b1,b2,b3,b4⟩:=wi m.wants
  rw[aae c1,aae c1,aae c1]
  simp only[List.flatMap_cons,aaZ,aan,aal]
  rw[lU (dD a1)]
  dsimp only
  rw[lU (dD a2)]
  dsimp only
  rw[cv ⟨ae,ae⟩ a3 a4]
  grind[cv]
 rw[aab c1,aab c1,aab c1]
 by_cases c2:m.kind=2
 ·grind[wi,cv]
 rw[aab c2,aab c2,aab c2]
 by_cases c3:m.kind=3
 ·rw[aae c3,aae c3,aae c3]
  grind[lU,dD]
 rw[aab c3,aab c3,aab c3]
 by_cases c5:m.kind=5
 ·grind[wi,lU,dD,cv]
 rw[aab c5,aab c5,aab c5]
 by_cases c6:m.kind=6
 ·obtain⟨a1,a2⟩:=k6 c6
  have a2:=dD a2
  rw[aae c6,aae c6,aae c6]
  simp only[List.flatMap_cons,aaZ,aan]
  rw[cv a2 a1 a2.2]
  dsimp only
  rw[c6]
 rw[aab c6,aab c6,aab c6]
 rfl
theorem FA (s:Nat)(h:s<18446744073709551616):gj (C1 s)=s:=by
 unfold C1
 simp only[List.range,List.range.loop,List.map_cons,List.map_nil,gj,abh]
 omega
theorem R0 {l:List UInt8}(h:l.length=8):C1 (gj l)=l:=by
 have hl:(C1 (gj l)).length=l.length:=by rw[h];simp[C1]
 have:=vU l
 rw[h]at this
 grind[PU,FA]
theorem CF:∀{l:List It},Au l=true->l.all dA=true:=by
 intro l
 induction l<;>grind[Au]
theorem uL {r:Rg}(h:gg r=true):bT [r]:=λi hi=>by grind
theorem Ye {m:Msg}(h:lK m=true)(hf:m.flt.length<=4096)(hk:sq m.know)(hl:m.know.length<=4096)(hs:m.sum<18446744073709551616):dx (Mt m) (ew m)=(pg m,0):=by
 obtain⟨h1,h2,h3,h4,h5,k1,k3,k4,k5,k6⟩:=qn h
 unfold dx Mt pg ew
 by_cases c1:m.kind=1
 ·obtain⟨a1,a2,a3,a4,a5,a6,a7⟩:=k1 c1
  simp only[c1,if_true,abA,List.getD_cons_succ]
  rw[Af a5 hf,xg a6 hk hl]
  simp
 by_cases c4:m.kind=4
 ·have a:=k4 c4
  grind[Af,uL,C1,XG,FA]
 by_cases c5:m.kind=5
 ·obtain⟨a1,a2,a3,a4,a5⟩:=k5 c5
  simp[c5]
  rw[Fz (CF a3) a2,xg a4 hk hl]
  simp
 by_cases c2:m.kind=2
 all_goals grind
theorem Mu (m:Msg):lK (pg m)=lK m:=by
 unfold pg
 by_cases c1:m.kind=1
 all_goals grind[lK]
theorem Mv (m:Msg):(Mt m).kind=m.kind:=by grind[Mt]
theorem Mw (m:Msg):(ew m).length=gv m.kind:=by grind[ew,gv]
theorem R3 {m:Msg}(h:lK m=true)(hf:m.flt.length<=4096)(hk:sq m.know)(hl:m.know.length<=4096)(hs:m.sum<18446744073709551616)(hp:∀p∈ew m,p.length<=1000000000):vW (gM m)=(pg m,0):=by
 obtain⟨h1,h2,h3,h4,h5,_⟩:=qn h
 have e:gM m=aO m.kind++(aO m.ses++(aO m.num++(((da m).drop 3).flatMap aO++(ew m).flatMap txB))):=by
  have:da m=[m.kind,m.ses,m.num]++(da m).drop 3:=rfl
  grind[gM]
 grind[vW,Yb,Yd,Mv,Mw,Yc,dg,Ye,Mu]
theorem uM {n:Int}(h0:0<=n)(h1:n<=1):jq (n==1)=n:=by
 by_cases c:n=1
 ·subst c;rfl
 ·have:n=0:=ae
  subst this;rfl
theorem VB {l:List UInt8}(h:(bM l).2.2=0):∃k s n,(bM l).1={ kind:=k,ses:=s,num:=n }/\l=aO k++(aO s++(aO n++(bM l).2.1)):=by grind[bM,fS,bN]
theorem Kk {m:Msg}{l:List UInt8}{e:Int}(h:(d7 m l e).2.2=0):e=0/\l=((da (d7 m l e).1).drop 3).flatMap aO++(d7 m l e).2.1/\(d7 m l e).1.kind=m.kind/\(d7 m l e).1.ses=m.ses/\(d7 m l e).1.num=m.num:=by
 have e0:∀m:Msg,(da m).drop 3=(if m.kind=1 then [m.lim,m.seed,m.bits,jq m.wants]else if m.kind=2 then [jq m.same]else if m.kind=3 then [m.nxt]else if m.kind=5 then [m.nxt,jq m.last]else if m.kind=6 then [m.err]else []):=λ_=>rfl
 rw[e0]
 unfold d7 at h ⊢
 by_cases c1:m.kind=1
 ·grind[bN,fS,uM]
 simp only[aab c1]at h ⊢
 by_cases c2:m.kind=2
 ·grind[bN,uM]
 simp only[aab c2]at h ⊢
 by_cases c3:m.kind=3
 ·grind[fS]
 simp only[aab c3]at h ⊢
 by_cases c5:m.kind=5
 ·grind[bN,fS,uM]
 simp only[aab c5]at h ⊢
 by_cases c6:m.kind=6
 all_goals grind[bN]
theorem Kl:∀(n:Nat)(l:List UInt8)(e:Int),(gu n l e).2.2=0->e=0/\l=(gu n l e).1.flatMap txB++(gu n l e).2.1/\(gu n l e).1.length=n:=by
 intro n
 induction n with
 | zero=>intro l e h;exact⟨h,rfl,rfl⟩
 | succ n ih=>
  intro l e h
  rw[gu]at h ⊢
  dsimp only at h ⊢
  obtain⟨h1,h2,h3⟩:=ih _ _ h
  obtain⟨a1,_,a3⟩:=kU h1
  refine⟨a1,?_,by rw[aaD,h3]⟩
  rw[List.flatMap_cons,aal,<-h2]
  exact a3
theorem Km {m:Msg}{p:List (List UInt8)}(hp:p.length=gv m.kind)(h:(dx m p).2=0):ew (dx m p).1=p/\da (dx m p).1=da m:=by
 unfold dx at h ⊢
 by_cases c1:m.kind=1
 ·simp only[aae c1]at h ⊢
  have hp:p.length=3:=by rw[hp,gv,aae c1]
  obtain⟨x,y,z,rfl⟩:∃x y z,p=[x,y,z]:=by
   match p,hp with
   | [x,y,z],_=>grind
  simp only[abA,List.getD_cons_succ]at h ⊢
  by_cases a:(dM x).2≠0
  ·rw[aae a]at h;exact absurd h a
  simp only[aab a]at h ⊢
  by_cases b:(dI y).2≠0
  ·rw[aae b]at h;exact absurd h b
  simp only[aab b]at h ⊢
  have q1:=(jM (by simpa using a)).2.2
  have q2:=(i7 (by simpa using b)).2.2
  refine⟨?_,rfl⟩
  grind[ew]
 simp only[aab c1]at h ⊢
 by_cases c4:m.kind=4
 ·simp only[aae c4]at h ⊢
  have hp:p.length=2:=by rw[hp,gv,aab c1,aae (.inl c4)]
  obtain⟨x,y,rfl⟩:∃x y,p=[x,y]:=by
   match p,hp with
   | [x,y],_=>exact⟨x,y,rfl⟩
  simp only[abA,List.getD_cons_succ]at h ⊢
  by_cases a:(dM x).2≠0
  ·rw[aae a]at h;exact absurd h a
  simp only[aab a]at h ⊢
  by_cases b:(dM x).1.length=1/\y.length=8
  ·simp only[aae b]at h ⊢
   obtain⟨b1,b2⟩:=b
   have q1:=(jM (by simpa using a)).2.2
   obtain⟨r,hr⟩:∃r,(dM x).1=[r]:=by
    match(dM x).1,b1 with
    | [r],_=>exact⟨r,rfl⟩
   rw[hr]at q1 ⊢
   refine⟨?_,rfl⟩
   grind[ew,XG,R0]
  grind
 simp only[aab c4]at h ⊢
 by_cases c5:m.kind=5
 ·simp only[aae c5]at h ⊢
  have hp:p.length=2:=by rw[hp,gv,aab c1,aae (.inr c5)]
  obtain⟨x,y,rfl⟩:∃x y,p=[x,y]:=by
   match p,hp with
   | [x,y],_=>exact⟨x,y,rfl⟩
  simp only[abA,List.getD_cons_succ]at h ⊢
  by_cases a:(dF x).2≠0
  ·rw[aae a]at h;exact absurd h a
  simp only[aab a]at h ⊢
  by_cases b:(dI y).2≠0
  ·rw[aae b]at h;exact absurd h b
  simp only[aab b]at h ⊢
  have q1:=(jz (by simpa using a)).2.2
  have q2:=(i7 (by simpa using b)).2.2
  refine⟨?_,rfl⟩
  grind[ew]
 grind[gv,ew]
theorem A7 {l:List UInt8}(h:(vW l).2=0):gM (vW l).1=l/\lK (vW l).1=true:=by
 unfold vW at h ⊢
 dsimp only at h ⊢
 generalize ha:bM l=a at *
 generalize hb:d7 a.1 a.2.1 a.2.2=b at *
 generalize hc:gu (gv b.1.kind) b.2.1 b.2.2=c at *
 by_cases c1:dg c.2.1 c.2.2≠0
 ·rw[aae c1]at h;exact absurd h c1
 rw[aab c1]at h ⊢
 generalize hd:dx b.1 c.1=d at *
 by_cases c2:d.2≠0
 ·rw[aae c2]at h;exact absurd h c2
 rw[aab c2]at h ⊢
 by_cases c3:¬lK d.1=true
 all_goals grind[si,Kl,Kk,VB,Km,gM,da]
theorem tn {b:List UInt8}(h:(lW b).2=0):eV (lW b).1=(b,0):=by grind[lW,LC,A7,eV]
theorem qo {l:List It}:Au l=true↔l.all dA=true/\(l.map It.key).Nodup:=by induction l<;>grind[Au]
def m9 (l:List It)(i:Nat):ByteArray->Int:=λu=>if(l.take i).any (λx=>decide (x.key=u))then 1 else 0
theorem FB {l:List It}{i:Nat}{u:ByteArray}(h:u∈(l.take i).map It.key):m9 l i u=1:=by grind[m9]
theorem FC {l:List It}{i:Nat}{u:ByteArray}(h:u∉(l.take i).map It.key):m9 l i u=0:=by grind[m9]
theorem IL (l:List It):m9 l 0=λ_=>0:=by funext u;simp[m9]
theorem tt {l:List It}{i:Nat}(h:i<l.length):(l.take (i+1)).map It.key=(l.take i).map It.key++[l[i].key]:=by rw[List.take_add_one,aaa h,Option.toList_some,List.map_append];rfl
theorem IM {l:List It}{i:Nat}(h:i<l.length):(λu=>if u=l[i].key then(1:Int)else m9 l i u)=m9 l (i+1):=by
 funext u
 by_cases c:u=l[i].key
 all_goals grind[FB,tt,FC]
theorem yG {l:List It}{i:Nat}(h:i<l.length)(h1:((l.take i).map It.key).Nodup)(h2:l[i].key∉(l.take i).map It.key):((l.take (i+1)).map It.key).Nodup:=by
 rw[tt h,List.nodup_append]
 grind
theorem yH {l:List It}{i:Nat}(h:i<l.length)(h2:l[i].key∈(l.take i).map It.key):¬(l.map It.key).Nodup:=by
 intro hn
 have hs:((l.take (i+1)).map It.key).Nodup:=hn.sublist ((List.take_sublist _ _).map _)
 rw[tt h,List.nodup_append]at hs
 grind
def mB (m:Msg):List (List UInt8)×Bool:=
 if m.kind=1 then([if decide (bT m.flt)then fc m.flt else [],if decide (aY m.know)then eu m.know else [],m.there],decide (bT m.flt)&&decide (aY m.know))
 else if m.kind=4 then([if decide (bT [m.rg])then fc [m.rg]else [],C1 m.sum],decide (bT [m.rg]))
 else if m.kind=5 then([if m.its.all dA then fR m.its else [],if decide (aY m.know)then eu m.know else []],m.its.all dA&&decide (aY m.know))
 else([],true)
def CG (m:Msg):Bool:=
 if m.kind=1 then decide (m.bits<=64)&&(decide (m.there=[])||decide ((mn m.there).2=0))
 else if m.kind=2\/m.kind=3\/m.kind=4 then true
 else if m.kind=5 then Au m.its&&(m.last||decide (m.know=[]))
 else decide (m.kind=6)&&decide (1<=m.err)
theorem zu {r:Rg}:bT [r]↔gg r=true:=⟨λh=>(h 0 aA).1,uL⟩
theorem kZ (b:Bool):bU (jq b)=true:=ks (wi b).1
theorem tu (m:Msg)(hl:m.its.length<=4096):lK m=((da m).all bU&&(mB m).2&&decide (1<=m.ses)&&CG m):=by
 rw[aav]
 unfold lK mB CG da
 by_cases c1:m.kind=1
 ·simp only[c1,if_true,List.all_append,List.all_cons,List.all_nil,Bool.and_true,aaC,abm,aaI,kZ]
  grind[bU]
 by_cases c2:m.kind=2
 ·grind[bU,kZ]
 by_cases c3:m.kind=3
 ·grind[bU]
 by_cases c4:m.kind=4
 ·grind[bU,zu]
 by_cases c5:m.kind=5
 ·have:bU 5=true:=bP
  simp only[c5,if_true,aab (by decide:¬(5:Int)=1),aab (by decide:¬(5:Int)=2),aab (by decide:¬(5:Int)=3),aab (by decide:¬(5:Int)=4),aab (by decide:¬((5:Int)=2\/(5:Int)=3\/(5:Int)=4)),List.all_append,List.all_cons,List.all_nil,Bool.and_true,aaC,abm,aaI,kZ,true_and,this]
  grind[CF]
 by_cases c6:m.kind=6
 all_goals grind[bU]
theorem CH {m:Msg}(h:(mB m).2=true):(mB m).1=ew m:=by grind[mB,ew]
theorem CI {m:Msg}:(da m).all bU=true↔∀n∈da m,bF n:=by
 rw[aaH]
 grind[dD,ks]
theorem yI (m:Msg):(da m).length<=7:=by grind[da]
section
variable {P:Program} {n t:Nat} {ops:Array Oper} {o:Oper} {S:St}
theorem pt {ty ty':TypeId}{x y:Operand}{k:IntKind}{p q z:Int}(hp:Pl n o t)(ho:o.op=.binOp .xor ty x y ty')(hx:S.opd x=iC k p)(hy:S.opd y=iC k q)(hz:bits .xor k p q=z):aB n P ops o (aG x++aG y) (iC k z) [] S:=
 aZ hp λC T g a w hA hR=>by
  have h1:=bf (x:=x) hA (λk h=>by simp[h]) hR hx
  have h2:=bf (x:=y) hA (λk h=>by simp[h]) hR hy
  subst hz
  refine⟨.int k (bits .xor k p q),fL ho h1 h2 ?_,rfl⟩
  rw[show eqGuard .xor ty x y (.int k p) (.int k q)=pure ()from rfl]
  simp only[binOp_xor]
  rfl
theorem Mx {ty e bytes:Nat}{z:Value}{x:Operand}{c:Cnt}(hp:Pl n o t)(ho:o.op=.buildSlice ty 1 #[(0,x)])(hT:vI P ty e 1 bytes)(hz:ky P e z)(hzc:z.cells=#[z])(hx:S.opd x=c)(h1:wI S c) :
 aB n P ops o ((2*t+1)::(aG x++GP c)) (.row t (S.ver t+1)) [(t,S.ver t+1,.mix e [] c)] S:=
 rM hp aA λC T g a w hA hR=>by
  have h:=aM (x:=x) hA (λk h=>by simp[h]) hR
  rw[hx]at h
  obtain⟨g1,g2⟩:=(qx.mono h1 λk h=>by simp[h]) _ _ _ _ _ _ _ hA hR h
  obtain⟨i,z',hi,hz',hs1,hs2,hs3⟩:=hT.h.info
  have hzz:=hz.h
  rw[hi]at hzz
  simp only[Option.bind_some]at hzz
  rw[hz']at hzz;cases hzz
  have hrun:=run_buildSlice (P:=P) w ty e 1 #[(0,a.eval x)] #[a.eval x] i z hT.h.und hi hz' (by rw[hs1];decide) (by rw[hs1];decide) (by
   rw[hs1,hzc]
   simp[Instr.fill,g2]
   apply Array.ext
   all_goals simp_all)
  refine⟨.slice (some ⟨w.heap.size,0,none⟩) 1 1,w.alloc (.cells #[a.eval x] e),w.heap.size,?_,(bQ.refl w).alloc _,aaf _,gU _ _,λvr' hvr hst=>⟨?_,?_⟩⟩
  ·simp_all[execOp]
  ·exact⟨by rw[hvr,aae rfl];exact aaf _,λ_=>(aae rfl).symm⟩
  ·have hph:(g.mk1 t w.heap.size (.slice (some ⟨w.heap.size,0,none⟩) 1 1)).ph t=w.heap.size:=aae rfl
   have hrh:(g.mk1 t w.heap.size (.slice (some ⟨w.heap.size,0,none⟩) 1 1)).rh t=.slice (some ⟨w.heap.size,0,none⟩) 1 1:=aae rfl
   exact⟨1,#[a.eval x],by rw[hrh,hph];rfl,by rw[hph];exact heap_alloc_new w _,by rw[hph];exact aae rfl,aA,bP,rfl,λi A hi=>by simp at hi,a.eval x,rfl,g1,hst.crep h⟩
theorem R4 {ids:List Nat}{x:Operand}{id vr e:Nat}{c:Cnt}{A:PV}(hx:S.opd x=.row id vr)(hv:S.ver id=vr)(hb:S.blk id=.mix e [] c)(h:cc S ids c A):jp (ej S x++ul ids) S ids x (.bor 1 [[A]]):=λn C T g a w hA hR=>by
 have hF:∀k∈aG x,k∈ej S x++ul ids:=λk hk=>by simp[ej,hk]
 have hF':2*id+1∈ej S x++ul ids:=by simp[ej,hx,Tv]
 have hI:∀i∈ids,2*i+1∈ej S x++ul ids:=λi hi=>by simp[xy i hi]
 have hc:=aM (x:=x) hA hF hR
 rw[hx]at hc
 have hev:=hc.2 (by rw[(hA.2 id hF').2,hv])
 have hB:=hR.blks id
 rw[(hA.2 id hF').1,hb]at hB
 obtain⟨cap,cs,q1,q2,q3,q4,q5,q6,q7,y,q8,q9,q10⟩:=hB
 rw[hev,q1]
 refine⟨_,cap,g.ph id,0,rfl,q4,q5,aA,λ_=>⟨rfl,(hR.dom _ _ q3).1,λh=>h rfl⟩,λi ps hi=>?_⟩
 cases i with
 | succ i=>simp at hi
 | zero=>
  simp at hi;subst hi
  refine⟨rfl,λj B hj=>?_⟩
  cases j with
  | succ j=>simp at hj
  | zero=>
   simp at hj;subst hj
   refine⟨y,by rw[ei q2];exact q8,q9,?_⟩
   exact A.mono (N:=xx C g w ids) (aaf _) (λ_ _ _=>rfl) (λb _ hb=>Z2 hb) (h.rep hA hI hR q10)
theorem od {src dst e:TypeId}{x:Operand}{s:ByteArray}(hp:Pl n o t)(ho:o.op=.convert src dst x)(hs:gB P src .string)(hd:gB P dst (.slice e))(he:gB P e (.int .u8))(hx:S.opd x=sC s)(hb:s.size<=1000000000000) :
 aB n P ops o (aG x) (.per (cn 1 (s.data.toList.map byteP))) [] S:=by
 refine⟨?_⟩
 intro C T hA a w ⟨g,hR⟩
 have hxe:=bf (x:=x) hA (λk h=>by simp[h]) hR hx
 unfold jg
 rw[aae (hp.wanted a)]
 unfold Oper.wp
 have hex:(execOp a.eval o).run P w=.ok (.value (.slice (some ⟨w.heap.size,0,none⟩) s.size (grownCap w s.size 0 e))) (w.drew.alloc (.cells (bytesRow s (grownCap w s.size 0 e)) e ((bytesRow s (grownCap w s.size 0 e)).size,(bytesRow s (grownCap w s.size 0 e)).size+1))):=by simp only[execOp,ho,Sem.run_bind,hxe,run_bytes_of_string w src dst e s hs.h hd.h he.h];rfl
 rw[hex,Oper.upon_value]
 refine⟨g,hR.app0 ((bQ.refl w).drew.alloc _) hp.dOk ?_⟩
 show eW (g.N C) (g.N C) 1 (s.data.toList.map byteP) _ _
 have hl:(s.data.toList.map byteP).length=s.size:=by rw[aad,abp];rfl
 refine⟨_,_,w.heap.size,0,by rw[hl],by rw[hl];grind[grownCap_ge],grownCap_le_maxLen w _ _ _ (by unfold maxLen;omega),aA,λ_=>⟨rfl,gU w.drew _,λhn=>?_⟩,λi ps hi=>?_⟩
 ·rcases hn with hn|hn
  all_goals grind[Jp,vH]
 ·rw[List.getElem?_map]at hi
  cases hc:s.data.toList[i]? with
  | none=>rw[hc]at hi;cases hi
  | some c=>
   rw[hc]at hi;cases hi
   refine⟨rfl,λj A hj=>?_⟩
   cases j with
   | succ j=>simp[byteP]at hj
   | zero=>
    simp[byteP]at hj;subst hj
    refine⟨.int .u8 (c.toNat:Int),?_,rfl,rfl⟩
    have hq:=ei (heap_alloc_new w.drew (.cells (bytesRow s (grownCap w s.size 0 e)) e ((bytesRow s (grownCap w s.size 0 e)).size,(bytesRow s (grownCap w s.size 0 e)).size+1))) (0+i*1+0)
    refine hq.trans ?_
    grind[bytesRow]
end
theorem zv (l:List UInt8)(ns:List Int)(h:¬∀n∈ns,bF n):Fn prog 43 [dw l,zX ns] (.tup2 (gN []) (.per (ai (.int .i64 2)))):=by
 refine⟨⟨_,func43,by kernel_rfl,by kernel_rfl⟩,λN0 w vs _ ha=>?_⟩
 obtain⟨v,u,rfl,h1,h2⟩:=sa ha
 refine Calls.mono (Ua v u ns w (wP h2) h) ?_
 rintro e w' ⟨rfl,rfl⟩
 exact⟨_,rfl,bQ.refl _,_,_,rfl,.inl ⟨rfl,rfl⟩,rfl⟩
section
variable {P:Program} {n t:Nat} {ops:Array Oper} {o:Oper} {S:St}
theorem R5 {ty:TypeId}{x:Operand}{k:IntKind}{p z:Int}(hp:Pl n o t)(ho:o.op=.unOp .xor ty x)(hx:S.opd x=iC k p)(hz:bits .xor k (if k.signed then -1 else k.max) p=z):aB n P ops o (aG x) (iC k z) [] S:=
 aZ hp λC T g a w hA hR=>by
  have h1:=bf (x:=x) hA (λk h=>by simp[h]) hR hx
  subst hz
  exact⟨.int k (bits .xor k (if k.signed then -1 else k.max) p),by simp only[execOp,ho,h1,Op.unary];rfl,rfl⟩
end
theorem mc (n:Nat):IntKind.u8.wrap (n:Int)=((UInt8.ofNat n).toNat:Int):=by rw[IntKind.wrap_u8',abh];omega
theorem qL (c:UInt8):IntKind.u32.wrap (c.toNat:Int)=(c.toNat:Int):=by
 have:=c.toNat_lt
 rw[IntKind.wrap_u32'];omega
def Gm (n s:Nat):List UInt8:=(List.range n).map λi=>UInt8.ofNat (s / 256 ^ i)
theorem qp (n s:Nat):(Gm n s).length=n:=by simp[Gm]
theorem yJ (n s:Nat):Gm (n+1) s=Gm n s++[UInt8.ofNat (s / 256 ^ n)]:=by simp[Gm,List.range_succ]
theorem WF (s:Nat):Gm 4 s=gZ s:=by simp[Gm,gZ,List.range,List.range.loop]
def CJ (n s k:Nat):List UInt8:=Gm k s++List.replicate (n-k) 0
theorem WG (n s:Nat):CJ n s 0=List.replicate n 0:=by simp[CJ,Gm]
theorem WH (n s:Nat):CJ n s n=Gm n s:=by simp[CJ]
theorem Ko (n s k:Nat)(h:k<=n):(CJ n s k).length=n:=by grind[CJ,qp]
theorem Kp (n s k:Nat)(h:k<n):(CJ n s k)[k]?=some 0:=by grind[CJ,qp]
theorem Kr (n s k:Nat)(h:k<n):(CJ n s k).set k (UInt8.ofNat (s / 256 ^ k))=CJ n s (k+1):=by
 unfold CJ
 rw[List.set_append_right _ _ (by rw[qp];omega),qp,Nat.sub_self,yJ]
 obtain⟨m,hm⟩:∃m,n-k=m+1:=⟨n-k-1,ae⟩
 rw[hm,List.replicate_succ,List.set_cons_zero,show n-(k+1)=m by omega,aal];rfl
theorem Ks {s k b:Nat}(hb:8*k<=b):(s:Int) / 2 ^ min (8*(k:Int)).toNat b=((s / 256 ^ k:Nat):Int):=by
 have e:min (8*(k:Int)).toNat b=8*k:=ae
 have e2:(2:Int) ^ (8*k)=((256 ^ k:Nat):Int):=by rw[show(256:Nat) ^ k=2 ^ (8*k)from(Nat.pow_mul 2 8 k).symm];simp
 rw[e,e2];rfl
abbrev oe (d:List UInt8):List PV:=[aK d]
theorem R6 (s:Nat)(hs:s<4294967296)(c:UInt8):Fn prog 191 [iC .u32 (s:Nat),iC .u8 (c.toNat:Nat)] (.per (ai (.int .u32 (Hu s c:Nat)))):=by
 have hc8:=c.toNat_lt
 have hx:=u32_xor_nat s c.toNat hs ae
 have hw:=qL c
 have hlt:s ^^^ c.toNat<4294967296:=Nat.xor_lt_two_pow (n:=32) ae ae
 unfold Hu
 generalize s ^^^ c.toNat=s0 at *
 generalize hB:UF 8 s0=B
 refine fi func191 ntmps191 ?_
 (repeat' (first|((first|apply aH rfl|apply cB rfl|apply aJ rfl|apply cC rfl);focus (first|((apply bn 10;(focus rfl);exact dR ⟨rfl,rfl,rfl⟩ rfl aS aS rfl hw))|(apply gR;(focus rfl);apply ag rfl rfl rfl rfl rfl;((apply bn 10;(focus rfl);exact dR ⟨rfl,rfl,rfl⟩ rfl aS aS rfl hw)))|((exact pt ⟨rfl,rfl,rfl⟩ rfl rfl rfl hx))|(apply gR;(focus rfl);apply ag rfl rfl rfl rfl rfl;((exact pt ⟨rfl,rfl,rfl⟩ rfl rfl rfl hx)))))|refine oq ?_|refine bW cI ?_|(refine dW rfl rfl ⟨λhc=>?_,λhc=>?_⟩<;>(repeat rw[aad]at hc)<;>(try exact cj hc))|((first|refine dX rfl rfl rfl ⟨λhc=>?_,λhc=>?_⟩|refine dY rfl rfl rfl ⟨λhc=>?_,λhc=>?_⟩)<;>(fail_if_success (have q:(true=true):=hc))<;>(fail_if_success (have q:(false=false):=hc))<;>(repeat rw[aad]at hc)<;>(try exact cj hc))|refine aQ rfl rfl (λhc=>?_) ?_))
 refine aj (X:=Nat×Nat) (λx=>x.1<=8/\x.2<4294967296/\UF (8-x.1) x.2=B)
  (λx=>aF [(0,iC .u32 (x.2:Nat)),(10,iC .i64 (x.1:Nat))] []) (λx=>8-x.1) (0,s0) ⟨ae,hlt,hB⟩ ?_
 clear hx hw hlt hB hs hc8
 rintro⟨k,s⟩ ⟨h1,h2,h3⟩
 simp only at h1 h2 h3 ⊢
 by_cases hk:k<8
 ·have hA:bits .and .u32 (s:Int) 1=((s % 2:Nat):Int):=by
   have:=u32_and_nat s 1 h2 ae
   rw[Nat.and_one_is_mod]at this;exact this
  have hS:(s:Int) / 2 ^ min (1:Int).toNat IntKind.u32.bits=((s / 2:Nat):Int):=by
   show(s:Int) / 2 ^ 1=_
   omega
  have hX:bits .xor .u32 ((s / 2:Nat):Int) 3988292384=((s / 2 ^^^ 3988292384:Nat):Int):=u32_xor_nat (s / 2) 3988292384 ae ae
  have hlt:=B8 h2
  obtain⟨m,hm⟩:∃m,8-k=m+1:=⟨7-k,ae⟩
  rw[hm,UF]at h3
  by_cases hb:s % 2=1
  ·have e:xG s=s / 2 ^^^ 3988292384:=by grind[xG]
   rw[e]at h3 hlt
   (refine w0 ?_;repeat' first|apply aw|refine ah λhc=>?_|((first|apply aH rfl|apply aJ rfl);(focus (try apply ag rfl rfl rfl rfl rfl);first|((exact B4 ⟨rfl,rfl,rfl⟩ rfl rfl rfl hA))|((exact jX ⟨rfl,rfl,rfl⟩ rfl rfl rfl ae hS))|((exact pt ⟨rfl,rfl,rfl⟩ rfl rfl rfl hX)));refine w0 ?_))
   refine⟨(k+1,s / 2 ^^^ 3988292384),⟨aL,hlt,by grind⟩,aL,?_⟩
   exact ab
  ·have e:xG s=s / 2:=by grind[xG]
   rw[e]at h3 hlt
   clear hX
   (refine w0 ?_;repeat' first|apply aw|refine ah λhc=>?_|((first|apply aH rfl|apply aJ rfl);(focus (try apply ag rfl rfl rfl rfl rfl);first|((exact B4 ⟨rfl,rfl,rfl⟩ rfl rfl rfl hA))|((exact jX ⟨rfl,rfl,rfl⟩ rfl rfl rfl ae hS)));refine w0 ?_))
   refine⟨(k+1,s / 2),⟨aL,hlt,by grind⟩,aL,?_⟩
   exact ab
 ·have hk:k=8:=ae
  subst hk
  have h3:s=B:=h3
  subst h3
  (refine w0 ?_;refine ah λhc=>?_)
  exact uZ
theorem A8 (s:Nat)(c:UInt8)(l:List UInt8):xH s (c::l)=xH (Hu s c) l:=rfl
theorem Kt (ls:List (List UInt8))(hl:ls.length<=1000000000)(hs:∀p∈ls,p.length<=1000000000000):Fn prog 106 [.bor 1 (ls.map oe)] (.per (ai (.int .u32 (kM ls.flatten:Nat)))):=by
 unfold kM
 have hF0:=JP ls.flatten (s:=4294967295) bP
 generalize hF:xH 4294967295 ls.flatten=F at *
 refine fi func106 ntmps106 ?_
 (refine w0 ?_)
 refine aj (X:=Nat×Nat) (λx=>x.1<=ls.length/\x.2<4294967296/\xH x.2 (ls.drop x.1).flatten=F)
  (λx=>aF [(3,iC .u32 (x.2:Nat)),(8,.bor 1 (ls.map oe)),(9,iC .i64 (ls.length:Nat)),(10,iC .i64 (x.1:Nat))] []) (λx=>ls.length-x.1) (0,4294967295) ⟨aag _,bP,hF⟩ ?_
 rintro⟨i,s⟩ ⟨h1,h2,h3⟩
 simp only at h1 h2 h3 ⊢
 by_cases hi:i<ls.length
 ·rw[List.drop_eq_getElem_cons hi,List.flatten_cons]at h3
  have hp:=hs _ (aar hi)
  obtain⟨rest,hr⟩:∃rest,rest=(ls.drop (i+1)).flatten:=⟨_,rfl⟩
  rw[<-hr]at h3
  (refine w0 ?_;refine ah λhc=>?_)
  refine aj (X:=Nat×Nat) (λx=>x.1<=ls[i].length/\x.2<4294967296/\xH x.2 (ls[i].drop x.1++rest)=F)
   (λx=>aF [(3,iC .u32 (x.2:Nat)),(8,.bor 1 (ls.map oe)),(9,iC .i64 (ls.length:Nat)),(10,iC .i64 (i:Nat)),(14,.per (aK ls[i])),(15,iC .i64 (ls[i].length:Nat)),(16,iC .i64 (x.1:Nat))] []) (λx=>ls[i].length-x.1) (0,s) ⟨aag _,h2,h3⟩ ?_
  rintro⟨j,s'⟩ ⟨g1,g2,g3⟩
  simp only at g1 g2 g3 ⊢
  by_cases hj:j<ls[i].length
  ·rw[List.drop_eq_getElem_cons hj,List.cons_append,A8]at g3
   have hc:=R6 s' g2 ls[i][j]
   have hb:=JO g2 ls[i][j]
   generalize Hu s' ls[i][j]=s2 at *
   clear h3 hF hs
   (refine au hc ?_;refine ah λhc=>?_)
   refine⟨(j+1,s2),⟨aL,hb,g3⟩,aL,?_⟩
   exact ab
  ·rw[aay ae,aaE]at g3
   clear h3 hF hs
   (refine w0 ?_;refine ah λhc=>?_)
   refine⟨(i+1,s'),⟨aL,g2,by rw[hr]at g3;exact g3⟩,aL,?_⟩
   exact ab
 ·rw[aay ae]at h3
  have h3:s=F:=h3
  subst h3
  have hX:bits .xor .u32 (if IntKind.u32.signed then -1 else IntKind.u32.max) (s:Int)=((s ^^^ 4294967295:Nat):Int):=by rw[Nat.xor_comm];exact u32_xor_nat 4294967295 s bP h2
  clear hF hs
  (refine w0 ?_;repeat' first|apply aw|refine ah λhc=>?_|((first|apply aH rfl|apply aJ rfl);(focus (try apply ag rfl rfl rfl rfl rfl);((apply bn 9;(focus rfl);exact R5 ⟨rfl,rfl,rfl⟩ rfl rfl hX)));refine w0 ?_))
  exact uZ
theorem FD (s:Nat)(_:s<4294967296):Fn prog 105 [iC .u32 (s:Nat)] (gN (gZ s)):=by
 rw[<-WF]
 refine fi func105 ntmps105 ?_
 (repeat' (first|((first|apply aH rfl|apply cB rfl|apply aJ rfl|apply cC rfl);focus (first|((exact Ew (m:=4) ⟨rfl,rfl,rfl⟩ rfl aS aS rfl rfl rfl rfl ae ae))|(apply gR;(focus rfl);apply ag rfl rfl rfl rfl rfl;((exact Ew (m:=4) ⟨rfl,rfl,rfl⟩ rfl aS aS rfl rfl rfl rfl ae ae)))))|refine oq ?_|refine bW cI ?_|(refine dW rfl rfl ⟨λhc=>?_,λhc=>?_⟩<;>(repeat rw[aad]at hc)<;>(try exact cj hc))|((first|refine dX rfl rfl rfl ⟨λhc=>?_,λhc=>?_⟩|refine dY rfl rfl rfl ⟨λhc=>?_,λhc=>?_⟩)<;>(fail_if_success (have q:(true=true):=hc))<;>(fail_if_success (have q:(false=false):=hc))<;>(repeat rw[aad]at hc)<;>(try exact cj hc))|refine aQ rfl rfl (λhc=>?_) ?_))
 refine ci (X:=Nat) (λk=>k<=4) (λk=>aF [(0,iC .u32 (s:Nat)),(3,.row 5 0),(7,iC .i64 4),(8,iC .i64 (k:Nat))] [(5,.row 5 1 ((CJ 4 s k).map byteP))]) (λk=>4-k) 0 ae ?_ ?_
 ·rw[WG]
  exact ab
 ·intro k hk
  have hl:=Ko 4 s k hk
  by_cases hlt:k<4
  ·have hZ:=Ks (s:=s) (k:=k) (b:=IntKind.u32.bits) (by show 8*k<=32;omega)
   have hW:=mc (s / 256 ^ k)
   have HJ:((CJ 4 s k).map byteP)[k]?=some (byteP 0):=by rw[List.getElem?_map,Kp 4 s k hlt];rfl
   have HS:((CJ 4 s k).map byteP).set k (cN (byteP 0) 0 (byteP (UInt8.ofNat (s / 256 ^ k))))=(CJ 4 s (k+1)).map byteP:=by rw[<-Kr 4 s k hlt,List.map_set];rfl
   generalize s / 256 ^ k=q at *
   (repeat' (first|((first|apply aH rfl|apply cB rfl|apply aJ rfl|apply cC rfl);focus (first|((exact jX ⟨rfl,rfl,rfl⟩ rfl rfl rfl ae hZ))|(apply gR;(focus rfl);apply ag rfl rfl rfl rfl rfl;((exact jX ⟨rfl,rfl,rfl⟩ rfl rfl rfl ae hZ)))|((apply bn 10;(focus rfl);exact dR ⟨rfl,rfl,rfl⟩ rfl aS aS rfl hW))|(apply gR;(focus rfl);apply ag rfl rfl rfl rfl rfl;((apply bn 10;(focus rfl);exact dR ⟨rfl,rfl,rfl⟩ rfl aS aS rfl hW)))))|refine oq ?_|refine bW cI ?_|(refine dW rfl rfl ⟨λhc=>?_,λhc=>?_⟩<;>(repeat rw[aad]at hc)<;>(try exact cj hc))|((first|apply aH rfl|apply cB rfl|apply aJ rfl|apply cC rfl);focus (first|((apply bn 6;(focus rfl);exact aW ⟨rfl,rfl⟩ rfl aS rfl rfl rfl rfl HJ rfl (bd rfl rfl rfl) rfl HS))|(apply gR;(focus rfl);apply ag rfl rfl rfl rfl rfl;((apply bn 6;(focus rfl);exact aW ⟨rfl,rfl⟩ rfl aS rfl rfl rfl rfl HJ rfl (bd rfl rfl rfl) rfl HS)))))|((first|refine dX rfl rfl rfl ⟨λhc=>?_,λhc=>?_⟩|refine dY rfl rfl rfl ⟨λhc=>?_,λhc=>?_⟩)<;>(fail_if_success (have q:(true=true):=hc))<;>(fail_if_success (have q:(false=false):=hc))<;>(repeat rw[aad]at hc)<;>(try exact cj hc))|refine aQ rfl rfl (λhc=>?_) ?_))
   refine⟨k+1,ae,ae,?_⟩
   exact ab
  ·obtain rfl:k=4:=ae
   rw[WH]at *
   (refine w0 ?_;refine ah λhc=>?_)
   exact dr (cJ rfl rfl rfl rfl)
def WI (b:List UInt8):Bool:=decide (4<=b.length)&&decide (b.drop (b.length-4)=gZ (kM (b.take (b.length-4))))
theorem WJ {a T:List UInt8}{k:Nat}(h:a.take k=T.take k)(h1:k<a.length)(h2:k<T.length)(e:a[k]=T[k]):a.take (k+1)=T.take (k+1):=by rw[List.take_add_one,List.take_add_one,h,aaa h1,aaa h2,e]
theorem A9 {b:List UInt8}(h:b.length<4):WI b=false:=by grind[WI]
theorem yK {b:List UInt8}{n:Nat}(h:b.length=n+4):WI b=decide (b.drop n=gZ (kM (b.take n))):=by grind[WI]
theorem My (b:List UInt8)(hb:b.length<=1000000000):Fn prog 192 [.per (aK b)] (.tup2 (gN (if WI b then b.take (b.length-4)else [])) (dE (WI b))):=by
 by_cases h4:b.length<4
 ·rw[A9 h4]
  refine fi func192 ntmps192 ?_
  (refine w0 ?_;refine ah λhc=>?_)
  exact dV (dG rfl) (aP rfl rfl)
 obtain⟨n,hn⟩:∃n,b.length=n+4:=⟨b.length-4,ae⟩
 rw[yK hn,show b.length-4=n by omega]
 have h1:=Kt [b.take n] aA (λp hp=>by rw[abI]at hp;grind)
 rw[show [b.take n].flatten=b.take n by simp]at h1
 have h2:=(FD _ (vT (b.take n))).frz
 have hT:(gZ (kM (b.take n))).length=4:=rfl
 generalize gZ (kM (b.take n))=T at *
 have hN:((b.length:Nat):Int)-4=(n:Int):=ae
 generalize hD:b.drop n=D
 have hDl:D.length=4:=by rw[<-hD,abe];omega
 have hDg:∀(k:Nat)(h:k<D.length),b[n+k]'(ae)=D[k]:=λk h=>by grind
 refine fi func192 ntmps192 ?_
 (refine bz hN h1 h2 ?_;refine ah λhc=>?_)
 refine aj (X:=Nat) (λk=>k<=4/\D.take k=T.take k) (λk=>aF [(0,.per (aK b)),(4,iC .i64 (n:Nat)),(17,.per (aK T)),(18,iC .i64 4),(19,iC .i64 (k:Nat))] []) (λk=>4-k) 0 ⟨ae,rfl⟩ ?_
 rintro k ⟨hk,hE⟩
 by_cases hlt:k<4
 ·have hI:(n:Int)+(k:Int)=((n+k:Nat):Int):=ae
  have hg:=hDg k ae
  clear h1 h2 hN
  (refine eG hI ?_;repeat' first|apply aw|refine ah λhc=>?_)
  ·have hne:¬D=T:=λe=>by grind
   rw[aap hne]
   exact dV (dG rfl) (aP rfl rfl)
  ·have e:D[k]'(ae)=T[k]'(ae):=by rw[<-hg];grind[abg]
   refine⟨k+1,⟨ae,WJ hE ae ae e⟩,ae,?_⟩
   exact ab
 ·obtain rfl:k=4:=ae
  have e:D=T:=by rw[<-hDl,aa9,hDl,<-hT,aa9]at hE;exact hE
  rw[aao e,aae rfl]
  clear h1 h2
  (refine w0 ?_;refine ah λhc=>?_)
  exact dV (cJ rfl rfl rfl rfl) (aP rfl rfl)
theorem FE {b:List UInt8}{m:Nat}(h:m+4<=b.length):WI (b.take (m+4))=decide ((b.drop m).take 4=gZ (kM (b.take m))):=by rw[yK (n:=m) (by rw[aaK];omega),List.drop_take,List.take_take,show m+4-m=4 by omega,show min m (m+4)=m by omega]
theorem Mz {b:List UInt8}(k N:Nat):(b.take (k+N)).drop k=(b.drop k).take N:=by rw[List.drop_take,show k+N-k=N by omega]
theorem IO {ls:List (List UInt8)}{i:Nat}(h:i<ls.length):(ls.take (i+1)).flatten=(ls.take i).flatten++ls[i]:=by rw[List.take_add_one,aaa h,Option.toList_some,List.flatten_append];simp
theorem VC (ls:List (List UInt8))(hl:ls.length<=1000000000)(hs:∀p∈ls,p.length<=1000000000) :
 Fn prog 47 [.bor 1 (ls.map oe)] (.tup2 (gN (if ls.flatten.length<=32768 then Tg ls.flatten else [])) (eA (if ls.flatten.length<=32768 then 0 else 12))):=by
 refine fi func47 ntmps47 ?_
 (refine w0 ?_)
 refine aj (X:=Nat) (λi=>i<=ls.length/\(ls.take i).flatten.length<=32768) (λi=>aF [(0,.bor 1 (ls.map oe)),(4,iC .i64 ((ls.take i).flatten.length:Nat)),(11,.bor 1 (ls.map oe)),(12,iC .i64 (ls.length:Nat)),(13,iC .i64 (i:Nat))] []) (λi=>ls.length-i) 0 ⟨aag _,aA⟩ ?_
 rintro i ⟨h1,h2⟩
 by_cases hi:i<ls.length
 ·have hp:=hs _ (aar hi)
  have hf:=IO hi
  have hlen:(ls.take (i+1)).flatten.length=(ls.take i).flatten.length+ls[i].length:=by rw[hf,aai]
  have hle:(ls.take (i+1)).flatten.length<=ls.flatten.length:=by
   have:=aaA (λl=>(List.flatten l).length) (aa0 (i+1) ls)
   grind
  generalize (ls.take i).flatten.length=a at *
  generalize hA:(ls.take (i+1)).flatten.length=a' at *
  clear hf hs
  (refine w0 ?_;repeat' first|apply aw|refine ah λhc=>?_)
  ·rw[aab ae,aab ae]
   exact dV (dG rfl) (aq rfl rfl)
  ·refine⟨i+1,⟨ae,by rw[hA];omega⟩,ae,?_⟩
   rw[hA]
   exact ab
 ·obtain rfl:i=ls.length:=ae
  rw[aa9]at h2
  rw[aae h2,aae h2]
  generalize hL:ls.flatten=L at *
  have c1:=jL [] [(L.length:Int)] aA (λn hn=>by grind[bF])
  rw[aaE,show [(L.length:Int)].flatMap aO=aO (L.length:Nat)by simp]at c1
  have hn9:=bv (L.length:Int) ae
  rw[aa9,hL]
  (refine au c1 ?_;repeat' first|apply aw|refine ah λhc=>?_)
  refine bw (aU 30 600) ?_
  refine aj (X:=Nat×List UInt8) (λx=>x.1<=ls.length/\x.2.length<=32768+9/\x.2++(ls.drop x.1).flatten=zm L)
   (λx=>aF [(7,.row 600 0),(36,.bor 1 (ls.map oe)),(37,iC .i64 (ls.length:Nat)),(38,iC .i64 (x.1:Nat))] [(600,.row 5 1 (x.2.map byteP))]) (λx=>ls.length-x.1) (0,aO (L.length:Nat)) ⟨aag _,aL,by simp only[abu];rw[hL];rfl⟩ ?_
  rintro⟨i,acc⟩ ⟨g1,g2,g3⟩
  simp only at g1 g2 g3 ⊢
  by_cases hi:i<ls.length
  ·rw[List.drop_eq_getElem_cons hi,List.flatten_cons,<-aal]at g3
   have hb:(acc++ls[i]).length<=32768+9:=by
    have:=aaA List.length g3
    rw[aai,vV]at this
    omega
   rw[aai]at hb
   clear c1 hs
   (refine w0 ?_;refine ah λhc=>?_)
   refine⟨(i+1,acc++ls[i]),⟨aL,by grind,g3⟩,aL,?_⟩
   exact ab
  ·rw[aay ae,List.flatten_nil,aan]at g3
   subst g3
   have c2:=Kt [zm L] aA (λp hp=>by rw[abI]at hp;subst hp;omega)
   rw[show [zm L].flatten=zm L by simp]at c2
   have c3:=FD _ (vT (zm L))
   have hT:(gZ (kM (zm L))).length=4:=rfl
   have g2:(zm L).length<=32768+9:=g2
   clear c1 hs
   (refine au c3 ?_;repeat' first|apply aw|refine ah λhc=>?_|((first|apply aH rfl|apply aJ rfl);(focus (try apply ag rfl rfl rfl rfl rfl);first|((apply bn 15;(focus rfl);exact Mx ⟨rfl,rfl,rfl⟩ rfl aS aS rfl rfl (fw rfl rfl)))|((refine um (ids:=[600]) (c2) (hg:=?_);(refine jf.cons ?_ jf.nil;exact R4 rfl rfl rfl (cc.row rfl rfl rfl)))));refine au c3 ?_))
   refine dV ?_ ?_
   ·refine f9 rfl rfl ?_
    show _=Blk.row _ _ ((zm L++_).map byteP)
    rw[List.map_append];rfl
   ·exact aq rfl rfl
theorem VD (b:List UInt8)(hb:b.length<=1000000000):Fn prog 108 [.per (aK b)] (.tup3 (.per (aK (iz b).1)) (eA ((iz b).2.1:Nat)) (eA (iz b).2.2)):=by
 unfold iz
 by_cases he:(bj b).2.2≠0
 ·rw[aae he]
  have hN:bI b 0=(0,b,(bj b).2.2):=by grind[bI]
  have h1:=iy b 0
  rw[hN]at h1
  have h2:=nW b (bj b).2.2
  have h3:=wZ b (bj b).2.2
  generalize (bj b).2.2=e at *
  refine fi func108 ntmps108 ?_
  (refine wN h1 h2 h3 (mR b hb) ?_;refine ah λhc=>?_)
  refine⟨.inl rfl,mg rfl ?_ ?_ ?_⟩
  ·exact eZ rfl
  ·exact aq rfl rfl
  ·exact aq rfl rfl
 rw[aab he]
 have he:(bj b).2.2=0:=aaG.1 he
 obtain⟨_,_,hk,hn⟩:=BS he
 have hN:bI b 0=(((bj b).1:Int),b.drop (bj b).2.1,0):=by grind[bI]
 have h1:=iy b 0
 rw[hN]at h1
 simp only at h1
 generalize (bj b).1=n at *
 generalize (bj b).2.1=k at *
 have h2:=nW (b.drop k) 0
 have h3:=wZ (b.drop k) 0
 have hl:(b.drop k).length=b.length-k:=abe
 generalize hd:b.drop k=d at *
 clear hN he
 by_cases hm:32768<n
 ·rw[aae hm]
  clear hd
  refine fi func108 ntmps108 ?_
  (refine wN h1 h2 h3 (mR b hb) ?_;repeat' first|apply aw|refine ah λhc=>?_)
  refine⟨.inl rfl,mg rfl ?_ ?_ ?_⟩
  ·exact eZ rfl
  ·exact aq rfl rfl
  ·exact aq rfl rfl
 rw[aab hm]
 by_cases hs:b.length<k+n+4
 ·rw[aae hs]
  clear hd
  refine fi func108 ntmps108 ?_
  (refine wN h1 h2 h3 (mR b hb) ?_;repeat' first|apply aw|refine ah λhc=>?_)
  refine⟨.inl rfl,mg rfl ?_ ?_ ?_⟩
  ·exact eZ rfl
  ·exact aq rfl rfl
  ·exact aq rfl rfl
 rw[aab hs]
 have e1:((b.length:Nat):Int)-((d.length:Nat):Int)=(k:Int):=ae
 have e2:(k:Int)+(n:Int)+4=((k+n+4:Nat):Int):=ae
 have h4:=(My (b.take (k+n+4)) (by rw[aaK];omega)).frz
 rw[FE ae]at h4
 have hlt:(b.take (k+n+4)).length-4=k+n:=by rw[aaK];omega
 rw[hlt,List.take_take,show min (k+n) (k+n+4)=k+n by omega]at h4
 by_cases hc4:(b.drop (k+n)).take 4=gZ (kM (b.take (k+n)))
 ·rw[aae hc4]
  rw[aao hc4,aae rfl]at h4
  have hT:=Mz (b:=b) k n
  rw[hd]at hT
  have hTl:(b.take (k+n)).length=k+n:=by rw[aaK];omega
  generalize b.take (k+n)=T at *
  clear hd hc4 hlt
  refine fi func108 ntmps108 ?_
  (refine nV e1 e2 h4 h1 h2 h3 (mR b hb) ?_;repeat' first|apply aw|refine ah λhc=>?_)
  refine⟨.inl rfl,mg rfl ?_ ?_ ?_⟩
  ·exact lO rfl hT
  ·exact aq rfl rfl
  ·exact aq rfl rfl
 ·rw[aab hc4]
  rw[aap hc4,aab aA]at h4
  clear hd hc4 hlt
  refine fi func108 ntmps108 ?_
  (refine nV e1 e2 h4 h1 h2 h3 (mR b hb) ?_;repeat' first|apply aw|refine ah λhc=>?_)
  refine⟨.inl rfl,mg rfl ?_ ?_ ?_⟩
  ·exact eZ rfl
  ·exact aq rfl rfl
  ·exact aq rfl rfl
theorem VE (b:List UInt8)(hb:b.length<=1000000000):Fn prog 49 [.per (aK b)] (.tup2 (.per (aK (iA b).1)) (eA (iA b).2)):=by
 have h1:=VD b hb
 unfold iA
 generalize iz b=q at *
 obtain⟨x,n,e⟩:=q
 simp only at h1 ⊢
 by_cases c:e=0/\n<b.length
 ·rw[aae c]
  obtain⟨rfl,c⟩:=c
  refine fi func49 ntmps49 ?_
  (refine au h1 ?_;refine ah λhc=>?_)
  exact dV (eZ rfl) (aq rfl rfl)
 ·rw[aab c]
  refine fi func49 ntmps49 ?_
  (refine au h1 ?_;repeat' first|apply aw|refine ah λhc=>?_)
  all_goals first|(exfalso;exact c ⟨ae,ae⟩)|skip
  all_goals refine dV ?_ ?_
  all_goals first|exact cS rfl|exact aq rfl rfl
theorem FF (l:List UInt8)(hl:l.length<=1000000000000):Fn prog 168 [dw l] (.per (ai (.int .u32 (kM l:Nat)))):=by
 unfold kM
 generalize hF:xH 4294967295 l=F at *
 refine fi func168 ntmps168 ?_
 (refine w0 ?_)
 refine aj (X:=Nat×Nat) (λx=>x.1<=l.length/\x.2<4294967296/\xH x.2 (l.drop x.1)=F)
  (λx=>aF [(0,dw l),(3,iC .u32 (x.2:Nat)),(4,iC .i64 (x.1:Nat))] []) (λx=>l.length-x.1) (0,4294967295) ⟨aag _,bP,hF⟩ ?_
 rintro⟨i,s⟩ ⟨h1,h2,h3⟩
 simp only at h1 h2 h3 ⊢
 by_cases hi:i<l.length
 ·rw[List.drop_eq_getElem_cons hi,A8]at h3
  have hc8:=l[i].toNat_lt
  have hx:=u32_xor_nat s l[i].toNat h2 ae
  have hw:=qL l[i]
  have hlt:s ^^^ l[i].toNat<4294967296:=Nat.xor_lt_two_pow (n:=32) ae ae
  have hb0:Hu s l[i]=UF 8 (s ^^^ l[i].toNat):=rfl
  rw[hb0]at h3
  clear hb0
  generalize s ^^^ l[i].toNat=s0 at *
  clear hF
  (repeat' (first|((first|apply aH rfl|apply cB rfl|apply aJ rfl|apply cC rfl);focus (first|((apply bn 10;(focus rfl);exact dR ⟨rfl,rfl,rfl⟩ rfl aS aS rfl hw))|(apply gR;(focus rfl);apply ag rfl rfl rfl rfl rfl;((apply bn 10;(focus rfl);exact dR ⟨rfl,rfl,rfl⟩ rfl aS aS rfl hw)))|((exact pt ⟨rfl,rfl,rfl⟩ rfl rfl rfl hx))|(apply gR;(focus rfl);apply ag rfl rfl rfl rfl rfl;((exact pt ⟨rfl,rfl,rfl⟩ rfl rfl rfl hx)))))|refine oq ?_|refine bW cI ?_|(refine dW rfl rfl ⟨λhc=>?_,λhc=>?_⟩<;>(repeat rw[aad]at hc)<;>(try exact cj hc))|((first|refine dX rfl rfl rfl ⟨λhc=>?_,λhc=>?_⟩|refine dY rfl rfl rfl ⟨λhc=>?_,λhc=>?_⟩)<;>(fail_if_success (have q:(true=true):=hc))<;>(fail_if_success (have q:(false=false):=hc))<;>(repeat rw[aad]at hc)<;>(try exact cj hc))|refine aQ rfl rfl (λhc=>?_) ?_))
  refine aj (X:=Nat×Nat) (λx=>x.1<=8/\x.2<4294967296/\xH (UF (8-x.1) x.2) (l.drop (i+1))=F)
   (λx=>aF [(0,dw l),(3,iC .u32 (x.2:Nat)),(4,iC .i64 (i:Nat)),(5,iC .i64 (x.1:Nat))] []) (λx=>8-x.1) (0,s0) ⟨ae,hlt,h3⟩ ?_
  clear hx hw hlt h3 h2 hc8
  rintro⟨k,s⟩ ⟨h1,h2,h3⟩
  simp only at h1 h2 h3 ⊢
  by_cases hk:k<8
  ·have hX:bits .xor .u32 ((s:Int) / 2) 3988292384=((s / 2 ^^^ 3988292384:Nat):Int):=u32_xor_nat (s / 2) 3988292384 ae ae
   have hq:IntKind.u32.wrap ((s:Int).tdiv 2)=(s:Int) / 2:=by rw[abf ae,IntKind.wrap_u32'];omega
   have hlt:=B8 h2
   obtain⟨m,hm⟩:∃m,8-k=m+1:=⟨7-k,ae⟩
   rw[hm,UF]at h3
   by_cases hb:s % 2=1
   ·have e:xG s=s / 2 ^^^ 3988292384:=by grind[xG]
    rw[e]at h3 hlt
    (repeat' (first|((first|apply aH rfl|apply cB rfl|apply aJ rfl|apply cC rfl);focus (first|((exact kv ⟨rfl,rfl,rfl⟩ rfl rfl rfl bP hq))|(apply gR;(focus rfl);apply ag rfl rfl rfl rfl rfl;((exact kv ⟨rfl,rfl,rfl⟩ rfl rfl rfl bP hq)))))|refine oq ?_|refine bW cI ?_|(refine dW rfl rfl ⟨λhc=>?_,λhc=>?_⟩<;>(repeat rw[aad]at hc)<;>(try exact cj hc))|((first|apply aH rfl|apply cB rfl|apply aJ rfl|apply cC rfl);focus (first|((exact pt ⟨rfl,rfl,rfl⟩ rfl rfl rfl hX))|(apply gR;(focus rfl);apply ag rfl rfl rfl rfl rfl;((exact pt ⟨rfl,rfl,rfl⟩ rfl rfl rfl hX)))))|((first|refine dX rfl rfl rfl ⟨λhc=>?_,λhc=>?_⟩|refine dY rfl rfl rfl ⟨λhc=>?_,λhc=>?_⟩)<;>(fail_if_success (have q:(true=true):=hc))<;>(fail_if_success (have q:(false=false):=hc))<;>(repeat rw[aad]at hc)<;>(try exact cj hc))|refine aQ rfl rfl (λhc=>?_) ?_))
    refine⟨(k+1,s / 2 ^^^ 3988292384),⟨aL,hlt,by grind⟩,aL,?_⟩
    exact ab
   ·have e:xG s=s / 2:=by grind[xG]
    rw[e]at h3 hlt
    clear hX
    (repeat' (first|((first|apply aH rfl|apply cB rfl|apply aJ rfl|apply cC rfl);focus (first|((exact kv ⟨rfl,rfl,rfl⟩ rfl rfl rfl bP hq))|(apply gR;(focus rfl);apply ag rfl rfl rfl rfl rfl;((exact kv ⟨rfl,rfl,rfl⟩ rfl rfl rfl bP hq)))))|refine oq ?_|refine bW cI ?_|(refine dW rfl rfl ⟨λhc=>?_,λhc=>?_⟩<;>(repeat rw[aad]at hc)<;>(try exact cj hc))|((first|refine dX rfl rfl rfl ⟨λhc=>?_,λhc=>?_⟩|refine dY rfl rfl rfl ⟨λhc=>?_,λhc=>?_⟩)<;>(fail_if_success (have q:(true=true):=hc))<;>(fail_if_success (have q:(false=false):=hc))<;>(repeat rw[aad]at hc)<;>(try exact cj hc))|refine aQ rfl rfl (λhc=>?_) ?_))
    refine⟨(k+1,s / 2),⟨aL,hlt,by grind⟩,aL,?_⟩
    exact ab
  ·have hk:k=8:=ae
   subst hk
   have h3:xH s (l.drop (i+1))=F:=h3
   (refine w0 ?_;refine ah λhc=>?_)
   refine⟨(i+1,s),⟨aL,h2,h3⟩,aL,?_⟩
   exact ab
 ·rw[aay ae]at h3
  have h3:s=F:=h3
  subst h3
  have hX:bits .xor .u32 (s:Int) 4294967295=((s ^^^ 4294967295:Nat):Int):=u32_xor_nat s 4294967295 h2 bP
  clear hF
  (refine w0 ?_;repeat' first|apply aw|refine ah λhc=>?_|((first|apply aH rfl|apply aJ rfl);(focus (try apply ag rfl rfl rfl rfl rfl);((exact pt ⟨rfl,rfl,rfl⟩ rfl rfl rfl hX)));refine w0 ?_))
  exact uZ
theorem Ba (s:Nat)(hs:s<4294967296):Fn prog 167 [iC .u32 (s:Nat)] (gN (gZ s)):=by
 rw[<-WF]
 refine fi func167 ntmps167 ?_
 (refine w0 ?_)
 refine bw (bS 3 600 5 1 rfl rfl) ?_
 refine aj (X:=Nat) (λk=>k<=4) (λk=>aF [(0,iC .u32 (s / 256 ^ k:Nat)),(3,.row 600 0),(4,iC .i64 (k:Nat))] [(600,.row 5 1 ((Gm k s).map byteP))]) (λk=>4-k) 0 ae ?_
 intro k hk
 by_cases hlt:k<4
 ·have hS:=yJ k s
  have hl:=qp k s
  have hp:s / 256 ^ (k+1)=s / 256 ^ k / 256:=by rw[Nat.pow_succ,Nat.div_div_eq_div_mul]
  have hb:s / 256 ^ k<4294967296:=Nat.lt_of_le_of_lt (Nat.div_le_self _ _) hs
  generalize s / 256 ^ k=q at *
  generalize hq':s / 256 ^ (k+1)=q' at *
  have hW:IntKind.u8.wrap ((q:Int) % 256)=((UInt8.ofNat q).toNat:Int):=by rw[<-mc,IntKind.wrap_u8',IntKind.wrap_u8'];omega
  have hq:IntKind.u32.wrap ((q:Int).tdiv 256)=(q':Int):=by rw[abf ae,IntKind.wrap_u32'];omega
  (repeat' (first|((first|apply aH rfl|apply cB rfl|apply aJ rfl|apply cC rfl);focus (first|((apply bn 10;(focus rfl);exact dR ⟨rfl,rfl,rfl⟩ rfl aS aS rfl hW))|(apply gR;(focus rfl);apply ag rfl rfl rfl rfl rfl;((apply bn 10;(focus rfl);exact dR ⟨rfl,rfl,rfl⟩ rfl aS aS rfl hW)))|((exact kv ⟨rfl,rfl,rfl⟩ rfl rfl rfl bP hq))|(apply gR;(focus rfl);apply ag rfl rfl rfl rfl rfl;((exact kv ⟨rfl,rfl,rfl⟩ rfl rfl rfl bP hq)))))|refine oq ?_|refine bW cI ?_|(refine dW rfl rfl ⟨λhc=>?_,λhc=>?_⟩<;>(repeat rw[aad]at hc)<;>(try exact cj hc))|((first|refine dX rfl rfl rfl ⟨λhc=>?_,λhc=>?_⟩|refine dY rfl rfl rfl ⟨λhc=>?_,λhc=>?_⟩)<;>(fail_if_success (have q:(true=true):=hc))<;>(fail_if_success (have q:(false=false):=hc))<;>(repeat rw[aad]at hc)<;>(try exact cj hc))|refine aQ rfl rfl (λhc=>?_) ?_))
  refine⟨k+1,ae,ae,?_⟩
  rw[hS,hq']
  exact ab
 ·obtain rfl:k=4:=ae
  (refine w0 ?_;refine ah λhc=>?_)
  exact dr (cJ rfl rfl rfl rfl)
theorem IP (b:List UInt8)(hb:b.length<=1000000000):Fn prog 239 [dw b] (eA (if WI b then((b.length-4:Nat):Int)else -1)):=by
 by_cases h4:b.length<4
 ·rw[A9 h4]
  refine fi func239 ntmps239 ?_
  (refine w0 ?_;refine ah λhc=>?_)
  exact uZ
 obtain⟨n,hn⟩:∃n,b.length=n+4:=⟨b.length-4,ae⟩
 rw[yK hn,show b.length-4=n by omega]
 have h1:=FF (b.take n) (by rw[aaK];omega)
 have h2:=(Ba _ (vT (b.take n))).frz
 have hT:(gZ (kM (b.take n))).length=4:=rfl
 generalize gZ (kM (b.take n))=T at *
 have hN:((b.length:Nat):Int)-4=(n:Int):=ae
 generalize hD:b.drop n=D
 have hDl:D.length=4:=by rw[<-hD,abe];omega
 have hDg:∀(k:Nat)(h:k<D.length),b[n+k]'(ae)=D[k]:=λk h=>by grind
 refine fi func239 ntmps239 ?_
 (refine bz hN h1 h2 ?_;refine ah λhc=>?_)
 refine aj (X:=Nat) (λk=>k<=4/\D.take k=T.take k) (λk=>aF [(0,dw b),(3,iC .i64 (n:Nat)),(4,.per (aK T)),(5,iC .i64 (k:Nat))] []) (λk=>4-k) 0 ⟨ae,rfl⟩ ?_
 rintro k ⟨hk,hE⟩
 by_cases hlt:k<4
 ·have hI:(n:Int)+(k:Int)=((n+k:Nat):Int):=ae
  have hg:=hDg k ae
  clear h1 h2 hN
  (refine eG hI ?_;repeat' first|apply aw|refine ah λhc=>?_)
  ·have hne:¬D=T:=λe=>by grind
   rw[aap hne]
   exact uZ
  ·have e:D[k]'(ae)=T[k]'(ae):=by rw[<-hg];grind[abg]
   refine⟨k+1,⟨ae,WJ hE ae ae e⟩,ae,?_⟩
   exact ab
 ·obtain rfl:k=4:=ae
  have e:D=T:=by rw[<-hDl,aa9,hDl,<-hT,aa9]at hE;exact hE
  rw[aao e,aae rfl]
  clear h1 h2
  (refine w0 ?_;refine ah λhc=>?_)
  exact uZ
theorem R7 (l:List UInt8)(hl:l.length<=1000000000):Fn prog 83 [dw l] (gN (Tg l)):=by
 have hn9:=bv (l.length:Int) ae
 have h1:=iZ (l.length:Int) (by unfold bF;omega)
 have h2:=FF (zm l) (by rw[vV];omega)
 have h3:=Ba _ (vT (zm l))
 have hlen:=vV l
 have hT:(gZ (kM (zm l))).length=4:=rfl
 have e:Tg l=aO (l.length:Nat)++l++gZ (kM (zm l)):=rfl
 rw[e]
 clear e
 have e2:zm l=aO (l.length:Nat)++l:=rfl
 rw[e2]at h2 h3 hT ⊢
 generalize gZ (kM (aO (l.length:Nat)++l))=T at *
 generalize aO (l.length:Nat)=N at *
 replace h2:Fn prog 168 [.bor 1 (N.map byteP++l.map byteP)] (.per (ai (.int .u32 (kM (N++l):Nat)))):=by rw[<-List.map_append];exact h2
 refine fi func83 ntmps83 ?_
 (refine fF h1 h2 h3 ?_)
 refine dr ?_
 refine f9 rfl rfl ?_
 show _=Blk.row _ _ ((N++l++T).map byteP)
 rw[List.map_append,List.map_append];rfl
theorem R8 (b:List UInt8)(hb:b.length<=1000000000):Fn prog 169 [.per (aK b)] (.tup3 (.per (aK (iz b).1)) (eA ((iz b).2.1:Nat)) (eA (iz b).2.2)):=by
 unfold iz
 have h1:=Pb b
 by_cases he:(bj b).2.2≠0
 ·rw[aae he]
  generalize (bj b).2.2=e at *
  refine fi func169 ntmps169 ?_
  (refine au h1 ?_;refine ah λhc=>?_)
  refine⟨.inl rfl,mg rfl ?_ ?_ ?_⟩
  ·exact eZ rfl
  ·exact aq rfl rfl
  ·exact aq rfl rfl
 rw[aab he]
 have he:(bj b).2.2=0:=aaG.1 he
 obtain⟨_,_,hk,hn⟩:=BS he
 rw[he]at h1
 generalize (bj b).1=n at *
 generalize (bj b).2.1=k at *
 clear he
 by_cases hm:32768<n
 ·rw[aae hm]
  refine fi func169 ntmps169 ?_
  (refine au h1 ?_;repeat' first|apply aw|refine ah λhc=>?_)
  refine⟨.inl rfl,mg rfl ?_ ?_ ?_⟩
  ·exact eZ rfl
  ·exact aq rfl rfl
  ·exact aq rfl rfl
 rw[aab hm]
 by_cases hs:b.length<k+n+4
 ·rw[aae hs]
  refine fi func169 ntmps169 ?_
  (refine au h1 ?_;repeat' first|apply aw|refine ah λhc=>?_)
  refine⟨.inl rfl,mg rfl ?_ ?_ ?_⟩
  ·exact eZ rfl
  ·exact aq rfl rfl
  ·exact aq rfl rfl
 rw[aab hs]
 have h4:=IP (b.take (k+n+4)) (by rw[aaK];omega)
 rw[FE ae]at h4
 have hlt:(b.take (k+n+4)).length-4=k+n:=by rw[aaK];omega
 rw[hlt]at h4
 by_cases hc4:(b.drop (k+n)).take 4=gZ (kM (b.take (k+n)))
 ·rw[aae hc4]
  rw[aao hc4,aae rfl]at h4
  clear hc4 hlt
  have hT:(b.drop k).take (k+n-k)=(b.drop k).take n:=by rw[show k+n-k=n by omega]
  refine fi func169 ntmps169 ?_
  (refine zU (show(k:Int)+(n:Int)=((k+n:Nat):Int)by omega) (show((k+n:Nat):Int)+4=((k+n+4:Nat):Int)by omega) h1 h4 ?_;repeat' first|apply aw|refine ah λhc=>?_)
  refine⟨.inl rfl,mg rfl ?_ ?_ ?_⟩
  ·exact lO rfl hT
  ·exact aq rfl rfl
  ·exact aq rfl rfl
 ·rw[aab hc4]
  rw[aap hc4,aab aA]at h4
  clear hc4 hlt
  refine fi func169 ntmps169 ?_
  (refine zU (show(k:Int)+(n:Int)=((k+n:Nat):Int)by omega) (show((k+n:Nat):Int)+4=((k+n+4:Nat):Int)by omega) h1 h4 ?_;repeat' first|apply aw|refine ah λhc=>?_)
  refine⟨.inl rfl,mg rfl ?_ ?_ ?_⟩
  ·exact eZ rfl
  ·exact aq rfl rfl
  ·exact aq rfl rfl
theorem R9 (b:List UInt8)(hb:b.length<=1000000000):Fn prog 84 [.per (aK b)] (.tup2 (.per (aK (iA b).1)) (eA (iA b).2)):=by
 have h1:=R8 b hb
 unfold iA
 generalize iz b=q at *
 obtain⟨x,n,e⟩:=q
 simp only at h1 ⊢
 by_cases c:e=0/\n<b.length
 ·rw[aae c]
  obtain⟨rfl,c⟩:=c
  refine fi func84 ntmps84 ?_
  (refine au h1 ?_;refine ah λhc=>?_)
  exact dV (eZ rfl) (aq rfl rfl)
 ·rw[aab c]
  refine fi func84 ntmps84 ?_
  (refine au h1 ?_;repeat' first|apply aw|refine ah λhc=>?_)
  all_goals first|(exfalso;exact c ⟨ae,ae⟩)|skip
  all_goals refine dV ?_ ?_
  all_goals first|exact cS rfl|exact aq rfl rfl
abbrev bR (m:Msg):List PV:=[ai (.int .i64 m.kind),ai (.int .i64 m.ses),ai (.int .i64 m.num),ai (.int .i64 m.lim),ai (.int .i64 m.seed),ai (.int .i64 m.bits),ai (.int .i64 m.nxt),ai (.int .i64 m.err),ai (.bool m.wants),ai (.bool m.same),ai (.bool m.last),gd m.flt,ib m.know,aK m.there,ai (.string m.rg.lo),ai (.string m.rg.hi),ai (.bool m.rg.op),ai (.int .u64 (m.sum:Nat)),cX m.its]
abbrev MA (m:Msg):PV:=cu (bR m)
abbrev zw (m:Msg):Cnt:=.per (MA m)
abbrev cA:PV:=ai (.slice none 0 0)
abbrev eP:PV:=ai (.string ⟨#[]⟩)
abbrev dS:PV:=ai (.int .i64 0)
abbrev je:PV:=ai (.bool false)
abbrev ce:List PV:=[dS,dS,dS,dS,dS,dS,dS,dS,je,je,je,cA,cA,cA,eP,eP,je,ai (.int .u64 0),cA]
end Go.Proofs.YtecdgdoledkdfaaGreat
namespace Go.Proofs.YtecdgdoledkdfaaGreat
open Go.RowKit Go.WideMaps Go Go.Proofs.Tryz
def VF (n:Int):DataW Unit:=.lit (.int .i64 n)
def CK (P:Program)(K E:TypeId)(n:Nat)(f:ByteArray->Int):OV where
 p F _ w v:=∃(b:Nat)(D:DataW Unit),v=.map (some b)/\F b/\World.ownsMap w P K (plainElem P E) b n D/\∀s:ByteArray,s.size<=maxLen->D.atKey (.string s.data.toList) (VF 0)=VF (f s)
 mono:=by
  rintro F F' N N' w w' v h1 h2 h3 h4 h5 h6 ⟨b,D,rfl,hb,⟨es,clock,q1,q2,q3,q4⟩,hD⟩
  exact⟨b,D,rfl,h1 b hb,⟨es,clock,by rw[h4 b (h2 b hb) hb];exact q1,q2,q3,q4⟩,hD⟩
 one:=by
  rintro F N w v ⟨b,D,rfl,_⟩
  exact⟨rfl,rfl⟩
section
variable {P:Program} {n t:Nat} {ops:Array Oper} {o:Oper} {S:St} {K E:TypeId}
theorem Sa {ty:TypeId}(hp:Pl n o t)(ho:o.op=.makeMap ty none):aB n P ops o [2*t+1] (.row t (S.ver t+1)) [(t,S.ver t+1,.obj (CK P K E 0 (λ_=>0)))] S:=
 rM hp aA λC T g a w hA hR=>by
  refine⟨.map (some w.heap.size),w.alloc (.map #[] 0),w.heap.size,?_,(bQ.refl w).alloc _,aaf _,gU _ _,λvr' hvr hst=>⟨?_,?_⟩⟩
  ·simp only[execOp,ho,Sem.run_bind];rfl
  ·exact⟨by rw[hvr,aae rfl];exact aaf _,λ_=>(aae rfl).symm⟩
  ·have hrh:(g.mk1 t w.heap.size (.map (some w.heap.size))).rh t=.map (some w.heap.size):=aae rfl
   refine⟨w.heap.size,.map [],hrh,aae rfl,World.ownsMap_made _ _ _ _,λs _=>rfl⟩
theorem MB {ty:TypeId}{x k:Operand}{id vr m:Nat}{f:ByteArray->Int}{s:ByteArray}(hp:Pl n o t)(ho:o.op=.lookup ty x k false)(hK:P.underlying K=some .string)(hT:P.underlying ty=some (.map K E))(hE:P.underlying E=some (.int .i64))
 (hz:∀w:World,(zeroValue E).run P w=.ok (.int .i64 0) w) (hx:S.opd x=.row id vr) (hv:S.ver id=vr) (hb:S.blk id=.obj (CK P K E m f)) (hk:S.opd k=sC s) (hs:s.size<=maxLen) :
 aB n P ops o ((2*id+1)::(aG x++aG k)) (iC .i64 (f s)) [] S:=
 aZ hp λC T g a w hA hR=>by
  have hxe:=aM (x:=x) hA (λk h=>by simp[h]) hR
  rw[hx]at hxe
  have hvt:=(hA.2 id aA).2
  have hev:=hxe.2 (by rw[hvt,hv])
  have hke:=bf (x:=k) hA (λk h=>by simp[h]) hR hk
  have hB:=hR.blks id
  rw[(hA.2 id aA).1,hb]at hB
  obtain⟨b,D,q1,q2,q3,q4⟩:=hB
  rw[q1]at hev
  obtain⟨c,hrun,hat,_⟩:=q3.lookup_int (Maps.string_keyed hK) hT hE (hz w) (keyOf_string_mk hK hs)
  have hc:c=f s:=by
   have:=q4 s hs
   grind[VF]
  refine⟨.int .i64 (f s),?_,rfl⟩
  simp_all[execOp]
theorem MC {ty:TypeId}{x k y:Operand}{id vr m:Nat}{f:ByteArray->Int}{s:ByteArray}{z:Int}(hp:Gi o)(ho:o.op=.mapUpdate ty x k y)(hK:P.underlying K=some .string)(hT:P.underlying ty=some (.map K E))(hE:P.underlying E=some (.int .i64))
 (hx:S.opd x=.row id vr) (hv:S.ver id=vr) (hb:S.blk id=.obj (CK P K E m f)) (hk:S.opd k=sC s) (hs:s.size<=maxLen) (hy:S.opd y=iC .i64 z) (hw:(Lit.int .i64 z).wf=true) (hm:m<maxLen) :
 aB n P ops o ((2*id+1)::(aG x++aG k++aG y)) .any [(id,vr,.obj (CK P K E (m+1) (λu=>if u=s then z else f u)))] S:=by
 refine⟨?_⟩
 intro C T hA a w ⟨g,hR⟩
 have hxe:=aM (x:=x) hA (λk h=>by simp[h]) hR
 rw[hx]at hxe
 have hvt:=(hA.2 id aA).2
 have hev:=hxe.2 (by rw[hvt,hv])
 have hke:=bf (x:=k) hA (λk h=>by simp[h]) hR hk
 have hye:=bf (x:=y) hA (λk h=>by simp[h]) hR hy
 have hB:=hR.blks id
 rw[(hA.2 id aA).1,hb]at hB
 obtain⟨b,D,q1,q2,q3,q4⟩:=hB
 rw[q1]at hev
 obtain⟨w',hrun,r1,r2⟩:=q3.update (Maps.string_keyed hK) hT hm (keyOf_string_mk hK hs) (plainElem_int hE hw)
 unfold jg
 rw[aae (by simp[Region.wanted,hp.1])]
 unfold Oper.wp
 have hex:(execOp a.eval o).run P w=.ok .skip w':=by simp_all[execOp]
 rw[hex,Oper.upon_skip]
 have hver:(T.app o.dst .any [(id,vr,.obj (CK P K E (m+1) (λu=>if u=s then z else f u)))]).ver=T.ver:=by
  funext i'
  rw[St.app_some_ver]
  grind
 have hst:oi C (λi=>i=id) T.ver T.ver g g w w':=by
  refine⟨r2.size,λb' hb' hn=>r2.block b' hb' (λe=>by grind),λb _ _=>rfl,λb _ h=>h,λb i e=>?_,λ_=>.inl rfl,λ_ _=>⟨rfl,rfl⟩,λ_ _=>⟨rfl,rfl⟩,r2.os,r2.tape,r2.output⟩
  have:=hR.dom b i e
  exact⟨aa4 this.1 r2.size,this.2⟩
 refine⟨g,hR.app1 (c:=.any) (λt h=>by rw[hp.2]at h;cases h) (by rw[hver];exact hst) trivial ?_⟩
 rw[hver]
 refine⟨b,_,q1,q2,r1,λu hu=>?_⟩
 by_cases e:u=s
 ·subst e
  show _=VF (if u=u then z else f u)
  rw[aae rfl]
  exact Maps.atKey_put_same (by obtain⟨_,_,_,_,_,h⟩:=q3;exact⟨_,h⟩) (by trivial) _ _
 grind[Maps.atKey_put_other,ByteArray.ext,Array.toList_inj]
end
