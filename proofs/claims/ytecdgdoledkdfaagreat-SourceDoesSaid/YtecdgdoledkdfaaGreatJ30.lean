/- Lemmas, walks. -/
import Derived.Test.YtecdgdoledkdfaaGreatJ29
set_option maxRecDepth 10000
set_option maxHeartbeats 8000000
namespace Go.Proofs.YtecdgdoledkdfaaGreat
open Go.RowKit Go.Proofs.Tryz
def ThB (l:List UInt8)(seed:Int)(th:PV):Prop:=(l=[]/\th=nptQ)\/(0<l.length/\l.length<=1000000/\0<=seed/\seed<=281474976710656/\∃cs,th=em cs/\Fn prog 102 [dw l,iC .u64 seed] (.tup2 (.per th) (eA 0)))
abbrev srB (x:Srv)(p:PV):Blk:=.box 58 (((WP x)++[nptQ,p,aK x.rep]).map Cnt.per)
theorem SP {A:List Cnt}{x y:Cnt}(h:TP x y):∀(j:Nat)(c c':Cnt),(A++[x])[j]?=some c->(A++[y])[j]?=some c'->TP c c':=λj c c' h1 h2=>by
 rcases aaF j A.length with q|q
 ·rw[aaz q]at h1 h2
  cases h1.symm.trans h2
  exact λ_ _ _ _ _ h=>h
 ·rw[List.getElem?_append_right q]at h1 h2
  generalize j-A.length=k at h1 h2
  cases k with
  | zero=>cases h1;cases h2;exact h
  | succ=>cases h1
theorem MW (x:Srv)(d:Option DsS)(hd:∀e,d=some e->Fn prog 126 [cU e.fd] (pn (mx e.fd)))(th:PV)(hs:Int->Int->Bool)(hA:RR x.s x.hello.flt x.hello.know x.hello.lim (WO d) th hs)(hth:ThB x.hello.there x.hello.seed th)
 (M:List (List It)×List Pc×Int) (hM:gA x.s x.hello.flt x.hello.know x.hello.lim (WO d) hs=M) (hE:M.2.2≠0) (hl:(AZ x.ses x.num M.2.2).length<=1000000000) :
 bZ prog 155 [.ptr 1000 0 0] (bB x nptQ d) (.per (aK (AZ x.ses x.num M.2.2))) (bB { x with rep:=AZ x.ses x.num M.2.2 } nptQ d):=by
 have a1:=FZ d hd
 have a3:=uT x.ses x.num M.2.2
 have a4:=(rD _ hl).frz
 have a2:=Ki hA
 rw[hM]at a2
 generalize AZ x.ses x.num M.2.2=R at *
 generalize WO d=F at *
 clear hM hA hl hd
 rcases hth with⟨h1,h2⟩|⟨h1,h2,h3,h4,cs,rfl,h5⟩
 ·subst h2
  have h1:x.hello.there.length=0:=by rw[h1];rfl
  rcases d with _|d
  all_goals
   refine cp func155 ntmps155 ?_
   (have km1:=(show fK V0 _ _ _ _ _ _ from a1);have kc1:=a2;have kc2:=a3;have kc3:=a4;refine w0 ?_;(repeat' first|apply aw|refine ah λhc=>?_);all_goals clear kc3 kc2 kc1 km1)
   refine jB (qO) ?_
   exact bA rfl rfl
 ·rcases d with _|d
  all_goals
   refine cp func155 ntmps155 ?_
   (have km1:=(show fK V0 _ _ _ _ _ _ from a1);have kc1:=h5;have kc2:=a2;have kc3:=a3;have kc4:=a4;have kh1:=Lib.hid (show(0:Int) / 2=0 from rfl);refine rF ?_;(repeat' first|apply aw|refine ah λhc=>?_);all_goals clear kh1 kc4 kc3 kc2 kc1 km1)
   refine jB (qO) ?_
   exact bA rfl rfl
theorem Bg (x y:Srv)(d:Option DsS)(hd:∀e,d=some e->Fn prog 126 [cU e.fd] (pn (mx e.fd)))(th:PV)(hs:Int->Int->Bool)(hA:RR x.s x.hello.flt x.hello.know x.hello.lim (WO d) th hs)(hth:ThB x.hello.there x.hello.seed th)
 (M:List (List It)×List Pc×Int) (hM:gA x.s x.hello.flt x.hello.know x.hello.lim (WO d) hs=M) (hE:M.2.2=0) (hy:y={ x with bat:=M.1,lrn:=M.2.1 }) (h0:0<M.1.length) (hbl:M.1.length<=1000000000)
 (hB:uN { tk M.1 M.2.1 0 with ses:=x.ses,num:=x.num }) (hl:(y.batch 0).rep.length<=1000000000) :
 bZ prog 155 [.ptr 1000 0 0] (bB x nptQ d) (.per (aK (y.batch 0).rep)) (bB (y.batch 0) (wl M.1 M.2.1) d):=by
 have a1:=FZ d hd
 have a2:=Ki hA
 rw[hM]at a2
 have a3:bZ prog 80 [.ptr 1000 0 0,iC .i64 0] (bB x (wl M.1 M.2.1) d) (.per (aK (y.batch 0).rep)) (bB (y.batch 0) (wl M.1 M.2.1) d):=by
  have:=F3 y d 0 (by rw[hy];exact h0) (by rw[hy];exact hbl) (by rw[hy];exact hB) hl
  rw[show y.bat=M.1 by rw[hy],show y.lrn=M.2.1 by rw[hy],show bB y (wl M.1 M.2.1) d=bB x (wl M.1 M.2.1) d by subst hy;rfl]at this
  exact this
 have e:bB (y.batch 0) (wl M.1 M.2.1) d=bB { x with rep:=(y.batch 0).rep } (wl M.1 M.2.1) d:=by subst hy;rfl
 rw[e]at a3 ⊢
 generalize (y.batch 0).rep=R at *
 generalize WO d=F at *
 clear hM hA hl e hy hB hd
 rcases hth with⟨h1,h2⟩|⟨h1,h2,h3,h4,cs,rfl,h5⟩
 ·subst h2
  have h1:x.hello.there.length=0:=by rw[h1];rfl
  rcases d with _|d
  all_goals
   refine cp func155 ntmps155 ?_
   (refine ld a2 (gn V0 a1) ?_;repeat' first|apply aw|refine ah λhc=>?_)
   refine aV (tZ 4 _ 136 rfl rfl rfl) ?_
   (refine ee (gn qO a3) ?_)
   refine jB (qO) ?_
   exact bA rfl rfl
 ·rcases d with _|d
  all_goals
   refine cp func155 ntmps155 ?_
   (have km1:=(show fK V0 _ _ _ _ _ _ from a1);have kc1:=h5;have kc2:=a2;have kh1:=Lib.hid (show(0:Int) / 2=0 from rfl);refine rF ?_;(repeat' first|apply aw|refine ah λhc=>?_);all_goals clear kh1 kc2 kc1 km1)
   refine aV (tZ 4 _ 136 rfl rfl rfl) ?_
   (refine ee (gn qO a3) ?_)
   refine jB (qO) ?_
   exact bA rfl rfl
theorem CS (x:Srv)(p:PV)(d:Option DsS)(hd:YK d=[])(R:List UInt8)(y:Srv)(q:PV)(a1:bZ prog 155 [.ptr 1000 0 0] (bB x p d) (.per (aK R)) (bB y q d)) :
 bZ prog 78 [.ptr 1000 0 0] (bB x p d) (.per (aK R)) (bB y q d):=by
 have a0:=F0 d hd
 rcases d with _|d
 all_goals
  refine cp func78 ntmps78 ?_
  (refine nT (gn V0 a0) (gn qO a1) ?_;repeat' first|apply aw|refine ah λhc=>?_)
  refine jB (qO) ?_
  exact bA rfl rfl
theorem SQ (x:Srv)(p:PV)(d:DsS)(L:List DPt)(o:DPt)(hL:d.L=L++[o])(z:Nat)(hz:cut (FS d.t o.r).2 d.b=(z:Int))(hl:L.length<=1000000)(hs:d.t.siz<=1000000)(hw:∀x∈d.t.lst,x.key.size<=1000000000)
 (hB:uN { kind:=4,ses:=x.ses,num:=x.num,rg:=o.r,sum:=z }) (hB2:(oz x.ses x.num { kind:=4,rg:=o.r,sum:=z }).length<=1000000000) :
 bZ prog 78 [.ptr 1000 0 0] (bB x p (some d)) (.per (aK (oz x.ses x.num { kind:=4,rg:=o.r,sum:=z }))) (bB { x with rep:=oz x.ses x.num { kind:=4,rg:=o.r,sum:=z } } p (some d)):=by
 obtain⟨t,sd,b,L',fd,ak⟩:=d
 simp only at hL hz hs hw
 subst hL
 have a0:=FX t sd b L o fd ak hl hs hw
 rw[hz]at a0
 have a1:=(SN x p (some ⟨t,sd,b,L++[o],fd,ak⟩) { kind:=4,rg:=o.r,sum:=z } hB hB2).argsW (As:=[.ptr 1000 0 0,.per (cu [ai (.int .i64 4),dS,dS,dS,dS,dS,dS,dS,je,je,je,cA,cA,cA,ai (.string o.r.lo),ai (.string o.r.hi),ai (.bool o.r.op),ai (.int .u64 z),cA])]) (.same (.per aI .nil))
 generalize oz x.ses x.num { kind:=4,rg:=o.r,sum:=z }=R at *
 clear hB hB2
 refine cp func78 ntmps78 ?_
 (refine nT (gn V0 a0) (gn qO a1) ?_;refine ah λhc=>?_)
 refine jB (qO) ?_
 exact bA rfl rfl
theorem Bh (x:Srv)(p:PV)(d:Option DsS)(m:Msg)(hw:m.wants=false)(R:List UInt8)(y:Srv)(q:PV)(a1:bZ prog 78 [.ptr 1000 0 0] (bB { s:=x.s,ses:=m.ses,hello:=m } nptQ none) (.per (aK R)) (bB y q none)) :
 bZ prog 32 [.ptr 1000 0 0,zw m] (bB x p d) (.per (aK R)) (bB y q none):=by
 rcases d with _|d
 all_goals
  refine cp func32 ntmps32 ?_
  (refine w0 ?_;repeat' first|apply aw|refine ah λhc=>?_)
  refine aV (cL 1000 0 58 (WP { s:=x.s,ses:=m.ses,hello:=m }++[nptQ,nptQ,cA]) (WP { s:=x.s,ses:=m.ses,hello:=m }++[nptQ,nptQ,aK []]) rfl rfl (by(repeat (first|exact PW.nil|(refine PW.cons (by first|exact yi.refl|exact ct) ?_))))) ?_
  (refine ee (im a1) ?_)
  refine kC ?_
  exact bA rfl rfl
theorem MX (x:Srv)(p:PV)(d:Option DsS)(m:Msg)(hw:m.wants=true)(I:List It)(a0:Fn prog 64 [eS x.s.its,cU m.flt] (.per (cX I)))(t:Tr)(h0:0<=m.seed/\m.seed<=281474976710656)
 (a2:bZ prog 77 [.per (cX I),iC .u64 m.seed,iC .i64 m.bits] [] (.tup2 (.ptr 3000 0 0) (iC .i64 0)) (WN t m.seed m.bits I.length))
 (R:List UInt8) (y:Srv) (q:PV) (a1:bZ prog 78 [.ptr 1000 0 0] (bB { s:=x.s,ses:=m.ses,hello:=m } nptQ (some ⟨t,m.seed,m.bits,[kr I.length],[],0⟩)) (.per (aK R)) (bB y q (some ⟨t,m.seed,m.bits,[kr I.length],[],0⟩))) :
 bZ prog 32 [.ptr 1000 0 0,zw m] (bB x p d) (.per (aK R)) (bB y q (some ⟨t,m.seed,m.bits,[kr I.length],[],0⟩)):=by
 rcases d with _|d
 all_goals
  refine cp func32 ntmps32 ?_
  (have kc1:=a0;have km1:=(show fK [(3000,503),(3001,504),(3002,510),(3003,511),(3004,512)] _ _ _ _ _ _ from a2);have kh1:=Lib.hid (show(0:Int) / 2=0 from rfl);refine rF ?_;(repeat' first|apply aw|refine ah λhc=>?_);all_goals clear kh1 km1 kc1)
  refine aV (DW 1000 58 (cells:=(WP { s:=x.s,ses:=m.ses,hello:=m }).map Cnt.per++[.ptr 503 _ 0,.per nptQ]++[.per cA]) (cells':=(WP { s:=x.s,ses:=m.ses,hello:=m }).map Cnt.per++[.ptr 503 _ 0,.per nptQ]++[.per (aK [])]) rfl rfl (SP Jy)) ?_
  (refine ee (gn [(1000,1000),(2003,503),(2004,504),(2000,510),(2001,511),(2002,512)] a1) ?_)
  (refine⟨(by first|exact .inl rfl|exact .inr rfl),dv ([(1000,1000),(503,2003),(504,2004),(510,2000),(511,2001),(512,2002)]) rfl rfl ?_ ?_⟩;(focus (repeat (first|exact bG.nil|(refine bG.cons rfl ?_ ?_;(focus first|rfl|skip))))))
  exact bA rfl rfl
theorem pz {b:List UInt8}(hb:b.length<=1000000){m:Msg}{e:Int}(hm:lW b=(m,e)):Fn prog 16 [.per (aK b)] (.tup2 (.per (MA m)) (eA e)):=by
 have:=Kv b hb
 rwa [hm]at this
theorem y0 (x:Srv)(p:PV)(d:Option DsS)(b:List UInt8)(hb:b.length<=1000000)(m:Msg)(e:Int)(hm:lW b=(m,e))(h0:0<=x.num/\x.num<=1000000000000000000)
 (h:e≠0\/m.kind>3\/(m.kind=1/\m.num≠0)\/m.ses<x.ses\/(m.ses=x.ses/\m.num≠x.num/\(m.kind=1\/m.num<x.num))) :
 bZ prog 9 [.ptr 1000 0 0,.per (aK b)] (bB x p d) (.per (aK [])) (bB x p d):=by
 have a0:=pz hb hm
 clear hm
 rcases d with _|d
 all_goals
  refine cp func9 ntmps9 ?_
  (refine au a0 ?_;repeat' first|apply aw|refine ah λhc=>?_)
  all_goals first
   | (exfalso;omega)
   | (refine jB (qO) ?_
      exact fW (bA rfl rfl) ct)
theorem F4 (x:Srv)(p:PV)(d:Option DsS)(b:List UInt8)(hb:b.length<=1000000)(m:Msg)(hm:lW b=(m,0))(hk:m.kind<=3)(h0:0<=x.num/\x.num<=1000000000000000000)
 (h:(m.kind≠1/\(m.ses>x.ses\/(m.ses=x.ses/\m.num>x.num+1)))) :
 bZ prog 9 [.ptr 1000 0 0,.per (aK b)] (bB x p d) (.per (aK (AZ m.ses m.num 50))) (bB x p d):=by
 have a0:=pz hb hm
 have a1:=uT m.ses m.num 50
 generalize AZ m.ses m.num 50=R at *
 clear hm
 rcases d with _|d
 all_goals
  refine cp func9 ntmps9 ?_
  (refine bt a0 a1 ?_;repeat' first|apply aw|refine ah λhc=>?_)
  all_goals first
   | (exfalso;omega)
   | (refine jB (qO) ?_
      exact bA rfl rfl)
theorem SR (x:Srv)(p:PV)(d:Option DsS)(b:List UInt8)(hb:b.length<=1000000)(m:Msg)(hm:lW b=(m,0))(hk:m.kind<=3)(h1:m.kind=1->m.num=0)(hs:m.ses=x.ses)(hn:m.num=x.num)(hl:x.rep.length<=1000000000) :
 bZ prog 9 [.ptr 1000 0 0,.per (aK b)] (bB x p d) (.per (aK x.rep)) (bB x p d):=by
 have a0:=pz hb hm
 have a1:=(rD _ hl).frz
 clear hm
 rcases d with _|d
 all_goals
  refine cp func9 ntmps9 ?_
  (refine bt a0 a1 ?_;repeat' first|apply aw|refine ah λhc=>?_)
  all_goals first
   | (exfalso;omega)
   | (refine jB (qO) ?_
      exact bA rfl rfl)
theorem F5 (x:Srv)(p:PV)(d:Option DsS)(b:List UInt8)(hb:b.length<=1000000)(m:Msg)(hm:lW b=(m,0))(hk:m.kind=1)(hn:m.num=0)(hs:x.ses<m.ses)(R:List UInt8)(y:Srv)(q:PV)(e:Option DsS)
 (a1:bZ prog 32 [.ptr 1000 0 0,zw m] (bB x p d) (.per (aK R)) (bB y q e)) :
 bZ prog 9 [.ptr 1000 0 0,.per (aK b)] (bB x p d) (.per (aK R)) (bB y q e):=by
 have a0:=pz hb hm
 clear hm
 rcases d with _|d<;>rcases e with _|e
 all_goals
  refine cp func9 ntmps9 ?_
  (refine ld a0 (gn qO a1) ?_;repeat' first|apply aw|refine ah λhc=>?_)
  all_goals first
   | (exfalso;omega)
   | (refine jB (qO) ?_
      exact bA rfl rfl)
theorem tA (x:Srv)(p:PV)(d:Option DsS)(b:List UInt8)(hb:b.length<=1000000)(m:Msg)(hm:lW b=(m,0))(hk:m.kind≠1/\m.kind<=3)(hn:m.num=x.num+1)(h0:0<=x.num/\x.num<=1000000000000000000)(hs:x.ses=m.ses)(R:List UInt8)(y:Srv)(q:PV)(e:Option DsS)
 (a1:bZ prog 35 [.ptr 1000 0 0,zw m] (bB x p d) (.per (aK R)) (bB y q e)) :
 bZ prog 9 [.ptr 1000 0 0,.per (aK b)] (bB x p d) (.per (aK R)) (bB y q e):=by
 have a0:=pz hb hm
 clear hm
 rcases d with _|d<;>rcases e with _|e
 all_goals
  refine cp func9 ntmps9 ?_
  (refine ld a0 (gn qO a1) ?_;repeat' first|apply aw|refine ah λhc=>?_)
  all_goals first
   | (exfalso;omega)
   | (refine jB (qO) ?_
      exact bA rfl rfl)
theorem V2 (x:Srv)(d:Option DsS)(m:Msg)(hk:m.kind=3)(h0:0<=x.num/\x.num<=1000000000000000000)(i:Nat)(hi:m.nxt=i)(hbl:x.bat.length<=1000000000)(hlt:i<x.bat.length)(hB:uN { tk x.bat x.lrn i with ses:=x.ses,num:=x.num+1 })
 (hl:(({ x with num:=x.num+1 }:Srv).batch i).rep.length<=1000000000) :
 bZ prog 35 [.ptr 1000 0 0,zw m] (bB x (wl x.bat x.lrn) d) (.per (aK (({ x with num:=x.num+1 }:Srv).batch i).rep)) (bB (({ x with num:=x.num+1 }:Srv).batch i) (wl x.bat x.lrn) d):=by
 have a1:=F3 { x with num:=x.num+1 } d i hlt hbl hB hl
 generalize (({ x with num:=x.num+1 }:Srv).batch i)=y at *
 clear hB hl
 replace a1:bZ prog 80 [.ptr 1000 0 0,iC .i64 (i:Nat)] (bB { x with num:=x.num+1 } (wl x.bat x.lrn) d) (.per (aK y.rep)) (bB y (wl x.bat x.lrn) d):=a1
 rw[<-hi]at a1
 rcases d with _|d
 all_goals
  refine cp func35 ntmps35 ?_
  (refine ee (gn qO a1) ?_;repeat' first|apply aw|refine ah λhc=>?_)
  all_goals first
   | (exfalso;omega)
   | (refine jB (qO) ?_
      exact bA rfl rfl)
theorem SS (x:Srv)(p:PV)(d:Option DsS)(m:Msg)(hk:m.kind=3)(hp:(x.bat=[]/\p=nptQ)\/p=wl x.bat x.lrn)(hlt:x.bat.length<=m.nxt) :
 bZ prog 35 [.ptr 1000 0 0,zw m] (bB x p d) (.per (aK [])) (bB x p d):=by
 rcases hp with⟨h,rfl⟩|rfl<;>rcases d with _|d
 all_goals
  refine cp func35 ntmps35 ?_
  (refine w0 ?_;repeat' first|apply aw|refine ah λhc=>?_)
  all_goals first
   | (exfalso;omega)
   | (refine jB (qO) ?_
      exact fW (bA rfl rfl) ct)
theorem Jb (x:Srv)(p:PV)(d:Option DsS)(m:Msg)(hk:m.kind=2)(hd:YK d=[]) :
 bZ prog 35 [.ptr 1000 0 0,zw m] (bB x p d) (.per (aK [])) (bB x p d):=by
 have a0:=SM d hd m.same
 rcases d with _|d
 all_goals
  refine cp func35 ntmps35 ?_
  (refine ee (gn V0 a0) ?_;repeat' first|apply aw|refine ah λhc=>?_)
  all_goals first
   | (exfalso;omega)
   | (refine jB (qO) ?_
      exact fW (bA rfl rfl) ct)
theorem MY (x:Srv)(p:PV)(d e:DsS)(m:Msg)(hk:m.kind=2)(h0:0<=x.num/\x.num<=1000000000000000000)(a0:bZ prog 79 [.ptr 1000 0 0,bC m.same] (og d.t d.sd d.b d.L d.fd d.ak) (.per (ai (.bool true))) (og e.t e.sd e.b e.L e.fd e.ak))
 (R:List UInt8) (y:Srv) (q:PV) (a1:bZ prog 78 [.ptr 1000 0 0] (bB { x with num:=x.num+1 } p (some e)) (.per (aK R)) (bB y q (some e))) :
 bZ prog 35 [.ptr 1000 0 0,zw m] (bB x p (some d)) (.per (aK R)) (bB y q (some e)):=by
 refine cp func35 ntmps35 ?_
 (refine nT (gn V0 a0) (gn qO a1) ?_;repeat' first|apply aw|refine ah λhc=>?_)
 all_goals first
  | (exfalso;omega)
  | (refine jB (qO) ?_
     exact bA rfl rfl)
theorem MZ (x:Srv)(p:PV)(d:Option DsS)(m:Msg)(hk:m.kind≠2/\m.kind≠3) :
 bZ prog 35 [.ptr 1000 0 0,zw m] (bB x p d) (.per (aK [])) (bB x p d):=by
 rcases d with _|d
 all_goals
  refine cp func35 ntmps35 ?_
  (refine w0 ?_;repeat' first|apply aw|refine ah λhc=>?_)
  all_goals first
   | (exfalso;omega)
   | (refine jB (qO) ?_
      exact fW (bA rfl rfl) ct)
theorem ST (s:Sta)(a1:Fn prog 21 [kq s] (dE true))(a2:Fn prog 22 [kq s,.per cA,.per cA] (.tup2 (.per (XY s)) (eA 0))) :
 bZ prog 7 [kq s] [] (.tup2 (.ptr 3000 0 0) (.per (ai (.int .i64 0)))) [(3000,srB { s:=s } nptQ)]:=by
 refine cp func7 ntmps7 ?_
 (refine bt a1 a2 ?_;refine ah λhc=>?_)
 refine⟨.inl rfl,pW (cL 18 _ 58 (sY s++[dS,ai (.bool true),dS,dS,dS,dS,dS,dS,dS,dS,je,je,je,cA,cA,cA,eP,eP,je,ai (.int .u64 0),cA,dS,nptQ,nptQ,cA]) (WP { s:=s }++[nptQ,nptQ,aK []]) rfl rfl (by(repeat (first|exact PW.nil|(refine PW.cons (by first|exact yi.refl|exact ct) ?_))))) ?_⟩
 refine rX [(18,3000)] rfl rfl ?_ (nd rfl rfl) (bh rfl rfl)
 (repeat (first|exact bG.nil|(refine bG.cons rfl ?_ ?_;(focus first|rfl|skip))))
theorem V3 (s:Sta)(a1:Fn prog 21 [kq s] (dE false)):bZ prog 7 [kq s] [] (.tup2 (.per nptQ) (.per (ai (.int .i64 41)))) []:=by
 refine cp func7 ntmps7 ?_
 (refine au a1 ?_;refine ah λhc=>?_)
 refine Z0 ([]) ?_ ?_
 ·exact bA rfl rfl
 ·exact bh rfl rfl
theorem y4 (x:Srv)(p:PV)(d:Option DsS):bZ prog 10 [.ptr 1000 0 0] (bB x p d) (.per (ai (.int .i64 x.ses))) (bB x p d):=by
 rcases d with _|d
 all_goals
  refine cp func10 ntmps10 ?_
  (refine w0 ?_;repeat' first|apply aw|refine ah λhc=>?_)
  refine jB (qO) ?_
  exact bh rfl rfl
theorem SU (x:Srv)(p:PV)(d:Option DsS):bZ prog 11 [.ptr 1000 0 0] (bB x p d) (iC .i64 (dnK d)) (bB x p d):=by
 have a0:=SL d
 rcases d with _|d
 all_goals
  refine cp func11 ntmps11 ?_
  (refine ee (gn V0 a0) ?_;repeat' first|apply aw|refine ah λhc=>?_)
  refine jB (qO) ?_
  exact bh rfl rfl
theorem V4:Fn prog 10 [.per nptQ] (eA 0)/\Fn prog 11 [.per nptQ] (eA 0)/\Fn prog 9 [.per nptQ,.per cA] (.per (aK [])):=by
 refine⟨?_,?_,?_⟩
 ·refine fi func10 ntmps10 ?_
  (refine w0 ?_;refine ah λhc=>?_)
  exact uZ
 ·refine fi func11 ntmps11 ?_
  (refine w0 ?_;refine ah λhc=>?_)
  exact uZ
 ·refine fi func9 ntmps9 ?_
  (refine w0 ?_;refine ah λhc=>?_)
  refine dr ?_
  exact AK (cS rfl) ct
theorem qu (f:List Rg):cW [] f=[]:=(Rl ig).2 λ_ _=>rfl
theorem Jc {l:List It}(hr:l.all dA=true)(hu:Up l):eJ [l++[]]=l:=Up.uniq (kp _).1 hu λk=>by rw[(kp _).2.2,show([l++[]]:List (List It)).flatten=l by simp,jx hr]
theorem M0 {s:Sta}(h:oA s=true):qI s [] []=(s,0):=by
 obtain⟨_,c2,c3,_,_,c6,_,_,c9,_⟩:=ru h
 have hm:=Jc (yu h).1 (yu h).2
 have e1:C3 s.flt []=[]:=rfl
 unfold qI
 rw[aab (by rw[h];decide),qu,e1,aab (by rintro(q|q);cases q;exact q ig),aab aA,aab (by show ¬(0:Int)>s.cnt;omega),hm,aab (by rw[c9];decide),aab ae,aan,QB c6]
theorem CT:ez []:=⟨bP,bP,bP⟩
theorem F6 {s:Sta}(hB:WB s)(hf:s.flt.length<=12)(hs:s.its.length<=100000)(hr:oA s=true):Fn prog 22 [kq s,.per (cX []),ox []] (.tup2 (.per (XY s)) (eA 0)):=by
 have:=Vw s [] [] ⟨hB,hf,aA,(λx hx=>by cases hx),hs,CT,aA,λ_=>by rw[qu];exact CT,λ_=>by rw[qu];simp,λ_ _=>by rw[qu,aan];exact hB.kmid⟩
 rw[M0 hr]at this
 exact this
structure YL (L:List It)(p:DPt):Prop where
 le:p.fr<=p.to
 to:p.to<=L.length
 ne:p.r.op=true\/p.r.hi≠emB
 lo:p.r.lo.size<=1000
 hi:p.r.hi.size<=1000
theorem Yw {x:It}(h:dA x=true):x.key≠emB/\x.key.size<=1000:=by
 unfold dA mj at h
 simp only[aaC,aaI]at h
 refine⟨λe=>?_,ae⟩
 rw[e]at h
 exact absurd h.1.1 bP
theorem KD {L:List It}{p:DPt}(h:YL L p)(c:¬p.to-p.fr<2):∃hm:p.fr+(p.to-p.fr) / 2<L.length,jl L p=L[p.fr+(p.to-p.fr) / 2].key:=by
 have h1:=h.to
 grind[jl]
theorem SV {L:List It}(hL:∀x∈L,dA x=true){p:DPt}(h:YL L p)(a:Bool):(lh L a p).length<=2/\(o0 a p).length<=1/\(∀q∈lh L a p,YL L q)/\∀r∈o0 a p,r.lo.size<=1000/\r.hi.size<=1000:=by
 unfold lh o0
 split
 ·simp
 ·split
  ·simp[h.lo,h.hi]
  ·rename_i c
   obtain⟨hm,hk⟩:=KD h c
   obtain⟨k1,k2⟩:=Yw (hL _ (aar hm))
   rw[<-hk]at k1 k2
   obtain⟨h1,h2,h3,h4,h5⟩:=h
   refine⟨aA,aA,λq hq=>?_,aA⟩
   simp only[aaU,abr,or_false]at hq
   rcases hq with rfl|rfl
   ·exact⟨by simp only[ml];omega,by simp only[ml];omega,.inr k1,h4,k2⟩
   ·exact⟨by simp only[mO];omega,by simp only[mO];omega,h3,k2,h5⟩
theorem Jd {L:List It}(hL:∀x∈L,dA x=true):∀(A:List Bool)(s:List DPt),(∀q∈s,YL L q) ->
 (∀q∈vN L A s,YL L q)/\(vN L A s).length<=s.length+A.length/\(vO L A s).length<=A.length/\∀r∈vO L A s,r.lo.size<=1000/\r.hi.size<=1000:=by
 intro A
 induction A with
 | nil=>grind[vN,vO]
 | cons a A ih=>
  intro s h
  cases s with
  | nil=>simp[vN,vO]
  | cons p st=>
   obtain⟨t1,t2,t3,t4⟩:=SV hL (h p aA) a
   obtain⟨i1,i2,i3,i4⟩:=ih (lh L a p++st) (λq hq=>(aaS.1 hq).elim (t3 q) λe=>h q (by simp[e]))
   rw[vN,vO]
   rw[aai]at i2
   grind
theorem SW (L:List It)(A:List Bool):vN L A []=[]/\vO L A []=[]:=by cases A<;>exact⟨rfl,rfl⟩
theorem SX (L:List It)(A:List Bool):(se L (L.length+1) (kr L.length) A).2.1=vO L A [kr L.length]/\(se L (L.length+1) (kr L.length) A).2.2.isSome=(vN L A [kr L.length]).isEmpty /\
 ∀p st,vN L A [kr L.length]=p::st->(se L (L.length+1) (kr L.length) A).1.length=A.length+1/\(se L (L.length+1) (kr L.length) A).1[A.length]?=some p.r:=by
 have h:=Xn L (L.length+1) (kr L.length) A [] (Nat.lt_succ_self _)
 have hl:=Uc L A [kr L.length]
 grind[SW]
structure SY (m:Msg):Prop where
 r:bT m.flt
 fl:m.flt.length<=310
 k:ez m.know
 lim:0<=m.lim/\m.lim<=281474976710656
 seed:0<=m.seed/\m.seed<=281474976710656
 th:m.there=[]\/(mn m.there).2=0
 tl:m.there.length<=1000000
theorem M1:SY {}:=⟨(λi hi=>absurd hi aA),aA,CT,bP,bP,.inl rfl,aA⟩
def ZI (B:List (List It))(K:List Pc):Prop:=0<B.length/\B.length<=24/\∀a b:Int,1<=a->bU a=true->bU b=true->∀i<B.length,lK { tk B K i with ses:=a,num:=b }=true/\uN { tk B K i with ses:=a,num:=b }
structure pA (x:Srv)(n:Nat):Prop where
 st:oA x.s=true
 lg:WK x.s
 ses:0<=x.ses/\bU x.ses=true
 num:0<=x.num/\x.num<=n
 ans:x.ans.length<=n
 w0:x.hello.wants=false->x.ans=[]
 hel:SY x.hello
 bat:x.bat=[]\/ZI x.bat x.lrn
 bo:x.opn≠[]->x.bat=[]
 rep:x.rep.length<=40000
def oh (l:List UInt8)(seed:Int):Int->Int->Bool:=λr c=>if l=[]then false else B7 (mn l).1.2.2 (mn l).1.1 (mn l).1.2.1 seed r c
def fX (x:Srv):Option DsS:=if x.hello.wants then some ⟨fJ x.hello.seed x.its,x.hello.seed,x.hello.bits,x.opn.reverse,vO x.its x.ans [kr x.its.length],(x.ans.length:Nat)⟩else none
def jD (x:Srv):PV:=if x.bat=[]then nptQ else wl x.bat x.lrn
theorem Srv.next_same (H:List UInt8->Int->Int->Int->Bool)(x:Srv):(x.next H).s=x.s/\(x.next H).ses=x.ses/\(x.next H).num=x.num/\(x.next H).hello=x.hello/\(x.next H).ans=x.ans:=by
 unfold Srv.next
 split
 ·exact⟨rfl,rfl,rfl,rfl,rfl⟩
 ·unfold Srv.first
  split<;>exact⟨rfl,rfl,rfl,rfl,rfl⟩
theorem Srv.its_of {x y:Srv}(h1:x.s=y.s)(h2:x.hello=y.hello):x.its=y.its:=by grind[Srv.its]
theorem Srv.opn_of {x y:Srv}(h1:x.s=y.s)(h2:x.hello=y.hello)(h3:x.ans=y.ans):x.opn=y.opn:=by grind[Srv.opn,Srv.its_of]
theorem CU {x y:Srv}(h1:x.s=y.s)(h2:x.hello=y.hello)(h3:x.ans=y.ans):fX x=fX y:=by grind[fX,Srv.its_of,Srv.opn_of]
theorem Je (H:List UInt8->Int->Int->Int->Bool)(x:Srv)(m:Msg)(e:Int)(h:(x.told H m e).2≠[]):((x.told H m e).1.told H m e)=x.told H m e:=by
 unfold Srv.told at h ⊢
 by_cases c1:e≠0\/m.kind>3\/(m.kind=1/\m.num≠0)\/m.ses<x.ses
 ·rw[aae c1]at h
  exact absurd rfl h
 simp only[aab c1]at h ⊢
 by_cases c2:m.ses>x.ses
 ·grind[Srv.next_same]
 ·simp only[aab c2]at h ⊢
  by_cases c3:m.num=x.num
  ·grind
  simp only[aab c3]at h ⊢
  by_cases c4:m.kind=1
  ·rw[aae c4]at h
   exact absurd rfl h
  simp only[aab c4]at h ⊢
  by_cases c5:m.num>x.num+1
  ·grind
  simp only[aab c5]at h ⊢
  by_cases c6:m.num≠x.num+1
  ·rw[aae c6]at h
   exact absurd rfl h
  simp only[aab c6]at h ⊢
  by_cases c7:m.kind=2
  ·grind[Srv.next_same]
  ·simp only[aab c7]at h ⊢
   by_cases c8:m.kind=3/\m.nxt<x.bat.length
   ·simp only[aae c8]at h ⊢
    rw[show(({ x with num:=x.num+1 }:Srv).batch m.nxt.toNat).ses=x.ses from rfl,show(({ x with num:=x.num+1 }:Srv).batch m.nxt.toNat).num=x.num+1 from rfl]
    grind
   grind
