/- Texts joined: SrR SrX SrY Lw35 Fits34 Lw35b PlY. -/
import Derived.Test.YtaclhhkblbacgaaGreatJ45
import Derived.Test.YtaclhhkblbacgaaGreatJ48
set_option maxRecDepth 10000
set_option maxHeartbeats 8000000
namespace Go.Proofs.YtaclhhkblbacgaaGreat
open Go.RowKit Go.Proofs.Tryz
variable {α:Type}
abbrev Vr (x:Srv):List PV:=td x.s++(ak (.int .i64 x.ses)::ak (.int .i64 x.num)::(bS x.hello++[cA 1 (x.ans.map boolP),cA 1 (x.bat.map fun c=>[dP c]),gG x.lrn,aK x.rep]))
abbrev Ak (x:Srv):Blk:=.box 44 ((Vr x).map Cnt.per)
theorem Rm (a b:Int)(m:Msg)(hB:wg { m with ses:=a,num:=b })(hs:m.sum<18446744073709551616):Fn prog 46 [p7 m,iC .i64 a,iC .i64 b] (.per (aK (pv a b m))):=by
 have a1:=(Ah _ hB hs).frz
 have a2:Fn prog 11 [.per (cB [ak (.int .i64 6),ak (.int .i64 a),ak (.int .i64 b),f7,f7,f7,f7,ak (.int .i64 (ev { m with ses:=a,num:=b }).2),kR,kR,kR,dl,dl,dl,eP,eP,kR,ak (.int .u64 0),dl])] _:=((Ah _ (Tq a b (ev { m with ses:=a,num:=b }).2) (Xi _)).frz).arg1 aI
 unfold pv z6
 generalize ev { m with ses:=a,num:=b }=q at *
 by_cases c:q.2=0
 ·rw[V6 c]
  clear a2
  refine fi func46 ntmps46 ?_
  (refine aq a1 ?_;repeat' first|apply ah|refine ai fun hc=>?_)
  exact OZ
 ·rw[V3 c]
  generalize ev { kind:=6,ses:=a,num:=b,err:=q.2 }=z at *
  refine fi func46 ntmps46 ?_
  (refine TY a1 a2 ?_;repeat' first|apply ah|refine ai fun hc=>?_)
  exact OZ
theorem Hl (x:Srv)(m:Msg)(hB:wg { m with ses:=x.ses,num:=x.num })(hs:m.sum<18446744073709551616) :
 dh prog 107 [.ptr 1000 0 0,p7 m] [(1000,Ak x)] (.per (aK (pv x.ses x.num m))) [(1000,Ak { x with rep:=pv x.ses x.num m })]:=by
 have a1:=Rm x.ses x.num m hB hs
 generalize pv x.ses x.num m=R at *
 refine dH func107 ntmps107 ?_
 (refine aq a1 ?_)
 refine gM ?_
 exact dB rfl rfl
theorem JZ (x:Srv)(i:Nat)(hi:i<x.bat.length)(hbl:x.bat.length≤1000000000)(hB:wg { nd x.bat x.lrn i with ses:=x.ses,num:=x.num }) :
 dh prog 49 [.ptr 1000 0 0,iC .i64 (i:Nat)] [(1000,Ak x)] (.per (aK (x.batch i).rep)) [(1000,Ak (x.batch i))]:=by
 have hg:(x.bat[i]?).getD []=x.bat[i]:=by rw[V4 hi];rfl
 have a1:=Hl x (nd x.bat x.lrn i) hB (by unfold nd;split<;>exact Xi _)
 rw[show({ x with rep:=pv x.ses x.num (nd x.bat x.lrn i) }:Srv)=x.batch i from rfl,show pv x.ses x.num (nd x.bat x.lrn i)=(x.batch i).rep from rfl]at a1
 rw[show Ak (x.batch i)=.box 44 ((td x.s++(ak (.int .i64 x.ses)::ak (.int .i64 x.num)::(bS x.hello++[cA 1 (x.ans.map boolP),cA 1 (x.bat.map fun c=>[dP c]),gG x.lrn,aK (x.batch i).rep]))).map Cnt.per)from rfl]at a1 ⊢
 generalize (x.batch i).rep=R at *
 clear hB
 by_cases c:(i:Int)=(x.bat.length:Int)-1
 ·unfold nd at a1
  rw[V6 c,hg]at a1
  replace a1:=a1.argsW (As:=[.ptr 1000 0 0,.per (cB [ak (.int .i64 5),f7,f7,f7,f7,f7,ak (.int .i64 (i:Nat)),f7,kR,kR,ak (.bool true),dl,gG x.lrn,dl,eP,eP,kR,ak (.int .u64 0),dP x.bat[i]])]) (.same (.per aI .nil))
  refine dH func49 ntmps49 ?_
  (refine fP (fD a1) ?_;repeat' first|apply ah|refine ai fun hc=>?_)
  all_goals first
   | (refine gM ?_
      exact dB rfl rfl)
   | (exfalso;omega)
 ·unfold nd at a1
  rw[V3 c,hg]at a1
  replace a1:=a1.argsW (As:=[.ptr 1000 0 0,.per (cB [ak (.int .i64 5),f7,f7,f7,f7,f7,ak (.int .i64 (i:Nat)),f7,kR,kR,kR,dl,dl,dl,eP,eP,kR,ak (.int .u64 0),dP x.bat[i]])]) (.same (.per aI .nil))
  refine dH func49 ntmps49 ?_
  (refine fP (fD a1) ?_;repeat' first|apply ah|refine ai fun hc=>?_)
  all_goals first
   | (refine gM ?_
      exact dB rfl rfl)
   | (exfalso;omega)
abbrev jf:PV:=ak (.pointer none)
def Vs (l:List UInt8)(seed:Int)(th:PV):Prop:=(l=[]∧th=jf)∨(0<l.length∧l.length≤1000000∧0≤seed∧seed≤281474976710656∧∃cs,th=fM cs∧Fn prog 119 [dS l,iC .u64 seed] (.tup2 (.per th) (el 0)))
theorem rf:Fn prog 239 [.per jf] (.per dl):=by
 refine fi func239 ntmps239 ?_
 (refine w0 ?_;repeat' first|apply ah|refine ai fun hc=>?_)
 exact OZ
theorem Dp:Fn prog 174 [.per jf] (.tup2 (.per (cB [eP,eP,kR,ak (.int .u64 0)])) (dq false)):=by
 refine fi func174 ntmps174 ?_
 (refine w0 ?_;repeat' first|apply ah|refine ai fun hc=>?_)
 refine d9 ?_ ?_
 ·exact Sk
 ·exact aL rfl rfl
theorem J0 (x:Srv)(th:PV)(hs:Int→Int→Bool)(hA:Kc x.s x.hello.flt x.hello.know x.hello.lim [] th hs)(hth:Vs x.hello.there x.hello.seed th)
 (M:List (List It)×List Pc×Int) (hM:fR x.s x.hello.flt x.hello.know x.hello.lim [] hs=M) (hE:M.2.2≠0) (hl:(z6 x.ses x.num M.2.2).length≤1000000000) :
 dh prog 176 [.ptr 1000 0 0] [(1000,kS x jf)] (.per (aK (z6 x.ses x.num M.2.2))) [(1000,kS { x with rep:=z6 x.ses x.num M.2.2 } jf)]:=by
 have a1:=rf
 have a2:=(Ha hA).argsW (As:=[ji x.s,.per (cB [fW x.hello.flt,gG x.hello.know,ak (.int .i64 x.hello.lim),dl,th])]) (.same (.per aI .nil))
 rw[hM]at a2
 have a3:=yE x.ses x.num M.2.2
 have a4:=(wj _ hl).frz
 generalize z6 x.ses x.num M.2.2=R at *
 clear hM hA hl
 rcases hth with⟨h1,h2⟩|⟨h1,h2,h3,h4,cs,rfl,h5⟩
 ·subst h2
  have h1:x.hello.there.length=0:=by rw[h1];rfl
  refine dH func176 ntmps176 ?_
  (refine pj a1 a2 a3 a4 ?_;repeat' first|apply ah|refine ai fun hc=>?_)
  refine gM ?_
  exact dB rfl rfl
 ·refine dH func176 ntmps176 ?_
  (have kc1:=a1;have kc2:=h5;have kc3:=a2;have kc4:=a3;have kc5:=a4;have kh1:=Lib.hid (show(0:Int) / 2=0 from rfl);refine BA ?_;(repeat' first|apply ah|refine ai fun hc=>?_);all_goals clear kh1 kc5 kc4 kc3 kc2 kc1)
  refine gM ?_
  exact dB rfl rfl
theorem yF (x y:Srv)(th:PV)(hs:Int→Int→Bool)(hA:Kc x.s x.hello.flt x.hello.know x.hello.lim [] th hs)(hth:Vs x.hello.there x.hello.seed th)
 (M:List (List It)×List Pc×Int) (hM:fR x.s x.hello.flt x.hello.know x.hello.lim [] hs=M) (hE:M.2.2=0) (hy:y={ x with bat:=M.1,lrn:=M.2.1 }) (h0:0<M.1.length) (hbl:M.1.length≤1000000000)
 (hB:wg { nd M.1 M.2.1 0 with ses:=x.ses,num:=x.num }) (hl:(y.batch 0).rep.length≤1000000000) :
 dh prog 176 [.ptr 1000 0 0] [(1000,kS x jf)] (.per (aK (y.batch 0).rep)) [(1000,kS (y.batch 0) (wQ M.1 M.2.1))]:=by
 have a1:=rf
 have a2:=(Ha hA).argsW (As:=[ji x.s,.per (cB [fW x.hello.flt,gG x.hello.know,ak (.int .i64 x.hello.lim),dl,th])]) (.same (.per aI .nil))
 rw[hM]at a2
 have a3:dh prog 105 [.ptr 1000 0 0,iC .i64 0] [(1000,kS x (wQ M.1 M.2.1))] (.per (aK (y.batch 0).rep)) [(1000,kS (y.batch 0) (wQ M.1 M.2.1))]:=by
  have:=Dj y 0 (by rw[hy];exact h0) (by rw[hy];exact hbl) (by rw[hy];exact hB) hl
  rw[show y.bat=M.1 by rw[hy],show y.lrn=M.2.1 by rw[hy],show kS y (wQ M.1 M.2.1)=kS x (wQ M.1 M.2.1)by subst hy;rfl]at this
  exact this
 have e:kS (y.batch 0) (wQ M.1 M.2.1)=kS { x with rep:=(y.batch 0).rep } (wQ M.1 M.2.1):=by subst hy;rfl
 rw[e]at a3 ⊢
 generalize (y.batch 0).rep=R at *
 clear hM hA hl e hy hB
 rcases hth with⟨h1,h2⟩|⟨h1,h2,h3,h4,cs,rfl,h5⟩
 ·subst h2
  have h1:x.hello.there.length=0:=by rw[h1];rfl
  refine dH func176 ntmps176 ?_
  (refine bg a1 a2 ?_;repeat' first|apply ah|refine ai fun hc=>?_)
  refine aR (rD 4 _ 164 rfl rfl rfl) ?_
  (refine fP (fD a3) ?_;repeat' first|apply ah|refine ai fun hc=>?_)
  refine gM ?_
  exact dB rfl rfl
 ·refine dH func176 ntmps176 ?_
  (have kc1:=a1;have kc2:=h5;have kc3:=a2;have kh1:=Lib.hid (show(0:Int) / 2=0 from rfl);refine BA ?_;(repeat' first|apply ah|refine ai fun hc=>?_);all_goals clear kh1 kc3 kc2 kc1)
  refine aR (rD 4 _ 164 rfl rfl rfl) ?_
  (refine fP (fD a3) ?_;repeat' first|apply ah|refine ai fun hc=>?_)
  refine gM ?_
  exact dB rfl rfl
theorem Al (x:Srv)(p:PV)(R:List UInt8)(y:Srv)(q:PV)(a1:dh prog 176 [.ptr 1000 0 0] [(1000,kS x p)] (.per (aK R)) [(1000,kS y q)]) :
 dh prog 103 [.ptr 1000 0 0] [(1000,kS x p)] (.per (aK R)) [(1000,kS y q)]:=by
 have a0:=Dp
 refine dH func103 ntmps103 ?_
 (refine ny a0 (fD a1) ?_;repeat' first|apply ah|refine ai fun hc=>?_)
 refine gM ?_
 exact dB rfl rfl
theorem wk (x:Srv)(p:PV)(m:Msg)(hw:m.wants=false)(R:List UInt8)(y:Srv)(q:PV)(a1:dh prog 103 [.ptr 1000 0 0] [(1000,kS { s:=x.s,ses:=m.ses,hello:=m } jf)] (.per (aK R)) [(1000,kS y q)]) :
 dh prog 42 [.ptr 1000 0 0,p7 m] [(1000,kS x p)] (.per (aK R)) [(1000,kS y q)]:=by
 refine dH func42 ntmps42 ?_
 (refine w0 ?_;repeat' first|apply ah|refine ai fun hc=>?_)
 refine aR (cE 1000 0 64 (UF { s:=x.s,ses:=m.ses,hello:=m }++[jf,jf,dl]) (UF { s:=x.s,ses:=m.ses,hello:=m }++[jf,jf,aK []]) rfl rfl (by(repeat (first|exact PW.nil|(refine PW.cons (by first|exact zS.refl|exact ee) ?_))))) ?_
 (refine fP (fD a1) ?_;repeat' first|apply ah|refine ai fun hc=>?_)
 refine gM ?_
 exact dB rfl rfl
theorem wl (x:Srv)(p:PV)(b:List UInt8)(hb:b.length≤1000000)(m:Msg)(hm:Ci b=(m,0))(hk:m.kind=1)(hn:m.num=0)(hs:x.ses<m.ses)(R:List UInt8)(y:Srv)(q:PV)
 (a1:dh prog 42 [.ptr 1000 0 0,p7 m] [(1000,kS x p)] (.per (aK R)) [(1000,kS y q)]) :
 dh prog 12 [.ptr 1000 0 0,.per (aK b)] [(1000,kS x p)] (.per (aK R)) [(1000,kS y q)]:=by
 have a0:Fn prog 21 [.per (aK b)] (.tup2 (.per (DB m)) (el 0)):=by
  have:=Af b hb
  rw[hm]at this
  exact this
 clear hm
 refine dH func12 ntmps12 ?_
 (refine ny a0 (fD a1) ?_;repeat' first|apply ah|refine ai fun hc=>?_)
 all_goals first
  | (refine gM ?_
     exact dB rfl rfl)
  | (exfalso;omega)
theorem Dq (x:Srv)(p:PV)(b:List UInt8)(hb:b.length≤1000000)(m:Msg)(hm:Ci b=(m,0))(hk:m.kind≠1∧m.kind≤3)(hn:m.num=x.num+1)(h0:0≤x.num∧x.num≤1000000000000000000)(hs:x.ses=m.ses)(R:List UInt8)(y:Srv)(q:PV)
 (a1:dh prog 45 [.ptr 1000 0 0,p7 m] [(1000,kS x p)] (.per (aK R)) [(1000,kS y q)]) :
 dh prog 12 [.ptr 1000 0 0,.per (aK b)] [(1000,kS x p)] (.per (aK R)) [(1000,kS y q)]:=by
 have a0:Fn prog 21 [.per (aK b)] (.tup2 (.per (DB m)) (el 0)):=by
  have:=Af b hb
  rw[hm]at this
  exact this
 clear hm
 refine dH func12 ntmps12 ?_
 (refine ny a0 (fD a1) ?_;repeat' first|apply ah|refine ai fun hc=>?_)
 all_goals first
  | (refine gM ?_
     exact dB rfl rfl)
  | (exfalso;omega)
theorem Ro (x:Srv)(m:Msg)(hk:m.kind=3)(h0:0≤x.num∧x.num≤1000000000000000000)(i:Nat)(hi:m.nxt=i)(hbl:x.bat.length≤1000000000)(hlt:i<x.bat.length)(hB:wg { nd x.bat x.lrn i with ses:=x.ses,num:=x.num+1 })
 (hl:(({ x with num:=x.num+1 }:Srv).batch i).rep.length≤1000000000) :
 dh prog 45 [.ptr 1000 0 0,p7 m] [(1000,kS x (wQ x.bat x.lrn))] (.per (aK (({ x with num:=x.num+1 }:Srv).batch i).rep)) [(1000,kS (({ x with num:=x.num+1 }:Srv).batch i) (wQ x.bat x.lrn))]:=by
 have a1:=Dj { x with num:=x.num+1 } i hlt hbl hB hl
 generalize (({ x with num:=x.num+1 }:Srv).batch i)=y at *
 clear hB hl
 replace a1:dh prog 105 [.ptr 1000 0 0,iC .i64 (i:Nat)] [(1000,kS { x with num:=x.num+1 } (wQ x.bat x.lrn))] (.per (aK y.rep)) [(1000,kS y (wQ x.bat x.lrn))]:=a1
 rw[←hi]at a1
 refine dH func45 ntmps45 ?_
 (refine fP (fD a1) ?_;repeat' first|apply ah|refine ai fun hc=>?_)
 all_goals first
  | (refine gM ?_
     exact dB rfl rfl)
  | (exfalso;omega)
theorem OL (x:Srv)(p:PV)(m:Msg)(hk:m.kind=3)(hp:(x.bat=[]∧p=jf)∨p=wQ x.bat x.lrn)(hlt:x.bat.length≤m.nxt) :
 dh prog 45 [.ptr 1000 0 0,p7 m] [(1000,kS x p)] (.per (aK [])) [(1000,kS x p)]:=by
 rcases hp with⟨h,rfl⟩|rfl
 all_goals
  refine dH func45 ntmps45 ?_
  (refine w0 ?_;repeat' first|apply ah|refine ai fun hc=>?_)
  all_goals first
   | (refine gM ?_
      exact kc (dB rfl rfl) ee)
   | (exfalso;omega)
theorem OM (s:Sta)(a1:Fn prog 38 [ji s] (dq true))(a2:Fn prog 39 [ji s,.per dl,.per dl] (.tup2 (.per (S5 s)) (el 0))) :
 dh prog 10 [ji s] [] (.tup2 (.ptr 3000 0 0) (.per (ak (.int .i64 0)))) [(3000,kS { s:=s } jf)]:=by
 refine dH func10 ntmps10 ?_
 (refine bg a1 a2 ?_;repeat' first|apply ah|refine ai fun hc=>?_)
 refine⟨.inl rfl,F5 (cE 18 _ 64 (td s++[f7,ak (.bool true),f7,f7,f7,f7,f7,f7,f7,f7,kR,kR,kR,dl,dl,dl,eP,eP,kR,ak (.int .u64 0),dl,f7,jf,jf,dl]) (UF { s:=s }++[jf,jf,aK []]) rfl rfl (by(repeat (first|exact PW.nil|(refine PW.cons (by first|exact zS.refl|exact ee) ?_))))) ?_⟩
 refine Bo [(18,3000)] rfl rfl ?_ (um rfl rfl) (bm rfl rfl)
 (repeat (first|exact eh.nil|(refine eh.cons rfl ?_ ?_;(focus first|rfl|skip))))
def Vt (l:List UInt8)(seed:Int)(bs:List Bool)(pr sd:Int):Prop:=(l=[]∧bs=[]∧pr=0∧sd=0)∨(0<l.length∧l.length≤1000000∧0≤seed∧seed≤281474976710656∧Fn prog 35 [.per (aK l),iC .u64 seed] (.tup2 (.per (pf bs pr sd)) (el 0)))
theorem OO (x y:Srv)(hw:x.hello.wants=false)(th:PV)(hs:Int→Int→Bool)(hA:Kc x.s x.hello.flt x.hello.know x.hello.lim [] th hs)(bs:List Bool)(pr sd:Int)(hR:U9 [] hs bs pr sd)(hth:Vt x.hello.there x.hello.seed bs pr sd)
 (M:List (List It)×List Pc×Int) (hM:fR x.s x.hello.flt x.hello.know x.hello.lim [] hs=M) (hE:M.2.2=0) (hy:y={ x with bat:=M.1,lrn:=M.2.1 }) (h0:0<M.1.length) (hbl:M.1.length≤1000000000)
 (hB:wg { nd M.1 M.2.1 0 with ses:=x.ses,num:=x.num }) :
 dh prog 47 [.ptr 1000 0 0] [(1000,Ak x)] (.per (aK (y.batch 0).rep)) [(1000,Ak (y.batch 0))]:=by
 have a3:dh prog 49 [.ptr 1000 0 0,iC .i64 0] [(1000,Ak y)] (.per (aK (y.batch 0).rep)) [(1000,Ak (y.batch 0))]:=JZ y 0 (by rw[hy];exact h0) (by rw[hy];exact hbl) (by rw[hy];exact hB)
 generalize y.batch 0=z at *
 rcases hth with⟨h1,rfl,rfl,rfl⟩|⟨h1,h2,h3,h4,h5⟩
 ·have a2:=(re hA hR).argsW (As:=[ji x.s,.per (cB [fW x.hello.flt,gG x.hello.know,ak (.int .i64 x.hello.lim),dl,dl,f7,ak (.int .u64 0)])]) (.same (.per aI .nil))
  rw[hM]at a2
  have h1:x.hello.there.length=0:=by rw[h1];rfl
  clear hA hR hM hB
  subst hy
  refine dH func47 ntmps47 ?_
  (refine ny a2 (fD a3) ?_;repeat' first|apply ah|refine ai fun hc=>?_)
  refine gM ?_
  exact dB rfl rfl
 ·have a2:=(re hA hR).argsW (As:=[ji x.s,.per (cB [fW x.hello.flt,gG x.hello.know,ak (.int .i64 x.hello.lim),dl,cA 1 (bs.map boolP),ak (.int .i64 pr),ak (.int .u64 sd)])]) (.same (.per aI .nil))
  rw[hM]at a2
  clear hA hR hM hB
  subst hy
  refine dH func47 ntmps47 ?_
  (have kc1:=h5;have kc2:=a2;have km1:=(show kW [(1000,1000)] _ _ _ _ _ _ from a3);have kh1:=Lib.hid (show(0:Int) / 2=0 from rfl);refine BA ?_;(repeat' first|apply ah|refine ai fun hc=>?_);all_goals clear kh1 km1 kc2 kc1)
  refine gM ?_
  exact dB rfl rfl
theorem J1 (x:Srv)(hw:x.hello.wants=false)(th:PV)(hs:Int→Int→Bool)(hA:Kc x.s x.hello.flt x.hello.know x.hello.lim [] th hs)(bs:List Bool)(pr sd:Int)(hR:U9 [] hs bs pr sd)(hth:Vt x.hello.there x.hello.seed bs pr sd)
 (M:List (List It)×List Pc×Int) (hM:fR x.s x.hello.flt x.hello.know x.hello.lim [] hs=M) (hE:M.2.2≠0) :
 dh prog 47 [.ptr 1000 0 0] [(1000,Ak x)] (.per (aK (pv x.ses x.num { kind:=6,err:=M.2.2 }))) [(1000,Ak { x with rep:=pv x.ses x.num { kind:=6,err:=M.2.2 } })]:=by
 have a3:=(Hl x { kind:=6,err:=M.2.2 } (Tq x.ses x.num M.2.2) (Xi _)).argsW (As:=[.ptr 1000 0 0,.per (cB [ak (.int .i64 6),f7,f7,f7,f7,f7,f7,ak (.int .i64 M.2.2),kR,kR,kR,dl,dl,dl,eP,eP,kR,ak (.int .u64 0),dl])]) (.same (.per aI .nil))
 generalize pv x.ses x.num { kind:=6,err:=M.2.2 }=R at *
 rcases hth with⟨h1,rfl,rfl,rfl⟩|⟨h1,h2,h3,h4,h5⟩
 ·have a2:=(re hA hR).argsW (As:=[ji x.s,.per (cB [fW x.hello.flt,gG x.hello.know,ak (.int .i64 x.hello.lim),dl,dl,f7,ak (.int .u64 0)])]) (.same (.per aI .nil))
  rw[hM]at a2
  have h1:x.hello.there.length=0:=by rw[h1];rfl
  clear hA hR hM
  refine dH func47 ntmps47 ?_
  (refine ny a2 (fD a3) ?_;repeat' first|apply ah|refine ai fun hc=>?_)
  refine gM ?_
  exact dB rfl rfl
 ·have a2:=(re hA hR).argsW (As:=[ji x.s,.per (cB [fW x.hello.flt,gG x.hello.know,ak (.int .i64 x.hello.lim),dl,cA 1 (bs.map boolP),ak (.int .i64 pr),ak (.int .u64 sd)])]) (.same (.per aI .nil))
  rw[hM]at a2
  clear hA hR hM
  refine dH func47 ntmps47 ?_
  (have kc1:=h5;have kc2:=a2;have km1:=(show kW [(1000,1000)] _ _ _ _ _ _ from a3);have kh1:=Lib.hid (show(0:Int) / 2=0 from rfl);refine BA ?_;(repeat' first|apply ah|refine ai fun hc=>?_);all_goals clear kh1 km1 kc2 kc1)
  refine gM ?_
  exact dB rfl rfl
theorem yG (x y:Srv)(b:List UInt8)(hb:b.length≤1000000)(m:Msg)(hm:Ci b=(m,0))(hk:m.kind=1)(hn:m.num=0)(hs:x.ses<m.ses)(R:List UInt8)
 (a1:dh prog 47 [.ptr 1000 0 0] [(1000,Ak { s:=x.s,ses:=m.ses,hello:=m,rep:=x.rep })] (.per (aK R)) [(1000,Ak y)]) :
 dh prog 13 [.ptr 1000 0 0,.per (aK b)] [(1000,Ak x)] (.per (aK R)) [(1000,Ak y)]:=by
 have a0:Fn prog 14 [.per (aK b)] (.tup2 (.per (DB m)) (el 0)):=by
  have:=Aj b hb
  rw[hm]at this
  exact this
 clear hm
 refine dH func13 ntmps13 ?_
 (refine aq a0 ?_;repeat' first|apply ah|refine ai fun hc=>?_)
 all_goals first
  | (refine aR (cE 1000 0 44 (td x.s++(ak (.int .i64 m.ses)::f7::(bS m++[dl,dl,dl,aK x.rep]))) (Vr { s:=x.s,ses:=m.ses,hello:=m,rep:=x.rep }) rfl rfl (by(repeat (first|exact PW.nil|(refine PW.cons (by first|exact zS.refl|exact ee) ?_))))) ?_
     (refine fP (fD a1) ?_;repeat' first|apply ah|refine ai fun hc=>?_)
     refine gM ?_
     exact dB rfl rfl)
  | (exfalso;omega)
def ex35:Sta:=⟨1,[⟨emB,emB,true⟩],[],[],0⟩
theorem Am:oQ ex35=true:=by decide +kernel
theorem FK:RP ex35:=⟨bz,⟨bz,bz,bz⟩,bz,bz,fun x hx=>by cases hx⟩
theorem OP {s:Sta}{F:List Rg}{K:List Pc}{lim:Int}{R:List Rg}{hs:Int→Int→Bool}(h:(fR s F K lim R hs).2.2=0) :
 p6 s F K=0∧jc lim (gw R hs (jh s.its F K))=0∧(fR s F K lim R hs).1=sh lim (gw R hs (jh s.its F K))∧(fR s F K lim R hs).2.1=cX s.know F:=by
 unfold fR at h ⊢
 by_cases c:p6 s F K≠0
 ·rw[V6 c]at h;exact absurd h c
 ·rw[V3 c]at h ⊢
  by_cases e:jc lim (gw R hs (jh s.its F K))=0
  ·rw[V6 e];exact⟨WB.1 c,e,rfl,rfl⟩
  ·rw[V3 e]at h;exact absurd h e
theorem Hm (D:List (List α))(i:Nat):(D.take i).flatten.length≤D.flatten.length∧∀x∈(D.take i).flatten,x∈D.flatten:=by
 have e:D.flatten=(D.take i).flatten++(D.drop i).flatten:=by rw[←List.flatten_append,WL]
 constructor
 ·rw[e,V5];omega
 ·intro x hx;rw[e];exact List.mem_append_left _ hx
theorem Hn {D:List (List α)}{i:Nat}{b:List α}(h:D[i]?=some b):(D.take (i+1)).flatten=(D.take i).flatten++b:=by
 obtain⟨h1,rfl⟩:=Ws.1 h
 rw[List.take_succ_eq_append_getElem h1,List.flatten_append];simp
theorem J2 (lt:α→α→Bool)(x:α):∀(l r:List α),(kq lt x l r).Perm (x::(l++r)):=by
 intro l
 induction l with
 | nil=>intro r;exact List.Perm.refl _
 | cons y l ih=>
  intro r
  rw[kq]
  split
  ·refine(ih (y::r)).trans (List.Perm.cons x ?_)
   exact List.perm_middle
  ·refine List.perm_middle.trans (List.Perm.cons x ?_)
   exact List.Perm.append_right r (List.reverse_perm _)
theorem FM (lt:α→α→Bool)(l:List α):(dI lt l).Perm l:=by
 have key:∀(l p:List α),(l.foldl (i8 lt) p).Perm (p++l):=by
  intro l
  induction l with
  | nil=>intro p;simp
  | cons x l ih=>
   intro p
   refine(ih _).trans ?_
   have h:(i8 lt p x).Perm (x::p):=by
    have:=J2 lt x p.reverse []
    rw[Wg]at this
    exact this.trans (List.Perm.cons x (List.reverse_perm p))
   exact(List.Perm.append_right l h).trans List.perm_middle.symm
 have:=key l []
 rw[Wu]at this
 exact this
theorem FN (R:List Rg)(hs:Int→Int→Bool)(l:List It):(gw R hs l).Perm l:=by rw[vT];exact FM _ l
def ri (l:List It):List Pc:=l.flatMap fun x=>pg x.key x.rep x.cnt
theorem UH (X:List Pc){n r:Nat}(h1:X.length≤n)(h2:((X.flatMap Pc.set).flatMap Kn.runs).length≤r):te (wq X) (1+2*n) r:=by
 obtain⟨k1,k2⟩:=pT X
 refine⟨?_,fun p hp=>?_⟩
 ·have q1:=qL (lC X) (mb X)
  have q2:=vy X
  unfold wq
  omega
 ·obtain⟨_,s,h3⟩:=qW k1 p hp
  rw[←h3,k2]
  have q1:=yi (X.flatMap (j1 s))
  have q2:=gS Kn.runs (vv (vx s) X)
  exact⟨C7 _,by
   show((gH ofR (X.flatMap (j1 s))).flatMap Kn.runs).length≤r
   have:(X.flatMap fun p=>p.set)=X.flatMap Pc.set:=rfl
   omega⟩
theorem Dr:∀(l:List It),(ri l).length≤l.length∧(((ri l).flatMap Pc.set).flatMap Kn.runs).length≤l.length:=by
 intro l
 induction l with
 | nil=>exact⟨V8 _,V8 _⟩
 | cons x l ih=>
  have e:ri (x::l)=pg x.key x.rep x.cnt++ri l:=rfl
  rw[e,V5,List.flatMap_append,List.flatMap_append,V5,Wh]
  have:(pg x.key x.rep x.cnt).length≤1∧(((pg x.key x.rep x.cnt).flatMap Pc.set).flatMap Kn.runs).length≤1:=by
   unfold pg;split<;>simp
  omega
theorem UI {X:List Pc}{s:ByteArray}{r c:Int}:cp (wq X) s r c=iI (lC X s) r c:=by
 obtain⟨h1,h2⟩:=pT X
 rw[iJ h1,h2]
theorem OQ {l:List It}(hl:l.all eC=true)(s:ByteArray)(r c:Int):iI (lC (ri l) s) r c=l.any fun x=>TE x s r c:=by
 induction l with
 | nil=>rw[show ri []=[]from rfl,SS,oS];rfl
 | cons x l ih=>
  rw[List.all_cons,Wi]at hl
  have hx:=hl.1
  unfold eC at hx
  simp only[Wi]at hx
  have e:ri (x::l)=pg x.key x.rep x.cnt++ri l:=rfl
  have o:=yt hx.1.1 hx.1.2 s r c
  have ok:=(Fm hx.1.1 hx.1.2).1
  rw[iJ ok,←jE ok]at o
  rw[e,EZ,Wo,CI,List.any_cons,WN,o,ih hl.2]
  unfold TE
  rfl
theorem J3 {l:List It}(hl:l.all eC=true):Jg l=wq (ri l):=by
 obtain⟨h1,h2⟩:=vQ hl
 exact CZ h1 (pT _).1 fun s r c=>by rw[h2,UI,OQ hl]
theorem Tu {l:List It}(hl:l.all eC=true):te (Jg l) (1+2*l.length) l.length:=by
 rw[J3 hl]
 exact UH _ (Dr l).1 (Dr l).2
theorem NU.known {t g:Sta}{c:List It}(hI:NU t c g)(ht:aX t.know)(hc:c.all eC=true):g.know=wq (t.know++Jg c):=by
 obtain⟨o1,o2⟩:=vQ hc
 exact CZ (QI hI.right).1 (pT _).1 fun s r n=>by rw[vG ht o1,hI.has,o2]
theorem NU.items {t g:Sta}{c:List It}(hI:NU t c g)(ht:t.its.all eC=true)(hc:c.all eC=true):g.its=ey [t.its++c]:=by
 refine Up.uniq (vR hI.right).2 (j2 _).1 fun k=>?_
 rw[(j2 _).2.2,hI.look]
 rw[show([t.its++c]:List (List It)).flatten=t.its++c by simp,List.filter_append,jb ht,jb hc]
structure VI (t:Sta)(c:List It):Prop where
 tb:UG t
 tr:oQ t=true
 cl:c.length≤24
 cr:c.all eC=true
theorem VI.B {t g:Sta}{c:List It}(h:VI t c)(hI:NU t c g):RP g∧g.its.length≤48∧g.flt.length≤8∧te g.know 150 280:=by
 obtain⟨_,_,_,_,c5,c6,_⟩:=se h.tr
 have hk:=hI.known c6 h.cr
 have hi:=hI.items (CX c5) h.cr
 have hw:=(h.tb.kw.join (Tu h.cr) c6 (vQ h.cr).1)
 rw[←hk]at hw
 have hcl:=h.cl
 have il:=h.tb.il
 have fl:=h.tb.fl
 have hw2:=hw.le (c:=150) (d:=280) ab ab
 have hl:=yw [t.its++c]
 simp only[Xn,List.flatten_nil,Wg,V5]at hl
 rw[←hi]at hl
 have hkl:=hw2.len
 have hkey:ng g.its:=fun x hx=>by
  have:=WJ.1 (vR hI.right).1 x hx
  unfold eC pd at this
  simp only[Wi,Wn]at this
  omega
 exact⟨⟨by rw[hI.flt];omega,hw2.mid bz bz,ab,ab,hkey⟩,ab,by rw[hI.flt];omega,hw2⟩
end Go.Proofs.YtaclhhkblbacgaaGreat
