/- Texts joined: SrW Law34 LawFd Law33 StL PlE PlF. -/
import Derived.Test.YtaclhhkblbacgaaGreatJ40
import Derived.Test.YtaclhhkblbacgaaGreatJ44
set_option maxRecDepth 10000
set_option maxHeartbeats 8000000
namespace Go.Proofs.YtaclhhkblbacgaaGreat
open Go.RowKit Go.Proofs.Tryz
variable {limit:Int} {l:List It}
abbrev UF (x:Srv):List PV:=td x.s++(ak (.int .i64 x.ses)::ak (.bool true)::(bS x.hello++[ak (.int .i64 x.num)]))
abbrev wQ (B:List (List It))(K:List Pc):PV:=fM [cA 1 (B.map fun c=>[dP c]),gG K]
abbrev kS (x:Srv)(p:PV):Blk:=.box 64 (((UF x)++[ak (.pointer none),p,aK x.rep]).map Cnt.per)
theorem Tq (a b c:Int):wg { kind:=6,ses:=a,num:=b,err:=c }:=⟨au,oY,fun p hp=>by simp at hp,au,au,au,fun p hp=>by
 rw[show(lB { kind:=6,ses:=a,num:=b,err:=c }).1=[]from rfl]at hp;simp at hp⟩
theorem yE (a b c:Int):Fn prog 43 [iC .i64 a,iC .i64 b,iC .i64 c] (.per (aK (z6 a b c))):=by
 have a1:Fn prog 20 [.per (cB [ak (.int .i64 6),ak (.int .i64 a),ak (.int .i64 b),f7,f7,f7,f7,ak (.int .i64 c),kR,kR,kR,dl,dl,dl,eP,eP,kR,ak (.int .u64 0),dl])] _:=(FD _ (Tq a b c)).arg1 aI
 unfold z6
 generalize (ev { kind:=6,ses:=a,num:=b,err:=c })=q at *
 refine fi func43 ntmps43 ?_
 (refine aq a1 ?_)
 exact OZ
theorem wj (l:List UInt8)(hl:l.length≤1000000000):Fn prog 44 [dS l] (gz l):=by
 by_cases h0:0<l.length
 ·refine fi func44 ntmps44 ?_
  (refine w0 ?_;repeat' first|apply ah|refine ai fun hc=>?_)
  exact nx
 ·obtain rfl:l=[]:=Wf ab
  refine fi func44 ntmps44 ?_
  (refine w0 ?_;repeat' first|apply ah|refine ai fun hc=>?_)
  ·exact dw (dv rfl)
  ·exact nx
theorem Ts (x:Srv)(p:PV)(m:Msg)(hB:wg { m with ses:=x.ses,num:=x.num })(hl:(pv x.ses x.num m).length≤1000000000) :
 dh prog 175 [.ptr 1000 0 0,p7 m] [(1000,kS x p)] (.per (aK (pv x.ses x.num m))) [(1000,kS { x with rep:=pv x.ses x.num m } p)]:=by
 have a1:=FD _ hB
 have a2:=yE x.ses x.num (ev { m with ses:=x.ses,num:=x.num }).2
 have a3:=(wj _ hl).frz
 have e:pv x.ses x.num m=if(ev { m with ses:=x.ses,num:=x.num }).2=0 then(ev { m with ses:=x.ses,num:=x.num }).1 else z6 x.ses x.num (ev { m with ses:=x.ses,num:=x.num }).2:=rfl
 generalize pv x.ses x.num m=R at *
 generalize ev { m with ses:=x.ses,num:=x.num }=q at *
 by_cases c:q.2=0
 ·rw[V6 c]at e
  subst e
  refine dH func175 ntmps175 ?_
  (refine bg a1 a3 ?_;repeat' first|apply ah|refine ai fun hc=>?_)
  refine gM ?_
  exact dB rfl rfl
 ·rw[V3 c]at e
  rw[←e]at a2
  clear e
  refine dH func175 ntmps175 ?_
  (refine fO a1 a2 a3 ?_;repeat' first|apply ah|refine ai fun hc=>?_)
  refine gM ?_
  exact dB rfl rfl
theorem Dj (x:Srv)(i:Nat)(hi:i<x.bat.length)(hbl:x.bat.length≤1000000000)(hB:wg { nd x.bat x.lrn i with ses:=x.ses,num:=x.num })(hl:(x.batch i).rep.length≤1000000000) :
 dh prog 105 [.ptr 1000 0 0,iC .i64 (i:Nat)] [(1000,kS x (wQ x.bat x.lrn))] (.per (aK (x.batch i).rep)) [(1000,kS (x.batch i) (wQ x.bat x.lrn))]:=by
 have hg:(x.bat[i]?).getD []=x.bat[i]:=by rw[V4 hi];rfl
 have a1:=Ts x (wQ x.bat x.lrn) (nd x.bat x.lrn i) hB hl
 rw[show({ x with rep:=pv x.ses x.num (nd x.bat x.lrn i) }:Srv)=x.batch i from rfl,show pv x.ses x.num (nd x.bat x.lrn i)=(x.batch i).rep from rfl]at a1
 rw[show kS (x.batch i) (wQ x.bat x.lrn)=.box 64 (((UF x)++[ak (.pointer none),wQ x.bat x.lrn,aK (x.batch i).rep]).map Cnt.per)from rfl]at a1 ⊢
 generalize (x.batch i).rep=R at *
 clear hB hl
 by_cases c:(i:Int)=(x.bat.length:Int)-1
 ·unfold nd at a1
  rw[V6 c,hg]at a1
  replace a1:=a1.argsW (As:=[.ptr 1000 0 0,.per (cB [ak (.int .i64 5),f7,f7,f7,f7,f7,ak (.int .i64 (i:Nat)),f7,kR,kR,ak (.bool true),dl,gG x.lrn,dl,eP,eP,kR,ak (.int .u64 0),dP x.bat[i]])]) (.same (.per aI .nil))
  refine dH func105 ntmps105 ?_
  (refine fP (fD a1) ?_;repeat' first|apply ah|refine ai fun hc=>?_)
  all_goals first
   | (refine gM ?_
      exact dB rfl rfl)
   | (exfalso;omega)
 ·unfold nd at a1
  rw[V3 c,hg]at a1
  replace a1:=a1.argsW (As:=[.ptr 1000 0 0,.per (cB [ak (.int .i64 5),f7,f7,f7,f7,f7,ak (.int .i64 (i:Nat)),f7,kR,kR,kR,dl,dl,dl,eP,eP,kR,ak (.int .u64 0),dP x.bat[i]])]) (.same (.per aI .nil))
  refine dH func105 ntmps105 ?_
  (refine fP (fD a1) ?_;repeat' first|apply ah|refine ai fun hc=>?_)
  all_goals first
   | (refine gM ?_
      exact dB rfl rfl)
   | (exfalso;omega)
theorem JM (limit:Int)(l:List It):(lz limit l).D.flatten++(lz limit l).c.getD []=l:=by
 have key:∀(m:List It)(s:Spl),(m.foldl (p0 limit) s).D.flatten++(m.foldl (p0 limit) s).c.getD []=s.D.flatten++s.c.getD []++m:=by
  intro m
  induction m with
  | nil=>intro s;simp
  | cons x m ih=>
   intro s
   rw[List.foldl_cons,ih]
   obtain⟨D,c,left⟩:=s
   cases c with
   | none=>simp[p0]
   | some c=>
    unfold p0;simp only
    split<;>simp
 have:=key l ⟨[],none,-1⟩
 simpa[lz]using this
theorem Ai (h:jc limit l=0):∀x∈l,vU limit x:=by
 obtain⟨m,hm,hall,hbad,_⟩:=zX limit l
 by_cases hlt:m<l.length
 ·rcases hbad hlt with⟨_,hb⟩|⟨_,_,hb⟩<;>omega
 ·rw[Wd ab]at hall;exact hall
theorem Hj (h:jc limit l=0):sh limit l=nT (lz limit l):=by
 unfold sh nT;exact V6 h
theorem JN (h2:limit≤9223372036854775807)(h:jc limit l=0):(sh limit l).flatten=l:=by
 have hI:=QX limit l h2 (Ai h)
 have hF:=JM limit l
 rw[Hj h]
 unfold nT
 generalize lz limit l=s at *
 obtain⟨D,c,left⟩:=s
 cases c with
 | none=>have:=(hI.none1 rfl).2;simp only at this;subst this;simpa using hF
 | some c=>simpa using hF
theorem OG (h2:limit≤9223372036854775807)(h:jc limit l=0):(sh limit l).length≤max 1 l.length∧1≤(sh limit l).length:=by
 have hI:=QX limit l h2 (Ai h)
 rw[Hj h]
 unfold nT
 generalize lz limit l=s at *
 obtain⟨D,c,left⟩:=s
 cases c with
 | none=>simp;omega
 | some c=>have q4:=hI.len;have q5:=hI.ne c rfl;simp at q4 ⊢;omega
theorem Hk (r c:Int):Fn prog 351 [.per (ak (.pointer none)),sD r c] (dq false):=by
 refine fi func351 ntmps351 ?_
 (refine w0 ?_;repeat' first|apply ah|refine ai fun hc=>?_)
 exact dp
def Dk (s:Sta):Bool:=ij s.flt 8||(nF s.its 24||fZ s.know 24)
theorem OH (s:Sta):Fn prog 6 [ji s] (dq (Dk s)):=by
 have a1:=BS s.flt 8 bz
 have a2:=xz s.its 24 bz
 have a3:=uW s.know 24 bz
 unfold Dk
 generalize ij s.flt 8=d1 at *
 generalize fZ s.know 24=d2 at *
 generalize nF s.its 24=d3 at *
 refine fi func6 ntmps6 ?_
 (refine fO a1 a2 a3 ?_;repeat' first|apply ah|refine ai fun hc=>?_)
 all_goals
  refine dw ?_
  refine aL rfl ?_
  first|rfl|(simp[*];done)|(rw[Wo];simp[*];done)|(rw[Wo];simp[*];omega)
theorem OI (h:nF l 24=false):l.length≤24∧ng l:=by
 unfold nF at h
 rw[Xs,Wt]at h
 refine⟨ab,fun x hx=>?_⟩
 have:=List.any_eq_false.1 h.2 x hx
 simp[RB]at this
 omega
theorem Dl {l:List Rg}(h:ij l 8=false):l.length≤8:=by
 unfold ij at h
 rw[Xs,Wt]at h
 omega
structure UG (s:Sta):Prop where
 fl:s.flt.length≤8
 il:s.its.length≤24
 ik:ng s.its
 kw:te s.know 24 256
theorem Dm {s:Sta}(h:Dk s=false):UG s:=by
 unfold Dk at h
 simp only[Xs]at h
 obtain⟨h1,h2,h3⟩:=h
 obtain⟨q2,q3⟩:=OI h2
 exact⟨Dl h1,q2,q3,C6 h3⟩
theorem UG.st {s:Sta}(h:UG s):RP s:=by
 have h1:=h.fl
 have h2:=h.il
 have h3:=h.kw.len
 exact⟨ab,h.kw.mid bz bz,ab,ab,h.ik⟩
abbrev Tt (F:List Rg)(K:List Pc)(lim:Int)(R:List Rg)(bs:List Bool)(pr sd:Int):List PV:=[fW F,gG K,ak (.int .i64 lim),fW R,cA 1 (bs.map boolP),ak (.int .i64 pr),ak (.int .u64 sd)]
abbrev py (F:List Rg)(K:List Pc)(lim:Int)(R:List Rg)(bs:List Bool)(pr sd:Int):Cnt:=.per (cB (Tt F K lim R bs pr sd))
theorem Dn (s:Sta)(F:List Rg)(K:List Pc)(f g:It→Bool)(hl:s.its.length≤1000000)(a1:∀x∈s.its,Fn prog 32 [ec F,sC x.key] (dq (f x)))(a2:∀x∈s.its,Fn prog 33 [dC K,sC x.key,sD x.rep x.cnt] (dq (g x))) :
 Fn prog 247 [ji s,.per (fW F),nc K] (I2 (s.its.filter fun x=>f x&&!g x)):=by
 generalize hT:(s.its.filter fun x=>f x&&!g x)=T
 refine fi func247 ntmps247 ?_
 (refine w0 ?_)
 refine bQ (bU 7 600 82 7 rfl rfl) ?_
 refine aj (X:=Nat×List It) (fun x=>x.1≤s.its.length∧x.2.length≤x.1∧x.2++(s.its.drop x.1).filter (fun x=>f x&&!g x)=T)
  (fun x=>ay [(1,.per (fW F)),(2,nc K),(3,.ptr 3 0 0),(7,.row 600 0),(8,iC .i64 (x.1:Nat))] [(3,.box 26 ((td s).map Cnt.per)),(600,gp x.2)]) (fun x=>s.its.length-x.1) (0,[]) ⟨Wa _,au,by simpa using hT⟩ ?_
 rintro⟨i,ac⟩ ⟨h1,h2,h3⟩
 simp only at h1 h2 h3 ⊢
 by_cases hi:i<s.its.length
 ·have c1:=a1 _ (Wk hi)
  have c2:=a2 _ (Wk hi)
  rw[List.drop_eq_getElem_cons hi,List.filter_cons]at h3
  clear a1 a2
  cases hf:f s.its[i]with
  | false=>
   rw[hf]at h3 c1
   (refine bg c1 c2 ?_;repeat' first|apply ah|refine ai fun hc=>?_)
   refine⟨(i+1,ac),⟨aA,aA,by simpa using h3⟩,aA,?_⟩
   exact ae
  | true=>
   cases hg:g s.its[i]with
   | true=>
    rw[hf,hg]at h3
    rw[hf]at c1
    rw[hg]at c2
    (refine bg c1 c2 ?_;repeat' first|apply ah|refine ai fun hc=>?_)
    refine⟨(i+1,ac),⟨aA,aA,by simpa using h3⟩,aA,?_⟩
    exact ae
   | false=>
    rw[hf,hg]at h3
    rw[hf]at c1
    rw[hg]at c2
    (refine bg c1 c2 ?_;repeat' first|apply ah|refine ai fun hc=>?_)
    refine⟨(i+1,ac++[s.its[i]]),⟨aA,bn,by simpa using h3⟩,aA,av (aN 600 601) (av (aN 601 600) ?_)⟩
    exact ae
 ·have h3:ac=T:=by rw[←h3,Wv ab];simp
  clear a1 a2
  (refine w0 ?_;repeat' first|apply ah|refine ai fun hc=>?_)
  refine dw ?_
  exact cJ rfl rfl rfl (by rw[h3])
theorem Rl (s:Sta)(F:List Rg)(K:List Pc)(lim:Int)(R:List Rg)(bs:List Bool)(pr sd:Int)(r f k:Bool)(a1:Fn prog 7 [ji s] (dq r))(a2:Fn prog 25 [ec F] (dq f))(a3:Fn prog 27 [dC K] (dq k)) :
 Fn prog 181 [ji s,py F K lim R bs pr sd] (el (N4 r f k)):=by
 cases r<;>cases f<;>cases k
 all_goals
  refine fi func181 ntmps181 ?_
  (refine fO a1 a2 a3 ?_;repeat' first|apply ah|refine ai fun hc=>?_)
  exact wo
theorem JO (s:Sta)(F:List Rg)(K:List Pc)(lim:Int)(R:List Rg)(bs:List Bool)(pr sd:Int)(U:List It)(a1:Fn prog 247 [ji s,.per (fW F),nc K] (.per (dP U))) :
 Fn prog 184 [ji s,py F K lim R bs pr sd] (.per (dP U)):=by
 refine fi func184 ntmps184 ?_
 (refine aq a1 ?_)
 exact OZ
theorem JP (s:Sta)(F:List Rg)(K:List Pc)(lim:Int)(R:List Rg)(bs:List Bool)(pr sd:Int)(e:Int)(he:e≠0)(a1:Fn prog 181 [ji s,py F K lim R bs pr sd] (el e)) :
 Fn prog 108 [ji s,py F K lim R bs pr sd] (.tup3 (Uu []) (.per (gG [])) (el e)):=by
 refine fi func108 ntmps108 ?_
 (refine aq a1 ?_;repeat' first|apply ah|refine ai fun hc=>?_)
 refine⟨by first|exact .inl rfl|exact .inr rfl,lr rfl ?_ ?_ ?_⟩
 ·exact GW (dA rfl) ee
 ·exact GW (dA rfl) ee
 ·exact al rfl rfl
theorem JQ (s:Sta)(F:List Rg)(K:List Pc)(lim:Int)(R:List Rg)(bs:List Bool)(pr sd:Int)(U Q:List It)(B:List (List It))(e:Int)(J:List Pc)(a1:Fn prog 181 [ji s,py F K lim R bs pr sd] (el 0))(a2:Fn prog 184 [ji s,py F K lim R bs pr sd] (.per (dP U)))
 (a3:Fn prog 183 [ec R,.per (pf bs pr sd),fj U] (.per (dP Q))) (a4:Fn prog 182 [iC .i64 lim,N1 Q] (.tup2 (Uu B) (el e))) (a5:e=0→Fn prog 29 [dC s.know,ec F] (.per (gG J))) :
 Fn prog 108 [ji s,py F K lim R bs pr sd] (.tup3 (Uu (if e=0 then B else [])) (.per (gG (if e=0 then J else []))) (el e)):=by
 by_cases he:e=0
 ·rw[V6 he,V6 he]
  subst he
  have a5:=a5 rfl
  refine fi func108 ntmps108 ?_
  (refine xj a1 a2 a3 a4 a5 ?_;repeat' first|apply ah|refine ai fun hc=>?_)
  refine⟨by first|exact .inl rfl|exact .inr rfl,lr rfl ?_ ?_ ?_⟩
  ·exact dA rfl
  ·exact dA rfl
  ·exact al rfl rfl
 ·rw[V3 he,V3 he]
  clear a5
  refine fi func108 ntmps108 ?_
  (refine pj a1 a2 a3 a4 ?_;repeat' first|apply ah|refine ai fun hc=>?_)
  refine⟨by first|exact .inl rfl|exact .inr rfl,lr rfl ?_ ?_ ?_⟩
  ·exact GW (dA rfl) ee
  ·exact GW (dA rfl) ee
  ·exact al rfl rfl
section
variable {s:Sta} {F:List Rg} {K:List Pc} {lim:Int} {R:List Rg} {th:PV} {hs:Int→Int→Bool} {bs:List Bool} {pr sd:Int}
structure U9 (R:List Rg)(hs:Int→Int→Bool)(bs:List Bool)(pr sd:Int):Prop where
 q:0<bs.length→∀r c,Fn prog 320 [.per (pf bs pr sd),sD r c] (dq (hs r c))
 z:bs.length=0→∀r c,hs r c=false
theorem OJ (h:Kc s F K lim R th hs):Fn prog 181 [ji s,py F K lim R bs pr sd] (el (p6 s F K)):=by
 have hf:=h.fl
 exact Rl s F K lim R bs pr sd _ _ _ (sn s h.st) (mK F ab (decide (cb F)) au) (ld K (dE h.km) (decide (aX K)) au)
theorem FJ (h:Kc s F K lim R th hs):Fn prog 184 [ji s,py F K lim R bs pr sd] (.per (dP (jh s.its F K))):=by
 have hl:=h.sl
 have hf:=h.fl
 exact JO s F K lim R bs pr sd _ (Dn s F K (fun x=>cQ F x.key) (fun x=>cp K x.key x.rep x.cnt) ab (fun x hx=>qN F x.key ab (h.st.keys x hx)) (fun x hx=>GV K x.key x.rep x.cnt (dE h.km) (h.st.keys x hx))).frz
theorem re (h:Kc s F K lim R th hs)(k:U9 R hs bs pr sd):Fn prog 108 [ji s,py F K lim R bs pr sd] (.tup3 (Uu (fR s F K lim R hs).1) (.per (gG (fR s F K lim R hs).2.1)) (el (fR s F K lim R hs).2.2)):=by
 unfold fR
 have a1:=OJ (bs:=bs) (pr:=pr) (sd:=sd) h
 by_cases c:p6 s F K≠0
 ·rw[V6 c]
  exact JP s F K lim R bs pr sd _ c a1
 ·rw[V3 c]
  have c:=WB.1 c
  rw[c]at a1
  obtain⟨c1,c2,c3⟩:=Fv.1 c
  have hf:=h.fl
  have hr:=h.rl
  have hl:=h.sl
  have hu:=tQ s.its F K
  have kl:=G9 (F:=F) (K:=K) h.st.keys
  have hcl:∀x∈jh s.its F K,Fn prog 275 [ec R,.per (pf bs pr sd),uz x] (el (iK R hs x)):=fun x hx=>Ji R ab bs pr sd hs x (kl x hx) (fun h=>k.q h _ _) (fun h=>k.z h _ _)
  have h2:=NY R bs pr sd hs (jh s.its F K) ab (fun x hx y hy=>Jj R bs pr sd hs x y (kl x hx) (hcl x hx) (hcl y hy))
  have h3:=Jn lim (gw R hs (jh s.its F K)) (by rw[sf];omega) h.l2
  have:=JQ s F K lim R bs pr sd _ _ _ _ (cX s.know F) a1 (FJ h) h2 h3 (fun _=>(ra s.know F h.st.kmid h.st.kl ab).frz)
  by_cases e:jc lim (gw R hs (jh s.its F K))=0
  ·rw[V6 e]at this ⊢
   rw[V6 e,e]at this
   exact this
  ·rw[V3 e]at this ⊢
   rw[V3 e]at this
   exact this
end
end Go.Proofs.YtaclhhkblbacgaaGreat
