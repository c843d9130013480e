/- Texts joined: SrL Tk0 SrZ OpenP OpenRg OpenKn OpenMs SrQ. -/
import Derived.Test.YtaclhhkblbacgaaGreatJ49
set_option maxRecDepth 10000
set_option maxHeartbeats 8000000
namespace Go.Proofs.YtaclhhkblbacgaaGreat
open Go.RowKit Go.Proofs.Tryz
theorem te.few {k:List Pc}{a b:Nat}(h:te k a b)(hb:b≤4096):sV k:=fun p hp x hx=>by
 have:=(h.set p hp).2
 have:=gj Kn.runs hx
 omega
theorem iL (m:Msg):(ev m).1.length≤40000:=by
 unfold ev
 split
 ·split
  ·rename_i h
   have:=bf ((gv m).length:Int) ab
   rw[Gr];omega
  ·simp
 ·simp
theorem oZ {m:Msg}(hB:wg m)(hs:m.sum<18446744073709551616)(h:(ev m).2=0):Ci (ev m).1=(nK m,0)∧0<(ev m).1.length:=by
 unfold ev at h ⊢
 by_cases c:j8 m=true
 ·rw[V6 c]at h ⊢
  by_cases d:(gv m).length≤32768
  ·rw[V6 d]
   refine⟨?_,by rw[Gr];omega⟩
   unfold Ci
   rw[Mu d,V3 (show ¬(0:Int)≠0 by decide)]
   exact Om c hB.flt hB.kfew hB.kln hs (fun p hp=>by have:=JL hp;omega)
  ·rw[V3 d]at h;simp at h
 ·rw[V3 c]at h;simp at h
theorem Tv {m:Msg}(h:(ev m).2≠0):(j8 m=true→(ev m).2=12)∧1≤(ev m).2∧bJ (ev m).2=true:=by
 unfold ev at h ⊢
 split
 ·rename_i c
  rw[V6 c]at h
  split
  ·rename_i d;rw[V6 d]at h;simp at h
  ·exact⟨fun _=>rfl,bz,bz⟩
 ·rename_i c;exact⟨fun q=>absurd q c,bz,bz⟩
theorem UJ {a b e:Int}(ha:1≤a)(ha2:bJ a=true)(hb:bJ b=true)(he:1≤e)(he2:bJ e=true):(ev { kind:=6,ses:=a,num:=b,err:=e }).2=0:=by
 have hm:j8 { kind:=6,ses:=a,num:=b,err:=e }=true:=by
  simp[j8,ha,ha2,hb,he,he2]
 have hl:(gv { kind:=6,ses:=a,num:=b,err:=e }).length≤32768:=by
  have n1:=bf 6 bz
  have n2:=bf a (by unfold bJ at ha2;simp at ha2;omega)
  have n3:=bf b (by unfold bJ at hb;simp at hb;omega)
  have n4:=bf e (by unfold bJ at he2;simp at he2;omega)
  unfold gv
  rw[show cV { kind:=6,ses:=a,num:=b,err:=e }=[6,a,b,e]from rfl,show eu { kind:=6,ses:=a,num:=b,err:=e }=[]from rfl]
  simp
  omega
 unfold ev
 rw[V6 hm,V6 hl]
theorem RY {a b e:Int}(ha:1≤a)(ha2:bJ a=true)(hb:bJ b=true)(he:1≤e)(he2:bJ e=true):Ci (z6 a b e)=({ kind:=6,ses:=a,num:=b,err:=e },0)∧0<(z6 a b e).length:=
 oZ ⟨au,oY,fun p hp=>by simp at hp,au,au,au,fun p hp=>by
  rw[show(lB { kind:=6,ses:=a,num:=b,err:=e }).1=[]from rfl]at hp;simp at hp⟩ (Xi _) (UJ ha ha2 hb he he2)
theorem FO (a b:Int)(m:Msg):(pv a b m).length≤40000:=by
 unfold pv z6
 split<;>exact iL _
theorem Tw:∀{l:List It},(∀x∈l,eC x=true)→l.Pairwise (fun x y=>x.key≠y.key)→wF l=true:=by
 intro l
 induction l with
 | nil=>intro _ _;rfl
 | cons x l ih=>
  intro h k
  obtain⟨k1,k2⟩:=List.pairwise_cons.1 k
  rw[wF,h x WG,ih (fun y hy=>h y (Ww _ hy)) k2]
  simp only[WP,Bool.and_true,Xp,List.any_eq_false,Wn]
  exact fun y hy e=>k1 y hy e.symm
theorem UK {s:Sta}{F:List Rg}{K:List Pc}{lim:Int}{R:List Rg}{hs:Int→Int→Bool}{M:List (List It)×List Pc×Int}(hM:fR s F K lim R hs=M)(h:M.2.2=0)(hr:oQ s=true)(hl:UG s)(hF:F.length≤12)(l2:lim≤9223372036854775807) :
 0<M.1.length∧M.1.length≤24∧M.1.flatten.length≤24∧(∀c∈M.1,c.length≤24)∧∀a b:Int,1≤a→bJ a=true→bJ b=true→∀i<M.1.length,j8 { nd M.1 M.2.1 i with ses:=a,num:=b }=true∧wg { nd M.1 M.2.1 i with ses:=a,num:=b }:=by
 subst hM
 obtain⟨h1,h2,h3,h4⟩:=OP h
 obtain⟨_,_,_,_,_,h8,_⟩:=se hr
 have hU:=tQ s.its F K
 have hS:=sf R hs (jh s.its F K)
 have hi:=hl.il
 have hfl:=JN l2 h2
 have hln:=OG l2 h2
 have hw:=(hl.kw.rest h8 F).le (c:=73) (d:=256) ab (V8 _)
 have hpw:(gw R hs (jh s.its F K)).Pairwise fun x y=>x.key≠y.key:=by
  refine((FN R hs (jh s.its F K)).pairwise_iff (fun {x y} q e=>q e.symm)).2 ?_
  refine List.Pairwise.filter _ ((vR hr).2.imp fun {x y} q e=>?_)
  rw[m3,e,(tL _ _).2 rfl]at q
  omega
 have hall:∀x∈gw R hs (jh s.its F K),eC x=true:=fun x hx=>(Ai h2 x hx).1
 generalize fR s F K lim R hs=M at *
 rw[h3,h4]
 generalize hB:sh lim (gw R hs (jh s.its F K))=B at *
 have hc:∀c∈B,c.length≤24∧wF c=true:=fun c hc=>by
  have q:=List.sublist_flatten_of_mem hc
  rw[hfl]at q
  have:=q.length_le
  exact⟨ab,Tw (fun x hx=>hall x (q.subset hx)) (hpw.sublist q)⟩
 refine⟨ab,ab,by rw[hfl];omega,fun c q=>(hc c q).1,fun a b ha ha2 hb i hi=>?_⟩
 have hg:(B[i]?).getD []=B[i]:=by rw[V4 hi];rfl
 obtain⟨c1,c2⟩:=hc _ (Wk hi)
 have hn:bJ (i:Int)=true:=by unfold bJ;simp;omega
 have hok:=(nR s.know F).1
 unfold nd
 rw[hg]
 generalize cX s.know F=L at *
 have hwl:=hw.len
 split
 ·exact⟨by simp[j8,ha,ha2,hb,hn,c2,hok];omega,su au (dE (hw.mid bz bz)) (hw.few bz) aA au aA⟩
 ·exact⟨by simp[j8,ha,ha2,hb,hn,c2,gi];omega,su au oY (fun p hp=>by simp at hp) au au aA⟩
theorem o0 (f:List Rg):cX [] f=[]:=(NT gi).2 fun _ _=>rfl
theorem FP {l:List It}(hr:l.all eC=true)(hu:Up l):ey [l++[]]=l:=Up.uniq (j2 _).1 hu fun k=>by
 rw[(j2 _).2.2,show([l++[]]:List (List It)).flatten=l by simp,jb hr]
theorem J4 {s:Sta}(h:oQ s=true):pq s [] []=(s,0):=by
 obtain⟨_,c2,c3,_,_,c6,_,_,c9,_⟩:=se h
 have hm:=FP (vR h).1 (vR h).2
 have e1:Ar s.flt []=[]:=rfl
 unfold pq
 rw[V3 (by rw[h];decide),o0,e1,V3 (by rintro(q|q);cases q;exact q gi),V3 au,V3 (by show ¬(0:Int)>s.cnt;omega),hm,V3 (by rw[c9];decide),V3 ab,Wg,M5 c6]
theorem Ho:ew []:=⟨bz,bz,bz⟩
theorem Ds {s:Sta}(hB:RP s)(hf:s.flt.length≤12)(hs:s.its.length≤100000)(hr:oQ s=true):Fn prog 39 [ji s,.per (dP []),nc []] (.tup2 (.per (S5 s)) (el 0)):=by
 have:=Q5 s [] [] ⟨hB,hf,au,(fun x hx=>by cases hx),hs,Ho,au,fun _=>by rw[o0];exact Ho,fun _=>by rw[o0];simp,fun _ _=>by rw[o0,Wg];exact hB.kmid⟩
 rw[J4 hr]at this
 exact this
theorem FQ (b:List UInt8)(hb:b.length≤1000000)(seed:Int)(h0:0≤seed∧seed≤281474976710656)(h:b=[]∨(nb b).2=0):∃(th:PV)(hs:Int→Int→Bool)(bs:List Bool)(pr sd:Int),
 Vs b seed th∧Vt b seed bs pr sd∧(∀r c,Fn prog 351 [.per th,sD r c] (dq (hs r c)))∧U9 [] hs bs pr sd:=by
 by_cases he:b=[]
 ·exact⟨jf,fun _ _=>false,[],0,0,.inl ⟨he,rfl⟩,.inl ⟨he,rfl,rfl,rfl⟩,Hk,⟨fun h=>by simp at h,fun _ _ _=>rfl⟩⟩
 ·have h:=h.resolve_left he
  have hp:0<b.length:=List.length_pos_iff.2 he
  have h2:=Gn b hb seed
  obtain⟨bits,probes,row,hX⟩:∃bits probes row,nb b=((bits,probes,row),0):=⟨_,_,_,by rw[←h]⟩
  rw[hX]at h2
  obtain⟨ok,h1⟩:=va b hb seed hX
  obtain⟨hbk,hl,b1,b2,p1,p2,hT⟩:=IG hX
  obtain⟨n,rfl⟩:=Int.eq_ofNat_of_zero_le (show 0≤bits by omega)
  rw[Int.toNat_natCast]at hl hT
  replace h2:Fn prog 35 [.per (aK b),iC .u64 seed] (.tup2 (.per (pf (iY n row) probes seed)) (el 0)):=h2
  refine⟨_,fun r c=>Cf row n probes seed r c,iY n row,probes,seed,.inr ⟨hp,hb,h0.1,h0.2,_,rfl,h1⟩,.inr ⟨hp,hb,h0.1,h0.2,?_⟩,fun r c=>SE n probes seed row ok r c,⟨fun _ r c=>?_,fun q=>?_⟩⟩
  ·exact h2
  ·have h6:=SF (iY n row) probes seed r c (by rw[mR];omega) (by rw[mR];omega) ab p2
   rw[mR,EI ab]at h6
   exact h6
  ·rw[mR]at q;omega
abbrev h37:Msg:={ kind:=1,ses:=1,flt:=[⟨emB,emB,true⟩] }
abbrev b37:Msg:={ kind:=5,ses:=1,last:=true }
theorem RZ:wg h37:=su au oY Tp au au au
theorem R0:wg b37:=su au oY Tp au au au
theorem R3:(ev h37).2=0:=by decide +kernel
theorem R4:(ev b37).2=0:=by decide +kernel
theorem V0:fR ex35 [⟨emB,emB,true⟩] [] 0 [] (fun _ _=>false)=([[]],[],0):=by
 obtain⟨_,_,_,c4,_,_,c7,_⟩:=se Am
 unfold fR
 rw[V3 (by rw[show p6 ex35 [⟨emB,emB,true⟩] []=0 from Fv.2 ⟨Am,c4,gi⟩];simp)]
 rw[show cX ex35.know [⟨emB,emB,true⟩]=[]from c7]
 rfl
theorem FR (x:Srv)(p:PV):dh prog 16 [.ptr 1000 0 0] [(1000,kS x p)] (.per (ak (.int .i64 x.ses))) [(1000,kS x p)]:=by
 refine dH func16 ntmps16 ?_
 (refine w0 ?_;repeat' first|apply ah|refine ai fun hc=>?_)
 refine gM ?_
 exact bm rfl rfl
theorem An:Fn prog 5 [] (dq true):=by
 have a1:=(OM ex35 (by have:=qX ex35 FK;rw[Am]at this;exact this) ((Ds FK bz bz Am).argsW (.same (.per ee (.per ee .nil))))).argsW (As:=[.per (cB [ak (.int .i64 1),fW [⟨emB,emB,true⟩],dl,dl,ak (.int .i64 0)])]) (.per aI .nil)
 have a2:=(FD h37 RZ).arg1 (A:=cB [ak (.int .i64 1),ak (.int .i64 1),f7,f7,f7,f7,f7,f7,kR,kR,kR,fW [⟨emB,emB,true⟩],dl,dl,eP,eP,kR,ak (.int .u64 0),dl]) aI
 rw[R3]at a2
 have hl:=iL h37
 obtain⟨r1,_⟩:=oZ RZ (Xi _) R3
 obtain⟨r2,_⟩:=oZ R0 (Xi _) R4
 have hs2:pv 1 0 (nd [[]] [] 0)=(ev b37).1:=by
  unfold pv
  rw[show({ nd [[]] [] 0 with ses:=1,num:=0 }:Msg)=b37 from rfl,V6 R4]
 have hl2:=iL b37
 have a3:=wl { s:=ex35 } jf (ev h37).1 ab h37 r1 rfl rfl bz _ _ _ (wk { s:=ex35 } jf h37 rfl _ _ _ (Al _ _ _ _ _ (yF { s:=ex35,ses:=1,hello:=h37 } _ jf (fun _ _=>false) ⟨FK,bz,bz,bz,⟨bz,bz,bz⟩,bz,bz,Hk⟩ (.inl ⟨rfl,rfl⟩) _ V0 rfl rfl bz bz R0
  (by rw[show(({ s:=ex35,ses:=1,hello:=h37,bat:=[[]],lrn:=[] }:Srv).batch 0).rep=pv 1 0 (nd [[]] [] 0)from rfl,hs2];omega))))
 have a4:Fn prog 21 [.per (aK (ev b37).1)] (.tup2 (.per (DB b37)) (el 0)):=by
  have:=Af (ev b37).1 ab
  rw[r2]at this
  exact this
 have hy:(({ s:=ex35,ses:=1,hello:=h37,bat:=[[]],lrn:=[] }:Srv).batch 0).rep=(ev b37).1:=hs2
 have hy1:(({ s:=ex35,ses:=1,hello:=h37,bat:=[[]],lrn:=[] }:Srv).batch 0).ses=1:=rfl
 generalize ({ s:=ex35,ses:=1,hello:=h37,bat:=[[]],lrn:=[] }:Srv).batch 0=y at *
 have a5:=FR y (wQ [[]] [])
 rw[hy1]at a5
 rw[hy]at a3
 clear hy hy1 r1 r2 hs2 hl hl2
 generalize (ev h37).1=b at *
 generalize (ev b37).1=c at *
 refine fi func5 ntmps5 ?_
 (have km1:=(show kW [(3000,500)] _ _ _ _ _ _ from a1);have kc1:=a2;have km2:=(show kW [(1000,500)] _ _ _ _ _ _ from a3);have kc2:=a4;have km3:=(show kW [(1000,500)] _ _ _ _ _ _ from a5);refine w0 ?_;(repeat' first|apply ah|refine ai fun hc=>?_);all_goals clear km3 kc2 km2 kc1 km1)
 all_goals
  refine dw ?_
  refine aL rfl ?_
  first|rfl|(simp;done)
abbrev VJ (w:World):BP:=g0.N (cx w)
def Wr {β:Type}(w:World)(k:Nat)(f:β→List PV)(cs:List Value)(y:β):Prop:=
 cs.length=k∧(f y).length=k∧∀(j:Nat)(A:PV)(u:Value),(f y)[j]?=some A→cs[j]?=some u→u.oneCell'=true∧A.p (VJ w) w u
def J5 {β:Type}(P:Program)(w:World)(t:TypeId)(k:Nat)(f:β→List PV)(Q:β→Prop):Prop:=Rd P w t (fun cs=>∃y:β,Q y∧Wr w k f cs y)
section
variable {P:Program} {w:World} {t e:TypeId} {β:Type} {k:Nat} {f:β→List PV} {Q:β→Prop}
theorem Wr.ones {cs:List Value}{y:β}(h:Wr w k f cs y):∀u∈cs,u.oneCell'=true:=fun u hu=>by
 obtain⟨j,hj,rfl⟩:=List.getElem_of_mem hu
 have hj':j<(f y).length:=by have:=h.1;have:=h.2.1;omega
 exact(h.2.2 j _ _ (V4 hj') (V4 hj)).1
theorem J5.slice (h:J5 P w e k f Q)(ht:P.underlying t=some (.slice e))(hk:P.cellsOf e=k)(hk0:0<k) :
 Rd P w t (fun cs=>∃(v:Value)(l:List β),cs=[v]∧(cA k (l.map f)).p (VJ w) w v∧∀y∈l,Q y):=by
 refine(Rd.slice (α:={ cs:List Value // cs.length=k∧∀u∈cs,u.oneCell'=true }) (enc:=fun x=>x.1) (G:=fun x=>∃y:β,Q y∧Wr w k f x.1 y) ht hk hk0 h fun cs ⟨y,h1,h2⟩=>⟨⟨cs,h2.1,h2.ones⟩,rfl,y,h1,h2⟩).mono ?_
 rintro cs ⟨v,lv,rfl,⟨a,c,b,o,rfl,h1,h2,h3,h0,h4⟩,hG⟩
 obtain⟨l,hl,hg⟩:=qT (G:=fun i y=>∀(h:i<lv.length),Q y∧Wr w k f lv[i].1 y) lv.length (fun i hi=>by
  obtain⟨y,q1,q2⟩:=hG lv[i] (Wk hi)
  exact⟨y,fun _=>⟨q1,q2⟩⟩)
 refine⟨_,l,rfl,⟨a,c,b,o,by rw[V7,hl],by rw[V7,hl];exact h1,h2,h0,fun hn=>?_,fun i cs hi=>?_⟩,fun y hy=>?_⟩
 ·rw[V7,hl]at hn
  refine⟨h3 hn,?_,fun hb=>hb.elim id (fun h=>h rfl)⟩
  have hp:=lv[0].2.1
  have:=h4 0 lv[0] (by simp[hn]) 0 (lv[0].1[0]'(ab)) au
  rcases Wm b w.heap.size with hb|hb
  ·exact hb
  ·simp[World.cell?,Array.getElem?_eq_none hb]at this
 ·rw[List.getElem?_map]at hi
  cases hx:l[i]? with
  | none=>rw[hx]at hi;cases hi
  | some y=>
   rw[hx]at hi;cases hi
   have hil:i<lv.length:=by
    have:=(Ws.1 hx).1;omega
   obtain⟨_,q1,q2,q3⟩:=hg i y hx hil
   refine⟨q2,fun j A hj=>?_⟩
   have hjk:j<lv[i].1.length:=by
    have:=(Ws.1 hj).1;omega
   obtain⟨r1,r2⟩:=q3 j A _ hj (V4 hjk)
   exact⟨_,h4 i lv[i] (V4 hil) j _ (V4 hjk),r1,r2⟩
 ·obtain⟨i,hi,rfl⟩:=List.getElem_of_mem hy
  exact(hg i _ (V4 hi) ab).1
theorem J5.flat {enc:β→List Value}(hE:J7 k enc)(h:Rd P w e (fun cs=>∃y,cs=enc y∧Q y)):J5 P w e k (fv enc) Q:=
 h.mono fun cs ⟨y,h1,h2⟩=>⟨y,h2,by rw[h1,hE.len],by unfold fv;rw[V7,hE.len],fun j A u hj hu=>by
  unfold fv at hj
  rw[List.getElem?_map]at hj
  rw[h1]at hu
  rw[hu]at hj;cases hj
  exact⟨hE.one y u (WK hu),rfl⟩⟩
end
theorem UL {α:Type}(l:List α)(h:l.length=3):∃a b c,l=[a,b,c]:=by
 match l,h with|[a,b,c],_=>exact⟨a,b,c,rfl⟩
theorem UM {α:Type}(l:List α)(h:l.length=4):∃a b c d,l=[a,b,c,d]:=by
 match l,h with|[a,b,c,d],_=>exact⟨a,b,c,d,rfl⟩
def Du (x:Rg):Prop:=x.lo.size≤maxLen∧x.hi.size≤maxLen
theorem OS (w:World):Rd prog w 29 (fun cs=>∃x,cs=encRg x∧Du x):=by
 refine(Rd.struct' underlying29).mono ?_
 rintro cs ⟨hl,hf⟩
 obtain⟨c0,c1,c2,rfl⟩:=UL cs (hl.trans (by kernel_rfl))
 obtain⟨s0,h0,w0⟩:=hf 0 0 9 1 _ rfl (by kernel_rfl) (Rd.string underlying9)
 obtain⟨s1,h1,w1⟩:=hf 1 1 9 1 _ rfl (by kernel_rfl) (Rd.string underlying9)
 obtain⟨b2,h2⟩:=hf 2 2 4 1 _ rfl (by kernel_rfl) (Rd.bool underlying4)
 simp at h0 h1 h2
 subst h0 h1 h2
 exact⟨⟨s0,s1,b2⟩,rfl,w0,w1⟩
theorem r8.range {w:World}{v:Value}(h:r8 prog w 29 v):∃x,v=.agg (encRg x).toArray∧Du x:=by
 obtain⟨cs,rfl⟩:=h.cells (by rw[underlying29])
 obtain⟨x,h1,h2⟩:=h.rd _ (OS w)
 refine⟨x,?_,h2⟩
 rw[←h1];simp[Value.cells]
theorem Vu (w:World):Rd prog w 144 (fun cs=>∃x,cs=encRn x∧True):=by
 refine(Rd.struct' underlying144).mono ?_
 rintro cs ⟨hl,hf⟩
 obtain⟨c0,c1,rfl⟩:=Nz cs (hl.trans (by kernel_rfl))
 obtain⟨n0,h0,w0⟩:=hf 0 0 3 1 _ rfl (by kernel_rfl) (Rd.int underlying3)
 obtain⟨n1,h1,w1⟩:=hf 1 1 3 1 _ rfl (by kernel_rfl) (Rd.int underlying3)
 simp at h0 h1
 subst h0 h1
 exact⟨⟨n0,n1⟩,rfl,trivial⟩
theorem UN (w:World):J5 prog w 144 2 rnP (fun _=>True):=J5.flat B1 (Vu w)
theorem UO (w:World):J5 prog w 142 2 zh (fun _=>True):=by
 refine(Rd.struct' underlying142).mono ?_
 rintro cs ⟨hl,hf⟩
 obtain⟨c0,c1,rfl⟩:=Nz cs (hl.trans (by kernel_rfl))
 obtain⟨n0,h0,w0⟩:=hf 0 0 3 1 _ rfl (by kernel_rfl) (Rd.int underlying3)
 obtain⟨v,l,h1,h2,_⟩:=hf 1 1 140 1 _ rfl (by kernel_rfl) ((UN w).slice underlying140 (by kernel_rfl) bz)
 simp at h0 h1
 subst h0 h1
 refine⟨⟨n0,l⟩,trivial,rfl,rfl,fun j A u hj hu=>?_⟩
 match j,hj,hu with
 | 0,hj,hu=>cases hj;cases hu;exact⟨rfl,rfl⟩
 | 1,hj,hu=>cases hj;cases hu;exact⟨by obtain⟨a,c,b,o,rfl,_⟩:=h2;rfl,h2⟩
 | _+2,hj,_=>simp at hj
theorem R5 (w:World):J5 prog w 132 4 pcP (fun p=>Du p.rg):=by
 refine(Rd.struct' underlying132).mono ?_
 rintro cs ⟨hl,hf⟩
 obtain⟨c0,c1,c2,c3,rfl⟩:=UM cs (hl.trans (by kernel_rfl))
 obtain⟨r,h0,w0⟩:=hf 0 0 29 3 _ rfl (by kernel_rfl) (OS w)
 obtain⟨v,l,h1,h2,_⟩:=hf 1 3 130 1 _ rfl (by kernel_rfl) ((UO w).slice underlying130 (by kernel_rfl) bz)
 simp[encRg]at h0 h1
 obtain⟨rfl,rfl,rfl⟩:=h0
 subst h1
 refine⟨⟨r,l⟩,w0,rfl,rfl,fun j A u hj hu=>?_⟩
 match j,hj,hu with
 | 0,hj,hu=>cases hj;cases hu;exact⟨rfl,rfl⟩
 | 1,hj,hu=>cases hj;cases hu;exact⟨rfl,rfl⟩
 | 2,hj,hu=>cases hj;cases hu;exact⟨rfl,rfl⟩
 | 3,hj,hu=>cases hj;cases hu;exact⟨by obtain⟨a,c,b,o,rfl,_⟩:=h2;rfl,h2⟩
 | _+4,hj,_=>simp at hj
theorem Tx {α:Type}(l:List α)(h:l.length=19):∃a0 a1 a2 a3 a4 a5 a6 a7 a8 a9 a10 a11 a12 a13 a14 a15 a16 a17 U6,l=[a0,a1,a2,a3,a4,a5,a6,a7,a8,a9,a10,a11,a12,a13,a14,a15,a16,a17,U6]:=by
 match l,h with|[a0,a1,a2,a3,a4,a5,a6,a7,a8,a9,a10,a11,a12,a13,a14,a15,a16,a17,U6],_=>exact⟨a0,a1,a2,a3,a4,a5,a6,a7,a8,a9,a10,a11,a12,a13,a14,a15,a16,a17,U6,rfl⟩
def UQ (m:Msg):Prop:=m.sum<18446744073709551616∧Du m.rg∧(∀r∈m.flt,Du r)∧(∀p∈m.know,Du p.rg)∧(∀x∈m.its,QR x)
theorem Vv (w:World):Rd prog w 5 (fun cs=>∃x:UInt8,cs=encB x∧True):=(Rd.int underlying5).mono Rd.u8dec
theorem tU {N:BP}{w:World}{k:Nat}{es:List (List PV)}{v:Value}(h:(cA k es).p N w v):v.oneCell'=true:=by obtain⟨a,c,b,o,rfl,_⟩:=h;rfl
theorem Vw (w:World):Rd prog w 32 (fun cs=>∃m:Msg,UQ m∧Wr w 19 bS cs m):=by
 refine(Rd.struct' underlying32).mono ?_
 rintro cs ⟨hl,hf⟩
 obtain⟨c0,c1,c2,c3,c4,c5,c6,c7,c8,c9,c10,c11,c12,c13,c14,c15,c16,c17,c18,rfl⟩:=Tx cs (hl.trans (by kernel_rfl))
 obtain⟨n0,h0,_⟩:=hf 0 0 3 1 _ rfl (by kernel_rfl) (Rd.int underlying3)
 obtain⟨n1,h1,_⟩:=hf 1 1 3 1 _ rfl (by kernel_rfl) (Rd.int underlying3)
 obtain⟨n2,h2,_⟩:=hf 2 2 3 1 _ rfl (by kernel_rfl) (Rd.int underlying3)
 obtain⟨n3,h3,_⟩:=hf 3 3 3 1 _ rfl (by kernel_rfl) (Rd.int underlying3)
 obtain⟨n4,h4,_⟩:=hf 4 4 3 1 _ rfl (by kernel_rfl) (Rd.int underlying3)
 obtain⟨n5,h5,_⟩:=hf 5 5 3 1 _ rfl (by kernel_rfl) (Rd.int underlying3)
 obtain⟨n6,h6,_⟩:=hf 6 6 3 1 _ rfl (by kernel_rfl) (Rd.int underlying3)
 obtain⟨n7,h7,_⟩:=hf 7 7 3 1 _ rfl (by kernel_rfl) (Rd.int underlying3)
 obtain⟨b8,h8⟩:=hf 8 8 4 1 _ rfl (by kernel_rfl) (Rd.bool underlying4)
 obtain⟨b9,h9⟩:=hf 9 9 4 1 _ rfl (by kernel_rfl) (Rd.bool underlying4)
 obtain⟨b10,h10⟩:=hf 10 10 4 1 _ rfl (by kernel_rfl) (Rd.bool underlying4)
 obtain⟨v11,l11,h11,p11,w11⟩:=hf 11 11 22 1 _ rfl (by kernel_rfl) ((J5.flat BO (OS w)).slice underlying22 (by kernel_rfl) bz)
 obtain⟨v12,l12,h12,p12,w12⟩:=hf 12 12 24 1 _ rfl (by kernel_rfl) ((R5 w).slice underlying24 (by kernel_rfl) bz)
 obtain⟨v13,l13,h13,p13,w13⟩:=hf 13 13 27 1 _ rfl (by kernel_rfl) ((J5.flat dz (Vv w)).slice underlying27 (by kernel_rfl) bz)
 obtain⟨r,h14,w14⟩:=hf 14 14 29 3 _ rfl (by kernel_rfl) (OS w)
 obtain⟨n17,h17,w17⟩:=hf 15 17 30 1 _ rfl (by kernel_rfl) (Rd.int underlying30)
 obtain⟨v18,l18,h18,p18,w18⟩:=hf 16 18 23 1 _ rfl (by kernel_rfl) ((J5.flat BM (SV w)).slice underlying23 (by kernel_rfl) bz)
 simp[encRg]at h0 h1 h2 h3 h4 h5 h6 h7 h8 h9 h10 h11 h12 h13 h14 h17 h18
 subst h0 h1 h2 h3 h4 h5 h6 h7 h8 h9 h10 h11 h12 h13 h17 h18
 obtain⟨rfl,rfl,rfl⟩:=h14
 have hu:=bounds_u64 w17
 obtain⟨s,rfl⟩:=Int.eq_ofNat_of_zero_le hu.1
 refine⟨⟨n0,n1,n2,n3,n4,n5,n6,n7,b8,b9,b10,l11,l12,l13,r,s,l18⟩,⟨by have:=hu.2;simp only;omega,w14,w11,w12,w18⟩,rfl,rfl,fun j A u hj hu=>?_⟩
 match j,hj,hu with
 | 0,hj,hu|1,hj,hu|2,hj,hu|3,hj,hu|4,hj,hu|5,hj,hu|6,hj,hu|7,hj,hu|8,hj,hu|9,hj,hu|10,hj,hu|14,hj,hu|15,hj,hu|16,hj,hu|17,hj,hu=>cases hj;cases hu;exact⟨rfl,rfl⟩
 | 11,hj,hu=>cases hj;cases hu;exact⟨tU p11,p11⟩
 | 12,hj,hu=>cases hj;cases hu;exact⟨tU p12,p12⟩
 | 13,hj,hu=>cases hj;cases hu;exact⟨tU p13,p13⟩
 | 18,hj,hu=>cases hj;cases hu;exact⟨tU p18,p18⟩
 | _+19,hj,_=>simp at hj
theorem r8.message {w:World}{v:Value}(h:r8 prog w 32 v):∃m:Msg,UQ m∧In w v (p7 m):=by
 obtain⟨cs,rfl⟩:=h.cells (by rw[underlying32])
 obtain⟨m,h1,h2,h3,h4⟩:=h.rd _ (Vw w)
 refine⟨m,h1,cs,rfl,?_,fun j A hj=>?_⟩
 ·have:cs.toList.length=19:=h2
  simpa using this
 ·have hjl:j<cs.toList.length:=by
   have:=(Ws.1 hj).1
   show j<(Value.agg cs).cells.toList.length
   rw[h2];exact this
  obtain⟨q1,q2⟩:=h4 j A cs.toList[j] hj (V4 hjl)
  exact⟨cs.toList[j],by simp at hjl ⊢,q1,q2⟩
abbrev mW (m:Msg):Msg:={ m with kind:=1,num:=0,wants:=false }
theorem FS (s:Sta)(m:Msg)(r1 r2 r3 r4:Bool)(h:(!r1&&(r2&&(!r3&&r4)))=false)(a1:Fn prog 6 [ji s] (dq r1))(a2:r1=false→Fn prog 7 [ji s] (dq r2))
 (a3:Fn prog 8 [p7 (mW m)] (dq r3)) (a4:r3=false→Fn prog 9 [p7 (mW m)] (dq r4)):Fn prog 3 [ji s,p7 m] (dq true):=by
 have a0:=An
 cases r1 with
 | true=>
  refine fi func3 ntmps3 ?_
  (refine bg a0 a1 ?_;repeat' first|apply ah|refine ai fun hc=>?_)
  exact dp
 | false=>
  have a2:=a2 rfl
  cases r2 with
  | false=>
   refine fi func3 ntmps3 ?_
   (refine fO a0 a1 a2 ?_;repeat' first|apply ah|refine ai fun hc=>?_)
   exact dp
  | true=>
   cases r3 with
   | true=>
    refine fi func3 ntmps3 ?_
    (refine pj a0 a1 a2 a3 ?_;repeat' first|apply ah|refine ai fun hc=>?_)
    exact dp
   | false=>
    have a4:=a4 rfl
    cases r4 with
    | true=>simp at h
    | false=>
     refine fi func3 ntmps3 ?_
     (refine xj a0 a1 a2 a3 a4 ?_;repeat' first|apply ah|refine ai fun hc=>?_)
     exact dp
structure UR (B:List (List It))(G:Nat→List UInt8)(Y:Nat→Srv)(P:PV)(ses:Int):Prop where
 rd:∀i (h:i<B.length),((G i).length≤1000000∧Ci (G i)=({ kind:=6,ses:=ses,num:=i,err:=12 },0)) ∨
  ((G i).length≤1000000∧(∃y:Msg,Ci (G i)=(y,0)∧y.kind=5∧y.nxt=i∧y.num=i∧y.last=decide ((i:Int)=(B.length:Int)-1)∧y.its=B[i]) ∧
  ∃p,Fn prog 11 [.per (cB [ak (.int .i64 3),ak (.int .i64 ses),ak (.int .i64 ((i:Nat)+1)),f7,f7,f7,ak (.int .i64 ((i:Nat)+1)),f7,kR,kR,kR,dl,dl,dl,eP,eP,kR,ak (.int .u64 0),dl])] (.tup2 (.per (aK p)) (el 0)) ∧
   dh prog 12 [.ptr 1000 0 0,.per (aK p)] [(1000,kS (Y i) P)] (.per (aK (G (i+1)))) [(1000,kS (Y (i+1)) P)])
 fin:decide ((G B.length).length=0)=decide (0<B.length)
theorem rj (s:Sta)(m:Msg)(a1:Fn prog 6 [ji s] (dq false))(a2:Fn prog 7 [ji s] (dq true))(a3:Fn prog 8 [p7 (mW m)] (dq false))(a4:Fn prog 9 [p7 (mW m)] (dq true))
 (a5:dh prog 10 [ji s] [] (.tup2 (.ptr 3000 0 0) (.per (ak (.int .i64 0)))) [(3000,kS { s:=s } jf)]) (b:List UInt8) (a6:Fn prog 11 [p7 (mW m)] (.tup2 (.per (aK b)) (el 0)))
 (B:List (List It)) (hb:B.length≤24) (hf:B.flatten.length≤24) (G:Nat→List UInt8) (Y:Nat→Srv) (P:PV) (z:Srv) (hz:z.bat=B)
 (a7:dh prog 12 [.ptr 1000 0 0,.per (aK b)] [(1000,kS { s:=s } jf)] (.per (aK (G 0))) [(1000,kS (Y 0) P)])
 (a8:dh prog 13 [.ptr 1000 0 0,.per (aK b)] [(1000,Ak { s:=s })] (.per (aK z.rep)) [(1000,Ak z)])
 (hS:UR B G Y P m.ses):Fn prog 3 [ji s,p7 m] (dq true):=by
 have a0:=An
 refine fi func3 ntmps3 ?_
 (have kc1:=a0;have kc2:=a1;have kc3:=a2;have kc4:=a3;have kc5:=a4;have km1:=(show kW [(3000,500)] _ _ _ _ _ _ from a5);have kc6:=a6;have km2:=(show kW [(1000,500)] _ _ _ _ _ _ from a7);refine w0 ?_;(repeat' first|apply ah|refine ai fun hc=>?_);all_goals clear km2 kc6 km1 kc5 kc4 kc3 kc2 kc1)
 refine aR (cE 48 _ 44 (td s++[f7,f7,f7,f7,f7,f7,f7,f7,f7,f7,kR,kR,kR,dl,dl,dl,eP,eP,kR,ak (.int .u64 0),dl,dl,dl,dl,dl]) (Vr { s:=s }) rfl rfl (by(repeat (first|exact PW.nil|(refine PW.cons (by first|exact zS.refl|exact ee) ?_))))) ?_
 (refine fP (xi [(1000,48)] a8) ?_;repeat' first|apply ah|refine ai fun hc=>?_)
 clear a0 a1 a2 a3 a4 a5 a6 a7 a8
 subst hz
 refine bQ (bU 11 700 82 7 rfl rfl) ?_
 refine aj (X:=Nat) (fun i=>i≤z.bat.length) (fun i=>ay [(3,.ptr 3 0 0),(5,.ptr 500 0 0),(7,.ptr 48 0 0),(10,.per (aK (G i))),(11,.row 700 0),(12,iC .i64 (i:Nat))] [(3,.box 32 ((bS (mW m)).map Cnt.per)),(500,kS (Y i) P),(48,Ak z),(700,.row 82 7 ((z.bat.take i).flatten.map itP))]) (fun i=>z.bat.length-i) 0 (Wa _) ?_
 intro i h1
 by_cases hi:i<z.bat.length
 ·rcases hS.rd i hi with⟨q1,q2⟩|⟨q1,⟨y,q2,y1,y2,y3,y4,y5⟩,p,q3,q4⟩
  ·have c1:Fn prog 14 [.per (aK (G i))] (.tup2 (.per (DB { kind:=6,ses:=m.ses,num:=i,err:=12 })) (el 0)):=by
    have:=Aj (G i) q1
    rw[q2]at this
    exact this
   clear hS q2
   (refine aq c1 ?_;repeat' first|apply ah|refine ai fun hc=>?_)
   all_goals
    refine dw ?_
    refine aL rfl ?_
    first|rfl|(simp;done)
  ·have c1:Fn prog 14 [.per (aK (G i))] (.tup2 (.per (DB y)) (el 0)):=by
    have:=Aj (G i) q1
    rw[q2]at this
    exact this
   have hsn:=Hn (V4 hi)
   have hfl:=(Hm z.bat (i+1)).1
   rw[←y5]at hsn
   rw[hsn,V5]at hfl
   clear hS q2
   generalize z.bat.flatten.length=FL at *
   generalize (z.bat.take i).flatten=A at *
   (refine BD c1 q3 (xi [(1000,500)] q4) ?_;repeat' first|apply ah|refine ai fun hc=>?_|((first|apply aB rfl|apply aC rfl|apply aD rfl|apply aF rfl);(focus ((try (apply bI;(focus rfl);apply ag rfl rfl rfl rfl rfl));first|((apply aZ 8;(focus rfl);exact Nh ⟨rfl,rfl,rfl⟩ rfl inferInstance rfl rfl (by first|exact .inl ⟨rfl,rfl⟩|exact .inr ⟨rfl,rfl⟩)))));refine BD c1 q3 (xi [(1000,500)] q4) ?_))
   all_goals first
    | exact absurd (by rw[y4];exact beq_self_eq_true _) hc
    | skip
   refine⟨i+1,hi,ab,av (aN 700 701) (av (aN 701 700) ?_)⟩
   rw[hsn]
   exact ae
 ·obtain rfl:i=z.bat.length:=ab
  have hfin:=hS.fin
  clear hS
  have hA:(z.bat.take z.bat.length).flatten=z.bat.flatten:=by rw[WX]
  rw[hA]
  clear hA
  (refine w0 ?_;repeat' first|apply ah|refine ai fun hc=>?_)
  refine aj (X:=Nat) (fun k=>k≤z.bat.length) (fun k=>ay [(7,.ptr 48 0 0),(10,.per (aK (G z.bat.length))),(11,.row 700 0),(17,iC .i64 ((z.bat.take k).flatten.length:Nat)),(145,.per (cA 1 (z.bat.map fun c=>[dP c]))),(146,iC .i64 (z.bat.length:Nat)),(147,iC .i64 (k:Nat))] [(48,Ak z),(700,.row 82 7 (z.bat.flatten.map itP))]) (fun k=>z.bat.length-k) 0 (Wa _) ?_
  intro k k1
  by_cases hk:k<z.bat.length
  ·have hsn:=Hn (V4 hk)
   have hfl:=(Hm z.bat (k+1)).1
   have hln:(z.bat.take (k+1)).flatten.length=(z.bat.take k).flatten.length+z.bat[k].length:=by rw[hsn,V5]
   rw[hln]at hfl
   clear hsn hfin
   generalize (z.bat.take k).flatten.length=C0 at hln hfl ⊢
   generalize z.bat.flatten=FL at *
   (refine w0 ?_;repeat' first|apply ah|refine ai fun hc=>?_)
   refine⟨k+1,hk,ab,?_⟩
   rw[hln]
   exact ae
  ·obtain rfl:k=z.bat.length:=ab
   rw[WX]
   generalize z.bat.flatten=FL at *
   generalize G z.bat.length=L at *
   (refine w0 ?_;repeat' first|apply ah|refine ai fun hc=>?_|((first|apply aB rfl|apply aC rfl|apply aD rfl|apply aF rfl);(focus ((try (apply bI;(focus rfl);apply ag rfl rfl rfl rfl rfl));first|((apply aZ 8;(focus rfl);exact Nh ⟨rfl,rfl,rfl⟩ rfl inferInstance rfl rfl (by first|exact .inl ⟨rfl,rfl⟩|exact .inr ⟨rfl,rfl⟩)))));refine w0 ?_))
   all_goals
    refine dw ?_
    refine aL rfl ?_
    first
     | exact beq_self_eq_true _
     | grind
theorem Dv (s:Sta)(m:Msg)(a1:Fn prog 6 [ji s] (dq false))(a2:Fn prog 7 [ji s] (dq true))(a3:Fn prog 8 [p7 (mW m)] (dq false))(a4:Fn prog 9 [p7 (mW m)] (dq true))
 (a5:dh prog 10 [ji s] [] (.tup2 (.ptr 3000 0 0) (.per (ak (.int .i64 0)))) [(3000,kS { s:=s } jf)]) (b:List UInt8) (f:Int) (a6:Fn prog 11 [p7 (mW m)] (.tup2 (.per (aK b)) (el f))) (hf:f≠0) :
 Fn prog 3 [ji s,p7 m] (dq true):=by
 have a0:=An
 refine fi func3 ntmps3 ?_
 (have kc1:=a0;have kc2:=a1;have kc3:=a2;have kc4:=a3;have kc5:=a4;have km1:=(show kW [(3000,500)] _ _ _ _ _ _ from a5);have kc6:=a6;refine w0 ?_;(repeat' first|apply ah|refine ai fun hc=>?_);all_goals clear kc6 km1 kc5 kc4 kc3 kc2 kc1)
 all_goals
  exact dp
theorem Ty (lim:Int):∀l:List It,jc lim l=0∨jc lim l=2∨jc lim l=12:=by
 intro l
 induction l<;>grind[jc]
theorem Rp (s:Sta)(F:List Rg)(K:List Pc)(lim:Int)(R:List Rg)(hs:Int→Int→Bool)(h:(fR s F K lim R hs).2.2≠0):1≤(fR s F K lim R hs).2.2∧bJ (fR s F K lim R hs).2.2=true:=by
 have q:=Ty lim (gw R hs (jh s.its F K))
 have r:p6 s F K=0∨p6 s F K=2∨p6 s F K=41:=by
  unfold p6 N4
  grind
 unfold fR at h ⊢
 unfold bJ
 grind
abbrev yM (m:Msg):Msg:={ kind:=1,ses:=m.ses,num:=0,lim:=m.lim,seed:=m.seed,bits:=m.bits,wants:=false,flt:=m.flt,know:=m.know,there:=m.there }
theorem J6 {m:Msg}(h:j8 (mW m)=true):1≤m.ses∧bJ m.ses=true∧(0≤m.lim∧m.lim≤281474976710656)∧(0≤m.seed∧m.seed≤281474976710656)∧(m.there=[]∨(nb m.there).2=0):=by
 unfold j8 bJ at h
 unfold bJ
 simp at h ⊢
 grind
abbrev sv (ses:Int)(i:Nat):Msg:={ kind:=3,ses:=ses,num:=(i:Nat)+1,nxt:=(i:Nat)+1 }
theorem R6 (ses:Int)(i:Nat):wg (sv ses i):=su au oY Tp au au au
theorem OT {ses:Int}{i:Nat}(ha:1≤ses)(ha2:bJ ses=true)(hi:i≤100):(ev (sv ses i)).2=0:=by
 have hn:bJ ((i:Int)+1)=true:=by unfold bJ;simp;omega
 have hm:j8 (sv ses i)=true:=by simp[j8,ha,ha2,hn]
 have hl:(gv (sv ses i)).length≤32768:=by
  have n1:=bf 3 bz
  have n2:=bf ses (by unfold bJ at ha2;simp at ha2;omega)
  have n3:=bf ((i:Int)+1) ab
  unfold gv
  rw[show cV (sv ses i)=[3,ses,(i:Int)+1,(i:Int)+1]from rfl,show eu (sv ses i)=[]from rfl]
  simp
  omega
 unfold ev
 rw[V6 hm,V6 hl]
theorem OU (x:Srv)(B:List (List It))(K:List Pc)(hb:x.bat=B)(hk:x.lrn=K)(b1:0<B.length)(b2:B.length≤24)(ha:1≤x.ses)(ha2:bJ x.ses=true)
 (b5:∀a b:Int,1≤a→bJ a=true→bJ b=true→∀i<B.length,j8 { nd B K i with ses:=a,num:=b }=true∧wg { nd B K i with ses:=a,num:=b }) :
 UR B (fun i=>if i<B.length then(({ x with num:=(i:Nat) }:Srv).batch i).rep else []) (fun i=>({ x with num:=((min i (B.length-1):Nat):Int) }:Srv).batch (min i (B.length-1))) (wQ B K) x.ses:=by
 subst hb hk
 refine⟨fun i hi=>?_,by simp[b1]⟩
 have hn:bJ (i:Int)=true:=by unfold bJ;simp;omega
 have hn1:bJ ((i:Int)+1)=true:=by unfold bJ;simp;omega
 obtain⟨c1,c2⟩:=b5 x.ses i ha ha2 hn i hi
 have hlen:=FO x.ses i (nd x.bat x.lrn i)
 simp only[V6 hi]
 rw[show(({ x with num:=(i:Nat) }:Srv).batch i).rep=pv x.ses i (nd x.bat x.lrn i)from rfl]
 by_cases hp:(ev { nd x.bat x.lrn i with ses:=x.ses,num:=i }).2=0
 ·have hr:=oZ c2 (by unfold nd;split<;>exact Xi _) hp
  have hsa:pv x.ses i (nd x.bat x.lrn i)=(ev { nd x.bat x.lrn i with ses:=x.ses,num:=i }).1:=by unfold pv;rw[V6 hp]
  refine .inr ⟨ab,⟨_,by rw[hsa];exact hr.1,?_⟩,(ev (sv x.ses i)).1,?_,?_⟩
  ·have hg:(x.bat[i]?).getD []=x.bat[i]:=by rw[V4 hi];rfl
   unfold nd
   split
   ·rename_i c;exact⟨rfl,rfl,rfl,by simp[nK,c],hg⟩
   ·rename_i c;exact⟨rfl,rfl,rfl,by simp[nK,c],hg⟩
  ·have:=(Ah (sv x.ses i) (R6 _ _) (Xi _)).frz
   rw[OT ha ha2 ab]at this
   exact this.arg1 aI
  ·have hr:=oZ (R6 x.ses i) (Xi _) (OT ha ha2 ab)
   have hpl:=iL (sv x.ses i)
   have hmin:min i (x.bat.length-1)=i:=ab
   rw[hmin]
   by_cases hi2:i+1<x.bat.length
   ·have hmin2:min (i+1) (x.bat.length-1)=i+1:=ab
    rw[V6 hi2,hmin2]
    have hlen:=FO x.ses ((i:Int)+1) (nd x.bat x.lrn (i+1))
    exact Dq (({ x with num:=(i:Nat) }:Srv).batch i) (wQ x.bat x.lrn) _ ab (sv x.ses i) hr.1 ⟨au,au⟩ rfl ⟨by show(0:Int)≤(i:Nat);omega,by show((i:Nat):Int)≤_;omega⟩ rfl _ _ _ (Ro (({ x with num:=(i:Nat) }:Srv).batch i) (sv x.ses i) rfl ⟨by show(0:Int)≤(i:Nat);omega,by show((i:Nat):Int)≤_;omega⟩ (i+1) rfl (by show x.bat.length≤_;omega) hi2 (b5 x.ses _ ha ha2 hn1 _ hi2).2 (by show(pv x.ses ((i:Int)+1) (nd x.bat x.lrn (i+1))).length≤_;omega))
   ·have hmin2:min (i+1) (x.bat.length-1)=i:=ab
    rw[V3 hi2,hmin2]
    exact Dq (({ x with num:=(i:Nat) }:Srv).batch i) (wQ x.bat x.lrn) _ ab (sv x.ses i) hr.1 ⟨au,au⟩ rfl ⟨by show(0:Int)≤(i:Nat);omega,by show((i:Nat):Int)≤_;omega⟩ rfl _ _ _ (OL (({ x with num:=(i:Nat) }:Srv).batch i) _ (sv x.ses i) rfl (.inr rfl) (by show((x.bat.length:Nat):Int)≤((i:Nat):Int)+1;omega))
 ·obtain⟨q1,q2,q3⟩:=Tv hp
  have hsa:pv x.ses i (nd x.bat x.lrn i)=z6 x.ses i 12:=by unfold pv;rw[V3 hp,q1 c1]
  rw[hsa]
  have:=iL { kind:=6,ses:=x.ses,num:=i,err:=12 }
  exact .inl ⟨by unfold z6;omega,(RY ha ha2 hn bz bz).1⟩
theorem Rq (s:Sta)(m:Msg)(hsum:m.sum<18446744073709551616):Fn prog 3 [ji s,p7 m] (dq true):=by
 have a1:=OH s
 have a3:=Rk (mW m)
 have hE:wi (mW m)=false→Fn prog 9 [p7 (mW m)] (dq (j8 (mW m))):=fun q=>by
  obtain⟨hB,_⟩:=Hi q
  exact je _ (by have:=hB.flt;omega) hB.ksz hB.thr (by have:=hB.its;omega)
 by_cases hall:(!Dk s&&(oQ s&&(!wi (mW m)&&j8 (mW m))))=true
 ·simp only[Wi,Xp]at hall
  obtain⟨l1,l2,l3,l4⟩:=hall
  have hL:=Dm l1
  have hB:=hL.st
  have a2:=sn s hB
  have a4:=hE l3
  have a5:=OM s (by have:=qX s hB;rw[l2]at this;exact this) ((Ds hB (by have:=hL.fl;omega) (by have:=hL.il;omega) l2).argsW (.same (.per ee (.per ee .nil))))
  obtain⟨hM,_⟩:=Hi l3
  have a6:=(Ah _ hM hsum).frz
  rw[l1]at a1
  rw[l2]at a2
  rw[l3]at a3
  rw[l4]at a4
  by_cases hf:(ev (mW m)).2=0
  ·rw[hf]at a6
   have hp:Ci (ev (mW m)).1=(yM m,0):=(oZ hM hsum hf).1
   obtain⟨g1,g2,g3,g4,g5⟩:=J6 l4
   have hbl:=iL (mW m)
   unfold wi ij at l3
   simp only[Xs,Wt]at l3
   obtain⟨⟨l31,_⟩,l32,l33,_⟩:=l3
   have l31:¬(m.flt.length:Int)>12:=l31
   have l32:fZ m.know 24=false:=l32
   have l33:¬(m.there.length:Int)>600:=l33
   obtain⟨th,hs,bs,pr,sd,t1,t2,t3,t4⟩:=FQ m.there ab m.seed g4 g5
   have hA:Kc s m.flt m.know m.lim [] th hs:=⟨hB,by have:=hL.il;omega,ab,au,(C6 l32).mid bz bz,ab,ab,t3⟩
   generalize hMk:fR s m.flt m.know m.lim [] hs=M
   by_cases hE0:M.2.2=0
   ·obtain⟨b1,b2,b3,b4,b5⟩:=UK hMk hE0 l2 hL ab ab
    have c0:=(b5 m.ses 0 g1 g2 bz 0 b1).2
    have hlen:=FO m.ses 0 (nd M.1 M.2.1 0)
    refine rj s m a1 a2 a3 a4 a5 _ a6 M.1 b2 b3 _ _ _ (({ s:=s,ses:=m.ses,hello:=yM m,bat:=M.1,lrn:=M.2.1 }:Srv).batch 0) rfl ?_ ?_ (OU { s:=s,ses:=m.ses,hello:=yM m,bat:=M.1,lrn:=M.2.1 } M.1 M.2.1 rfl rfl b1 b2 g1 g2 b5)
    ·rw[V6 b1,show min 0 (M.1.length-1)=0 by omega]
     exact wl { s:=s } jf _ ab (yM m) hp rfl rfl (by show(0:Int)<m.ses;omega) _ _ _ (wk { s:=s } jf (yM m) rfl _ _ _ (Al _ _ _ _ _ (yF { s:=s,ses:=m.ses,hello:=yM m } _ th hs hA t1 M hMk hE0 rfl b1 ab c0 (by show(pv m.ses 0 (nd M.1 M.2.1 0)).length≤_;omega))))
    ·exact yG { s:=s } _ _ ab (yM m) hp rfl rfl (by show(0:Int)<m.ses;omega) _ (OO { s:=s,ses:=m.ses,hello:=yM m } _ rfl th hs hA bs pr sd t4 t2 M hMk hE0 rfl b1 ab c0)
   ·obtain⟨e1,e2⟩:=Rp s m.flt m.know m.lim [] hs (by rw[hMk];exact hE0)
    rw[hMk]at e1 e2
    have hl2:=iL { kind:=6,ses:=m.ses,num:=0,err:=M.2.2 }
    have hr:=(RY g1 g2 (show bJ 0=true by decide) e1 e2).2
    refine rj s m a1 a2 a3 a4 a5 _ a6 [] au au (fun _=>z6 m.ses 0 M.2.2) (fun _=>{ s:=s,ses:=m.ses,hello:=yM m,rep:=z6 m.ses 0 M.2.2 }) jf { s:=s,ses:=m.ses,hello:=yM m,rep:=pv m.ses 0 { kind:=6,err:=M.2.2 } } rfl ?_ ?_ ⟨fun i hi=>absurd hi au,by rw[Wj ab,Wj au]⟩
    ·exact wl { s:=s } jf _ ab (yM m) hp rfl rfl (by show(0:Int)<m.ses;omega) _ _ _ (wk { s:=s } jf (yM m) rfl _ _ _ (Al _ _ _ _ _ (J0 { s:=s,ses:=m.ses,hello:=yM m } th hs hA t1 M hMk hE0 (W7 (iL _) bz))))
    ·exact yG { s:=s } _ _ ab (yM m) hp rfl rfl (by show(0:Int)<m.ses;omega) _ (J1 { s:=s,ses:=m.ses,hello:=yM m } rfl th hs hA bs pr sd t4 t2 M hMk hE0)
  ·exact Dv s m a1 a2 a3 a4 a5 _ _ a6 hf
 ·exact FS s m _ _ _ _ (by simpa using hall) a1 (fun q=>sn s (Dm q).st) a3 hE
end Go.Proofs.YtaclhhkblbacgaaGreat
