/- Texts joined: Rkq StM RgV AbsV SoV. -/
import Derived.Test.YtaclhhkblbacgaaGreatJ29
set_option maxRecDepth 10000
set_option maxHeartbeats 8000000
namespace Go.Proofs.YtaclhhkblbacgaaGreat
open Go.RowKit Go.Proofs.Tryz
theorem ym (k:List Pc)(hl:k.length≤1000000000):Fn prog 139 [dC k] (.own 29 3 ((cK k).map rgP)):=by
 refine fi func139 ntmps139 ?_
 (refine w0 ?_)
 refine bQ (bU 3 700 29 3 rfl rfl) ?_
 refine aj (X:=Nat) (fun z=>z≤k.length)
  (fun z=>ay [(0,dC k),(3,.row 700 0),(4,iC .i64 ((z:Nat):Int))] [(700,.row 29 3 ((cK (k.take z)).map rgP))]) (fun z=>k.length-z) 0 (Wa _) ?_
 intro z hz
 by_cases hlt:z<k.length
 ·have hsn:cK (k.take (z+1))=cK (k.take z)++[k[z].rg]:=by unfold cK;rw[List.take_succ_eq_append_getElem hlt,List.map_append];rfl
  have hlk:(cK (k.take z)).length≤z:=by unfold cK;rw[V7,WA];omega
  generalize cK (k.take z)=A at *
  (refine w0 ?_;repeat' first|apply ah|refine ai fun hc=>?_|((first|apply aB rfl|apply aC rfl|apply aD rfl|apply aF rfl);(focus ((try (apply bI;(focus rfl);apply ag rfl rfl rfl rfl rfl));first|((apply aZ 5;(focus rfl);first|exact bO ⟨rfl,rfl,rfl⟩ rfl inferInstance inferInstance rfl rfl rfl rfl|exact bP ⟨rfl,rfl,rfl⟩ rfl inferInstance inferInstance rfl rfl rfl rfl))));refine w0 ?_))
  refine⟨z+1,hlt,ab,av (aN 700 701) (av (aN 701 700) ?_)⟩
  rw[hsn]
  exact ae
 ·rw[Wd (show k.length≤z by omega)]
  generalize cK k=A at *
  (refine w0 ?_;repeat' first|apply ah|refine ai fun hc=>?_)
  exact nx
theorem NI (s:List Kn)(hs:vo s):Fn prog 76 [fd s] (qG (gH ofR s)):=by
 have h:=Nx 1 Ug s [] hs.tot ⟨au,au⟩ (fun r _=>E9 (bh s r) (bh [] r) (by have:=iG s r;have:=hs.2;omega) (by simp[bh]))
 rw[Ja,Wg]at h
 generalize gH ofR s=R at *
 refine fi func76 ntmps76 ?_
 (refine aq h ?_)
 exact nx
theorem SW (k:List Pc)(s:ByteArray)(hk:ew k)(hs:s.size≤1000000000):Fn prog 213 [dC k,sC s] (qG (lC k s)):=by
 have hk1:=hk.1
 have hO:=NI (k.flatMap (j1 s)) (hk.has s)
 rw[show gH ofR (k.flatMap (j1 s))=lC k s from rfl]at hO
 generalize lC k s=R at *
 refine fi func213 ntmps213 ?_
 (refine w0 ?_)
 refine bQ (bU 5 700 142 2 rfl rfl) ?_
 refine aj (X:=Nat) (fun z=>z≤k.length)
  (fun z=>ay [(0,dC k),(1,sC s),(5,.row 700 0),(6,iC .i64 ((z:Nat):Int))] [(700,.row 142 2 (((k.take z).flatMap (j1 s)).map zh))]) (fun z=>k.length-z) 0 (Wa _) ?_
 intro z hz
 by_cases hlt:z<k.length
 ·have hsn:=rZ (j1 s) k z hlt
  have h1:=(rY (j1 s) k z).2
  have h2:=(hk.has s).1
  have h3:=gj Pc.set (Wk hlt)
  have h4:=hk.2.1
  have c1:=rX k[z].rg s hs
  generalize (k.take z).flatMap (j1 s)=A at *
  unfold j1 at hsn
  clear hk
  cases c:cO k[z].rg s with
  | true=>
   rw[c]at c1 hsn
   rw[V6 rfl]at hsn
   (refine aq c1 ?_;repeat' first|apply ah|refine ai fun hc=>?_|((first|apply aB rfl|apply aC rfl|apply aD rfl|apply aF rfl);(focus ((try (apply bI;(focus rfl);apply ag rfl rfl rfl rfl rfl));first|((apply aZ 5;(focus rfl);first|exact bO ⟨rfl,rfl,rfl⟩ rfl inferInstance inferInstance rfl rfl rfl rfl|exact bP ⟨rfl,rfl,rfl⟩ rfl inferInstance inferInstance rfl rfl rfl rfl))));refine aq c1 ?_))
   refine⟨z+1,hlt,ab,av (aN 700 701) (av (aN 701 700) ?_)⟩
   rw[show(k.take (z+1)).flatMap (j1 s)=_ from hsn]
   exact ae
  | false=>
   rw[c]at c1 hsn
   rw[V3 au,Wg]at hsn
   (refine aq c1 ?_;repeat' first|apply ah|refine ai fun hc=>?_|((first|apply aB rfl|apply aC rfl|apply aD rfl|apply aF rfl);(focus ((try (apply bI;(focus rfl);apply ag rfl rfl rfl rfl rfl));first|((apply aZ 5;(focus rfl);first|exact bO ⟨rfl,rfl,rfl⟩ rfl inferInstance inferInstance rfl rfl rfl rfl|exact bP ⟨rfl,rfl,rfl⟩ rfl inferInstance inferInstance rfl rfl rfl rfl))));refine aq c1 ?_))
   refine⟨z+1,hlt,ab,?_⟩
   rw[show(k.take (z+1)).flatMap (j1 s)=_ from hsn]
   exact ae
 ·rw[Wd (show k.length≤z by omega)]
  clear hk
  generalize k.flatMap (j1 s)=A at *
  (refine aq hO ?_;repeat' first|apply ah|refine ai fun hc=>?_)
  exact nx
section
variable {P:Program} {n t:Nat} {ops:Array Oper} {o:Oper} {S:St}
theorem Jc {ty e len:Nat}{d:TypeDesc}{x ix:Operand}{As:List PV}{A:PV}{i:Nat}{kk:IntKind}{z:Int}(hp:Pl n o t)(ho:o.op=.index ty x ix)(hT:P.underlying ty=some (.array len e))(he:P.underlying e=some d)(hd:ip d=false)(hk:P.cellsOf e=1)
 (hx:S.opd x=.per (cB As)) (hi:S.opd ix=iC kk z) (hz:z=(i:Int)) (hlt:i<len) (hA:As[i]?=some A):aw n P ops o (az x++az ix) (.per A) [] S:=
 aV hp fun C T g a w hR' hR=>by
  have h1:=aG (x:=x) hR' (fun k h=>by simp[h]) hR
  rw[hx]at h1
  have h2:=aP (x:=ix) hR' (fun k h=>by simp[h]) hR hi
  obtain⟨vs,e1,e2,e3⟩:=h1
  obtain⟨y,q1,q2,q3⟩:=e3 i A hA
  subst hz
  refine⟨y,?_,q3⟩
  have hsz:(sizeOf e).run P w=.ok 1 w:=gD hk bz w
  simp only[execOp,ho,e1,h2,Instr.index,asIntOf,Sem.run_bind,Sem.run_pure,Result.andThen_ok,run_underlying hT]
  rw[V6 (by constructor<;>omega)]
  simp only[Sem.run_bind,hsz,Result.andThen_ok,part,nZ he,hd,WH,XC,Xr,Int.toNat_natCast,q1,Sem.run_pure]
end
theorem NJ (n x:Int):(if x>n then x else n)=max n x:=by
 by_cases h:x>n
 ·rw[V6 h];omega
 ·rw[V3 h];omega
theorem NK (l:List Rn)(hl:l.length≤1000000000):Fn prog 229 [.per (mN l)] (el (vE l)):=by
 have h1:=(MF l hl).frz
 have hb:(ofR l).length≤1000000000:=by have:=zu l;omega
 unfold vE
 rcases Gv (ofR l)with e|⟨l',y,e⟩
 ·rw[e]at h1 ⊢
  refine fi func229 ntmps229 ?_
  (refine aq h1 ?_;repeat' first|apply ah|refine ai fun hc=>?_)
  exact wo
 ·rw[e,sI]
  rw[e]at h1 hb
  have hlen:(((l'++[y]).length:Nat):Int)-1=(l'.length:Nat):=au
  have hlt:l'.length<(l'++[y]).length:=au
  have hget:(l'++[y])[l'.length]'hlt=y:=au
  generalize l'++[y]=L at *
  refine fi func229 ntmps229 ?_
  (refine cF hlen h1 ?_;repeat' first|apply ah|refine ai fun hc=>?_)
  refine dw ?_
  exact al rfl (by rw[hget])
theorem Jd (s:List Kn)(id:Int)(hs:dx s):Fn prog 158 [fd s,iC .i64 id] (el (qR s id)):=by
 have a1:=pJ id
 unfold qR
 by_cases c:1≤id∧id≤16
 ·rw[V6 c]
  rw[Wb c]at a1
  obtain⟨q,rfl⟩:∃q:Nat,id=(q:Int)+1:=⟨(id-1).toNat,ab⟩
  have hq2:((q:Int)+1-1).toNat=q:=ab
  rw[hq2]
  have a2:=Gf s hs
  have a3:=NK (bh s q) (by have:=iG s q;have:=hs.2;omega)
  have hA:((cS s).map mN)[q]?=some (mN (bh s q)):=by rw[List.getElem?_map,cG _ ab];rfl
  have hlt:q<16:=ab
  have hk1:prog.cellsOf 140=1:=by kernel_rfl
  clear hs
  generalize cS s=T at *
  generalize bh s q=Z at *
  refine fi func158 ntmps158 ?_
  (refine ot (show(q:Int)+1-1=(q:Nat)by omega) a1 a2 a3 ?_;repeat' first|apply ah|refine ai fun hc=>?_|((first|apply aB rfl|apply aC rfl|apply aD rfl|apply aF rfl);(focus ((try (apply bI;(focus rfl);apply ag rfl rfl rfl rfl rfl));first|((exact Jc ⟨rfl,rfl,rfl⟩ rfl underlying294 underlying140 rfl hk1 rfl rfl rfl hlt hA))));refine ot (show(q:Int)+1-1=(q:Nat)by omega) a1 a2 a3 ?_))
  exact wo
 ·rw[V3 c]
  rw[Wj c]at a1
  clear hs
  refine fi func158 ntmps158 ?_
  (refine aq a1 ?_;repeat' first|apply ah|refine ai fun hc=>?_)
  exact wo
theorem GZ (k:List Pc)(id:Int)(hk:fe k):Fn prog 85 [dC k,iC .i64 id] (el (lm k id)):=by
 have hl0:=hk.1
 generalize hR:lm k id=R
 unfold lm at hR
 refine fi func85 ntmps85 ?_
 (refine w0 ?_)
 refine aj (X:=Nat×Int) (fun x=>x.1≤k.length∧(k.drop x.1).foldl (fun n p=>max n (qR p.set id)) x.2=R) (fun x=>ay [(1,iC .i64 id),(5,iC .i64 x.2),(8,dC k),(9,iC .i64 (k.length:Nat)),(10,iC .i64 (x.1:Nat))] []) (fun x=>k.length-x.1) (0,0) ⟨Wa _,by simpa using hR⟩ ?_
 rintro⟨i,n⟩ ⟨h1,h2⟩
 simp only at h1 h2 ⊢
 by_cases hi:i<k.length
 ·rw[List.drop_eq_getElem_cons hi,List.foldl_cons]at h2
  have a1:=Jd k[i].set id (hk.at hi)
  have hm:=NJ n (qR k[i].set id)
  generalize qR k[i].set id=x at *
  generalize max n x=n' at *
  clear hk hR
  (refine aq a1 ?_;repeat' first|apply ah|refine ai fun hc=>?_|((first|apply aB rfl|apply aC rfl|apply aD rfl|apply aF rfl);(focus ((try (apply bI;(focus rfl);apply ag rfl rfl rfl rfl rfl));first|((exact tF ⟨rfl,rfl,rfl⟩ rfl rfl rfl hm))));refine aq a1 ?_))
  refine⟨(i+1,n'),⟨aA,h2⟩,aA,?_⟩
  exact ae
 ·rw[Wv ab]at h2
  have h2:n=R:=h2
  subst h2
  clear hk hR
  (refine w0 ?_;repeat' first|apply ah|refine ai fun hc=>?_)
  exact wo
end Go.Proofs.YtaclhhkblbacgaaGreat
namespace Go.Proofs.YtaclhhkblbacgaaGreat
open Go.RowKit Go.Shelf Go.Proofs.Tryz
abbrev BRg:={r:Rg // r.lo.size≤1000000000000}
instance:Inhabited BRg:=⟨⟨⟨⟨#[]⟩,⟨#[]⟩,false⟩,bz⟩⟩
def pY (x y:BRg):Int:=cP x.1.lo y.1.lo
theorem vN:Sort.SWO (ltOf pY) where
 irrefl x:=by unfold ltOf pY;rw[ve];rfl
 trans x y z h1 h2:=by
  unfold ltOf pY at *
  rw[Wn,i7]at *
  grind
 ntrans x y z h1 h2:=by
  unfold ltOf pY at *
  rw[Wt,i7]at *
  grind
def vO (l:List Rg):List Rg:=if h:∀r∈l,r.lo.size≤1000000000000 then(kN pY (l.pmap Subtype.mk h)).map Subtype.val else l
theorem Fg {l:List Rg}(h:∀r∈l,r.lo.size≤1000000000000):(vO l).Perm l∧(vO l).Pairwise (fun x y=>x.lo≤y.lo):=by
 unfold vO
 rw[dif_pos h]
 obtain⟨h1,h2⟩:=jw vN (l.pmap Subtype.mk h)
 refine⟨?_,?_⟩
 ·have:=h1.map Subtype.val
  rwa [List.map_pmap,List.pmap_eq_map,List.map_id']at this
 ·rw[List.pairwise_map]
  refine h2.imp fun {x y} q=>?_
  unfold ltOf pY at q
  rw[Wt,i7]at q
  grind
theorem CQ {l:List Rg}(h:cb l):l.Pairwise (fun x y=>x.lo<y.lo):=by
 have key:∀j (hj:j<l.length) i (hij:i<j),l[i].lo<l[j].lo:=by
  intro j
  induction j with
  | zero=>intro _ i hij;omega
  | succ j ih=>
   intro hj i hij
   obtain⟨a1,a2⟩:=h (j+1) hj
   obtain⟨b1,_⟩:=h j ab
   have c:=a2 ab
   simp only[WD]at c
   have d:=jy b1
   rw[c.1]at d
   have d:l[j].lo<l[j].hi:=by simpa using d
   have e:=c.2
   rw[i7]at e
   rcases Wm i j with q|q
   ·have:=ih ab i q
    grind
   ·obtain rfl:i=j:=ab
    grind
 rw[List.pairwise_iff_getElem]
 exact fun i j hi hj hij=>key j hj i hij
theorem NL {l:List Rg}(h:cb l)(hs:∀r∈l,r.lo.size≤1000000000000):vO l=l:=by
 obtain⟨h1,h2⟩:=Fg hs
 have h3:=CQ h
 have h4:l.Pairwise (fun x y=>x.lo≤y.lo):=h3.imp fun {x y} q=>by grind
 refine List.Perm.eq_of_pairwise ?_ h2 h4 h1
 intro a b ha hb hab hba
 have ha':=h1.mem_iff.1 ha
 have e:a.lo=b.lo:=by grind
 obtain⟨i,hi,rfl⟩:=List.getElem_of_mem ha'
 obtain⟨j,hj,rfl⟩:=List.getElem_of_mem hb
 rw[List.pairwise_iff_getElem]at h3
 rcases XA i j with q|q|q
 ·have:=h3 i j hi hj q;grind
 ·subst q;rfl
 ·have:=h3 j i hj hi q;grind
theorem SX {l:List Rg}(h:cb l):jn l=l:=by
 have key:∀k,k≤l.length→jn (l.take k)=l.take k:=by
  intro k
  induction k with
  | zero=>intro _;rfl
  | succ k ih=>
   intro hk
   have hk':k<l.length:=ab
   rw[CK hk',ih ab,bc l k hk']
   obtain⟨_,a2⟩:=h k hk'
   rcases W6 k with rfl|hp
   ·simp[Dz]
   ·obtain⟨m,rfl⟩:∃m,k=m+1:=⟨k-1,ab⟩
    have c:=a2 ab
    simp only[WD]at c
    rw[bc l m ab]
    unfold Dz
    simp only[List.reverse_append,List.reverse_cons,List.reverse_nil,Wu,Xx,Xa]
    rw[V6 c]
 have:=key l.length (V8 _)
 rwa [WX]at this
def so_rng_ren:Go.Shelf.Ren:=⟨fun|6=>224|14=>255|15=>256|20=>279|21=>280|22=>281|23=>282|24=>283|25=>284|26=>285|27=>286|28=>287|29=>288|46=>321|47=>322|48=>323|49=>324|50=>325|57=>340|n=>n,fun|0=>0|3=>3|4=>4|5=>5|9=>9|22=>22|24=>29|25=>289|39=>311|45=>346|46=>347|50=>351|53=>158|55=>30|66=>375|70=>378|76=>393|77=>394|n=>n,fun n=>n⟩
theorem SY:SlLaysF0.n6 prog so_rng_ren:={ mixed:=by kernel_rfl,f6:=⟨Tryz.f224.name,bz,func224.trans (Wx some (by kernel_rfl))⟩,f14:=⟨Tryz.f255.name,bz,func255.trans (Wx some (by kernel_rfl))⟩,f15:=func256.trans (Wx some (by kernel_rfl)),f20:=⟨Tryz.f279.name,bz,func279.trans (Wx some (by kernel_rfl))⟩,f21:=⟨Tryz.f280.name,bz,func280.trans (Wx some (by kernel_rfl))⟩,f22:=⟨Tryz.f281.name,bz,func281.trans (Wx some (by kernel_rfl))⟩,f23:=⟨Tryz.f282.name,bz,func282.trans (Wx some (by kernel_rfl))⟩,f24:=⟨Tryz.f283.name,bz,func283.trans (Wx some (by kernel_rfl))⟩,f25:=⟨Tryz.f284.name,bz,func284.trans (Wx some (by kernel_rfl))⟩,f26:=⟨Tryz.f285.name,bz,func285.trans (Wx some (by kernel_rfl))⟩,f27:=⟨Tryz.f286.name,bz,func286.trans (Wx some (by kernel_rfl))⟩,f28:=func287.trans (Wx some (by kernel_rfl)),f29:=func288.trans (Wx some (by kernel_rfl)),f46:=⟨Tryz.f321.name,bz,func321.trans (Wx some (by kernel_rfl))⟩,f47:=func322.trans (Wx some (by kernel_rfl)),f48:=func323.trans (Wx some (by kernel_rfl)),f49:=⟨Tryz.f324.name,bz,func324.trans (Wx some (by kernel_rfl))⟩,f50:=⟨Tryz.f325.name,bz,func325.trans (Wx some (by kernel_rfl))⟩,f57:=⟨Tryz.f340.name,bz,func340.trans (Wx some (by kernel_rfl))⟩,t0:=underlying0,a0:=Tryz.isAgg0,z0:=Tryz.sizeOf0,v0:=Tryz.zeroValue0,t3:=underlying3,a3:=Tryz.isAgg3,z3:=Tryz.sizeOf3,v3:=Tryz.zeroValue3,t4:=underlying4,a4:=Tryz.isAgg4,z4:=Tryz.sizeOf4,v4:=Tryz.zeroValue4,t5:=underlying5,a5:=Tryz.isAgg5,z5:=Tryz.sizeOf5,v5:=Tryz.zeroValue5,t9:=underlying9,a9:=Tryz.isAgg9,z9:=Tryz.sizeOf9,v9:=Tryz.zeroValue9,t22:=underlying22,a22:=Tryz.isAgg22,z22:=Tryz.sizeOf22,v22:=Tryz.zeroValue22,t25:=underlying289,a25:=Tryz.isAgg289,z25:=Tryz.sizeOf289,v25:=Tryz.zeroValue289,t39:=underlying311,a39:=Tryz.isAgg311,z39:=Tryz.sizeOf311,v39:=Tryz.zeroValue311,t45:=underlying346,a45:=Tryz.isAgg346,z45:=Tryz.sizeOf346,v45:=Tryz.zeroValue346,t46:=underlying347,a46:=Tryz.isAgg347,z46:=Tryz.sizeOf347,v46:=Tryz.zeroValue347,t50:=underlying351,a50:=Tryz.isAgg351,z50:=Tryz.sizeOf351,v50:=Tryz.zeroValue351,t53:=underlying158,a53:=Tryz.isAgg158,z53:=Tryz.sizeOf158,v53:=Tryz.zeroValue158,t55:=underlying30,a55:=Tryz.isAgg30,z55:=Tryz.sizeOf30,v55:=Tryz.zeroValue30,t66:=underlying375,a66:=Tryz.isAgg375,z66:=Tryz.sizeOf375,v66:=Tryz.zeroValue375,t70:=underlying378,a70:=Tryz.isAgg378,z70:=Tryz.sizeOf378,v70:=Tryz.zeroValue378,t76:=underlying393,a76:=Tryz.isAgg393,z76:=Tryz.sizeOf393,v76:=Tryz.zeroValue393,t77:=underlying394,a77:=Tryz.isAgg394,z77:=Tryz.sizeOf394,v77:=Tryz.zeroValue394 }
theorem NM (x y:Rg)(hx:x.lo.size≤1000000000000)(w:World) :
 Calls prog 225 #[.agg #[.string x.lo,.string x.hi,.bool x.op],.agg #[.string y.lo,.string y.hi,.bool y.op]] w fun e w'=>e=.returned (.int .i64 (cP x.lo y.lo))∧Gw w w':=by
 go_enter func225,ntmps225
 go_wp2_with fail
 refine(Cm x.lo y.lo hx _).mono ?_
 rintro e w' ⟨rfl,hg⟩
 go_wp2
 go_ret
 exact⟨rfl,Gw.trans (((Gw.refl w).alloc _).alloc _) hg⟩
theorem NN (l:List Rg)(h:∀r∈l,r.lo.size≤1000000000000)(hl:l.length≤1000000000) :
 dh prog 224 [.row 1000 0,sJ] [(1000,kh l)] .any [(1000,kh (vO l))]:=by
 have:=rQ (e:=29) (k:=3) (G:=225) SY Tryz.isAgg29 Tryz.sizeOf29 (enc:=fun x:BRg=>[.string x.1.lo,.string x.1.hi,.bool x.1.op]) ⟨bz,fun _=>rfl,fun x v hv=>by simp at hv;rcases hv with rfl|rfl|rfl<;>rfl⟩ vN (enters_of func225 (by kernel_rfl) rfl)
  (fun x y w=>NM x.1 y.1 x.2 w) (vm func224 (by kernel_rfl) (by kernel_rfl)) (l.pmap Subtype.mk h) (by rw[List.length_pmap];omega)
 have e1:(l.pmap Subtype.mk h).map (fv fun x:BRg=>[Value.string x.1.lo,Value.string x.1.hi,Value.bool x.1.op])=l.map rgP:=by rw[List.map_pmap];exact List.pmap_eq_map (f:=rgP) h
 have e2:(kN pY (l.pmap Subtype.mk h)).map (fv fun x:BRg=>[Value.string x.1.lo,Value.string x.1.hi,Value.bool x.1.op])=(vO l).map rgP:=by unfold vO;rw[dif_pos h,List.map_map];rfl
 rw[e1,e2]at this
 exact this
theorem zV (l:List Rg)(h:cb l)(hl:l.length≤1000000000):Fn prog 153 [ec l] (CJ l):=by
 have hr:∀r∈l,fX r=true:=fun r hr=>by
  obtain⟨i,hi,rfl⟩:=List.getElem_of_mem hr
  exact(h i hi).1
 have hf:l.filter fX=l:=List.filter_eq_self.2 hr
 have hs:∀r∈l,r.lo.size≤1000000000000:=fun r q=>by have:=((b0 r).1 (hr r q)).1;omega
 have h1:=NN l hs hl
 rw[NL h hs]at h1
 have:=GR l l (by rw[hf];exact h1) (by rw[hf]) hr ((CQ h).imp fun {x y} q=>by grind) hl
 rwa [SX h]at this
def Fh:PV:=⟨fun _ _ _=>True,fun _ _ _ h=>h⟩
theorem vP {α:Type}(l m:List α)(a:Nat)(h:a+m.length≤l.length)(q:Nat):(l.take a++m++l.drop (a+m.length))[q]?=if a≤q∧q<a+m.length then m[q-a]? else l[q]?:=by
 have ht:(l.take a).length=a:=bn
 rcases Wm q a with hlt|hge
 ·rw[V3 ab,V9,Wl ab,WI,V6 hlt]
 ·rw[V9,List.getElem?_append_right ab,ht]
  rcases Wm q (a+m.length)with hlt|hge2
  ·rw[V6 ⟨hge,hlt⟩,Wl ab]
  ·rw[V3 ab,List.getElem?_append_right ab,WO]
   congr 1;omega
section
variable {P:Program} {n:Nat} {ops:Array Oper} {o:Oper} {F:List Nat} {S T:St} {C:Ctx} {g:Gh} {a:Act} {w w':World} {t:Nat}
theorem RN {ty e':TypeId}{x:Operand}{lo hi:Option Operand}{id vr e k l h:Nat}{es:List (List PV)}(hp:Pl n o t)(ho:o.op=.slice ty x lo hi none)(hT:gx P ty (.slice e'))(hk:gN P e' k)(h0:Nat.blt 0 k=true)
 (hx:S.opd x=.row id vr) (hv:S.ver id=vr) (hb:S.blk id=.row e k es) (hbn:J8 S lo hi es.length l h) (hlt:l<es.length):aw n P ops o ((2*id+1)::(az x++m7 lo hi)) (.vw id vr k l (h-l)) [] S:=
 aV hp fun C T g a w hA hR=>by
  obtain⟨h1,h2⟩:=nn (x:=x) hA (fun k h=>by simp[h]) au hR hx hv hb
  have hvt:=(hA.2 id au).2
  rcases h2 with⟨_,rfl⟩|⟨cap,cs,q1,q2,q3,q4,q5,q6,q7⟩
  ·simp at hlt
  ·have b3:=hbn.2.2.1
   have b4:=hbn.2.2.2
   refine⟨.slice (some ⟨g.ph id,l*k,none⟩) (h-l) (cap-l),?_,⟨ab,fun _=>⟨cap-l,rfl,ab⟩⟩⟩
   have hr:=lF (P:=P) (ad:=some ⟨g.ph id,0,none⟩) (c:=cap) (w:=w) hT.h hk.h (Wc h0) hA (fun k h=>by simp[h]) hR hbn ab
   rw[V3 ab]at hr
   simp only[execOp,ho,h1,q1,Sem.run_bind,W8,hr,W5,Addr.add_lit,WF];rfl
theorem zW {ty e':TypeId}{x:Operand}{id vr k lo len:Nat}(hp:Pl n o t)(ho:kE o ty x)(hT:gx P ty (.slice e'))(hx:S.opd x=.vw id vr k lo len)(hv:S.ver id=vr) :
 aw n P ops o ((2*id+1)::az x) (iC .i64 (len:Int)) [] S:=
 aV hp fun C T g a w hA hR=>by
  have h:=aG (x:=x) hA (fun k h=>by simp[h]) hR
  rw[hx]at h
  obtain⟨c,hc,_⟩:=h.2 (by rw[(hA.2 id au).2,hv])
  exact⟨_,oc ho hc (uc hT.h w),rfl⟩
theorem tN {ty e':TypeId}{x ix:Operand}{id vr k lo len i:Nat}{kk:IntKind}{z:Int}(hp:Pl n o t)(ho:o.op=.indexAddr ty x ix)(hT:gx P ty (.slice e'))(hk:gN P e' k)(h0:Nat.blt 0 k=true)
 (hx:S.opd x=.vw id vr k lo len) (hv:S.ver id=vr) (hi:S.opd ix=iC kk z) (hz:z=(i:Int)) (hlt:i<len):aw n P ops o ((2*id+1)::(az x++az ix)) (.ept id vr k (lo+i) 0) [] S:=
 aV hp fun C T g a w hA hR=>by
  have h:=aG (x:=x) hA (fun k h=>by simp[h]) hR
  rw[hx]at h
  obtain⟨c,hc,_⟩:=h.2 (by rw[(hA.2 id au).2,hv])
  have hvt:=(hA.2 id au).2
  have h3:=aP (x:=ix) hA (fun k h=>by simp[h]) hR hi
  refine⟨.pointer (some ⟨g.ph id,lo*k+i*k,none⟩),?_,⟨ab,fun _=>by rw[XH,WW]⟩⟩
  subst hz
  simp only[execOp,ho,hc,h3,Sem.run_bind,jM hT.h hk.h (Wc h0) hlt];rfl
theorem NP {ty e':TypeId}{x:Operand}{id vr e k lo len:Nat}{es es':List (List PV)}{z:Value}(hp:Dw o)(ho:o.op=.call { callee:=.builtin .clear,args:=#[x],argTypes:=#[ty] })(hT:gx P ty (.slice e'))(hz:k8 P e' z)
 (hzk:z.cells.size=k) (hz1:z.cells.toList.all (·.oneCell')=true)
 (hx:S.opd x=.vw id vr k lo len) (hv:S.ver id=vr) (hb:S.blk id=.row e k es) (hl:lo+len≤es.length) (hn:0<len)
 (he:es.take lo++List.replicate len (List.replicate k Fh)++es.drop (lo+len)=es'):aw n P ops o ((2*id+1)::az x) .any [(id,vr,.row e k es')] S:=by
 subst he
 refine⟨?_⟩
 intro C T hA a w ⟨g,hR⟩
 have h:=aG (x:=x) hA (fun k h=>by simp[h]) hR
 rw[hx]at h
 obtain⟨c,hc,_⟩:=h.2 (by rw[(hA.2 id au).2,hv])
 have hvt:=(hA.2 id au).2
 have hB:=hR.blks id
 rw[(hA.2 id au).1,hb]at hB
 rcases hB with⟨_,rfl⟩|⟨cap,cs,q1,q2,q3,q4,q5,q6,q7⟩
 ·simp at hl;omega
 obtain⟨vs,hvs⟩:∃vs,vs=(Builtin.zeroCells z.cells len).toList:=⟨_,rfl⟩
 have hvl:vs.length=len*k:=by rw[hvs];simp[Builtin.zeroCells,hzk]
 have hv1:∀v∈vs,v.oneCell'=true:=by
  intro v hm
  rw[hvs]at hm
  simp only[Builtin.zeroCells,Array.toList_map,List.mem_map]at hm
  obtain⟨i,hi,rfl⟩:=hm
  rw[WJ]at hz1
  have hi':i<len*z.cells.size:=by simpa using hi
  have hpos:0<z.cells.size:=by
   rcases W6 z.cells.size with q|q
   ·rw[q]at hi';omega
   ·exact q
  have hmod:=XG i hpos
  rw[getElem!_pos z.cells _ hmod]
  exact hz1 _ au
 have hlk:lo*k+len*k≤cs.size:=by
  have:=WQ k (show lo+len≤cap by omega)
  rw[XH]at this;omega
 have hrun:=run_storeCells_at (P:=P) (g.ph id) (lo*k) e vs 0 cs w q2 ab hv1
 simp only[WW]at hrun
 have hexec:(execOp a.eval o).run P w=.ok (.value (.tuple #[])) (w.setRow (g.ph id) (cs.toList.take (lo*k)++vs++cs.toList.drop (lo*k+vs.length)).toArray):=by
  obtain⟨m,rfl⟩:∃m,len=m+1:=⟨len-1,ab⟩
  rw[hvs]at hrun
  have hcl:(Builtin.clear_ #[ty] o.type #[.slice (some ⟨g.ph id,lo*k,none⟩) (m+1) c]).run P w=.ok (.tuple #[]) (w.setRow (g.ph id) (cs.toList.take (lo*k)++vs++cs.toList.drop (lo*k+vs.length)).toArray):=by
   rw[hvs]
   simp[Builtin.clear_,run_underlying hT.h,KD hz.h,hrun]
  simp only[execOp,ho,resolve,invoke,builtin,Sem.run_bind,Sem.run_pure,Result.andThen_ok,List.map_toArray,List.map_cons,List.map_nil,hc,hcl]
 unfold iM
 rw[V6 (by simp[Region.wanted,hp.1])]
 unfold Oper.wp
 rw[hexec,Oper.upon_value]
 have hst:=n9 (cs':=(cs.toList.take (lo*k)++vs++cs.toList.drop (lo*k+vs.length)).toArray) hR rfl q2 q3
 have hver:(T.app o.dst .any [(id,vr,.row e k (es.take lo++List.replicate len (List.replicate k Fh)++es.drop (lo+len)))]).ver=T.ver:=by
  funext i'
  rw[St.app_some_ver]
  split
  ·rename_i h;subst h;rw[hvt,hv]
  ·rfl
 refine⟨g,hR.app1 (c:=.any) (fun t h=>by rw[hp.2]at h;cases h) (by rw[hver];exact hst) trivial ?_⟩
 rw[hver]
 have hlen2:(es.take lo++List.replicate len (List.replicate k Fh)++es.drop (lo+len)).length=es.length:=bn
 have hel:∀q,(es.take lo++List.replicate len (List.replicate k Fh)++es.drop (lo+len))[q]?=if lo≤q∧q<lo+len then(List.replicate len (List.replicate k Fh))[q-lo]? else es[q]?:=by
  intro q
  have:=vP es (List.replicate len (List.replicate k Fh)) lo (by simpa using hl) q
  simpa using this
 have hcell:∀q,((cs.toList.take (lo*k)++vs++cs.toList.drop (lo*k+vs.length)).toArray)[q]?=if lo*k≤q∧q<lo*k+vs.length then vs[q-lo*k]? else cs[q]?:=by
  intro q
  rw[W3,vP cs.toList vs (lo*k) bn q]
  split
  ·rfl
  ·simp
 refine .inr ⟨cap,_,by rw[hlen2];exact q1,setRow_heap _ _ _ _ _ _ q2,q3,by rw[hlen2];exact q4,q5,by rw[WR,V5,V5,WA,Xb,W9,hvl];omega,fun i' ps' hi'=>?_⟩
 rw[hel]at hi'
 split at hi'
 ·rename_i hin
  rw[List.getElem?_replicate,V6 ab]at hi'
  cases hi'
  refine⟨au,fun j A hj=>?_⟩
  rw[List.getElem?_replicate]at hj
  split at hj
  ·rename_i hjk
   cases hj
   have e1:lo*k≤i'*k:=WQ k hin.1
   have e2:(i'+1)*k≤(lo+len)*k:=WQ k hin.2
   rw[WU,XH]at e2
   rw[hcell,V6 ab]
   exact⟨vs[i'*k+j-lo*k]'(ab),V4 _,hv1 _ (Wk _),trivial⟩
  ·cases hj
 ·rename_i hout
  obtain⟨r1,r2⟩:=q7 i' ps' hi'
  refine⟨r1,fun j A hj=>?_⟩
  obtain⟨u,s1,s2,s3⟩:=r2 j A hj
  have hjk:j<k:=by have:=(Ws.1 hj).1;omega
  rw[hcell,V3 ?_]
  ·exact⟨u,s1,s2,A.mono hst.sz hst.keepN hst.n s3⟩
  ·rintro⟨h1,h2⟩
   rcases Wm i' lo with q|q
   ·have e1:=WQ k (show i'+1≤lo from q)
    rw[WU]at e1;omega
   ·have e1:=WQ k (show lo+len≤i' by omega)
    rw[XH]at e1;omega
theorem QW {ty e':TypeId}{x:Operand}{hi:Option Operand}{id vr e k h:Nat}{es es':List (List PV)}(hp:Pl n o t)(ho:o.op=.slice ty x none hi none)(hT:gx P ty (.slice e'))(hk:gN P e' k)(h0:Nat.blt 0 k=true)
 (hx:S.opd x=.row id vr) (hv:S.ver id=vr) (hb:S.blk id=.row e k es) (hbn:J8 S none hi es.length 0 h) (he:es.take h=es') (hfx:fq id=false:=by rfl) :
 aw n P ops o ((2*id+1)::(az x++m7 none hi)) (.row id (vr+1)) [(id,vr+1,.row e k es')] S:=by
 subst he
 refine⟨?_⟩
 intro C T hA a w ⟨g,hR⟩
 obtain⟨h1,h2⟩:=nn (x:=x) hA (fun k h=>by simp[h]) au hR hx hv hb
 have hvt:=(hA.2 id au).2
 have hbn4:h≤es.length:=hbn.2.2.2
 have hvr:∀i,(T.app o.dst (.row id (vr+1)) [(id,vr+1,.row e k (es.take h))]).ver i=if i=id then T.ver id+1 else T.ver i:=fun i=>by rw[St.app_some_ver,hvt,hv]
 have hmul:(es.take h).length=h:=bn
 unfold iM
 rw[V6 (hp.wanted a)]
 unfold Oper.wp
 rcases h2 with⟨q1,rfl⟩|⟨cap,cs,q1,q2,q3,q4,q5,q6,q7⟩
 ·have hh0:h=0:=by simpa using hbn4
  subst hh0
  have hr:=lF (P:=P) (ad:=none) (c:=0) (w:=w) hT.h hk.h (Wc h0) hA (fun k h=>by simp[h]) hR hbn ab
  have hexec:(execOp a.eval o).run P w=.ok (.value (.slice none 0 0)) w:=by
   simp only[execOp,ho,h1,q1,Sem.run_bind,W8]
   simp only[List.length_nil,W8]at hr
   rw[hr];rfl
  rw[hexec,Oper.upon_value]
  have hst:=od (v:=.slice none 0 0) (t:=id) hR (eX.refl w) hvr hfx
  refine⟨g.mkN id (.slice none 0 0),hR.app1 hp.dOk hst ⟨by rw[hvr,V6 rfl,hvt,hv];exact V8 _,fun _=>?_⟩ (.inl ⟨?_,au⟩)⟩
  ·show _=(if id=id then _ else _);rw[V6 rfl]
  ·show(if id=id then _ else _)=_;rw[V6 rfl]
 ·have hr:=lF (P:=P) (ad:=some ⟨g.ph id,0,none⟩) (c:=cap) (w:=w) hT.h hk.h (Wc h0) hA (fun k h=>by simp[h]) hR hbn ab
  have hexec:(execOp a.eval o).run P w=.ok (.value (.slice (some ⟨g.ph id,0,none⟩) h cap)) w:=by
   simp only[execOp,ho,h1,q1,Sem.run_bind,W8]
   simp only[W8,W5,Addr.add_lit,Nat.zero_mul,WW,Nat.sub_zero,ite_self]at hr
   rw[hr];rfl
  rw[hexec,Oper.upon_value]
  have hst:=od (v:=.slice (some ⟨g.ph id,0,none⟩) h cap) (t:=id) hR (eX.refl w) hvr hfx
  refine⟨g.mkN id (.slice (some ⟨g.ph id,0,none⟩) h cap),hR.app1 hp.dOk hst ⟨by rw[hvr,V6 rfl,hvt,hv];exact V8 _,fun _=>?_⟩ (.inr ⟨cap,cs,?_,q2,q3,by rw[hmul];omega,q5,q6,fun i ps hi=>?_⟩)⟩
  ·show _=(if id=id then _ else _);rw[V6 rfl]
  ·show(if id=id then _ else _)=_;rw[V6 rfl,hmul];rfl
  ·rw[WI]at hi
   split at hi
   ·obtain⟨r1,r2⟩:=q7 i ps hi
    refine⟨r1,fun j A hj=>?_⟩
    obtain⟨u,s1,s2,s3⟩:=r2 j A hj
    exact⟨u,s1,s2,A.mono hst.sz hst.keepN hst.n s3⟩
   ·cases hi
end
abbrev Vn:=Int×Int
abbrev vnP (v:Vn):List PV:=Vz v.1 v.2
abbrev Uq (v:Vn):Bool:=gm v.1 v.2
def ic (p:Vn):List Vn→List Vn
 | []=>[]
 | x::l=>if x=p then ic x l else x::ic x l
def mg:List Vn→List Vn
 | []=>[]
 | x::l=>x::ic x l
theorem yn (p:Vn)(l:List Vn):(ic p l).length≤l.length:=by
 induction l generalizing p with
 | nil=>exact V8 _
 | cons x l ih=>
  unfold ic
  have:=ih x
  split
  ·simp only[Wh];omega
  ·simp only[Wh];omega
theorem Je (l:List Vn):(mg l).length≤l.length:=by
 cases l with
 | nil=>exact V8 _
 | cons x l=>have:=yn x l;simp only[mg,Wh];omega
theorem Fj {l:List Vn}{k:Nat}(h:k<l.length)(h0:k=0):l.take (k+1)++ic l[k] (l.drop (k+1))=mg l:=by
 subst h0
 cases l with
 | nil=>cases h
 | cons x l=>rfl
theorem RO (x y:Vn):(decide (x.1=y.1)&&(decide (x.2=y.2)&&true))=decide (x=y):=by
 rw[Wo];simp[Prod.ext_iff]
theorem SZ:k8 prog 80 (.agg #[.int .i64 0,.int .i64 0]):=⟨by kernel_rfl⟩
theorem NQ (l:List Vn)(hl:l.length≤1000000000) :
 dh prog 233 [.row 2000 0] [(2000,.row 80 2 (l.map vnP))] (.row 3000 0) [(3000,.row 80 2 ((mg l).map vnP))]:=by
 have hE:∀x y:Vn,HU prog 10000 80 [.int .i64 x.1,.int .i64 x.2] [.int .i64 y.1,.int .i64 y.2]=some (decide (x=y)):=fun x y=>(ze x.1 x.2 y.1 y.2).trans (Wx some (RO x y))
 by_cases h2:l.length<2
 ·have hR:mg l=l:=by
   match l,h2 with
   | [],_=>rfl
   | [x],_=>rfl
  rw[hR]
  clear hE hR
  refine dH func233 ntmps233 ?_
  (refine BA ?_;repeat' first|apply ah|refine ai fun hc=>?_)
  refine Vb [(2000,3000)] ?_
  exact um rfl rfl
 generalize hR:mg l=R
 have hRl:R.length≤l.length:=by rw[←hR];exact Je l
 refine dH func233 ntmps233 ?_
 (refine BA ?_;repeat' first|apply ah|refine ai fun hc=>?_)
 refine aj (X:=Nat) (fun k=>k+1≤l.length∧∃h:k<l.length,l.take (k+1)++ic l[k] (l.drop (k+1))=R) (fun k=>ay [(0,.row 2000 0),(3,iC .i64 ((k+1:Nat):Int))] [(2000,.row 80 2 (l.map vnP))]) (fun k=>l.length-k) 0 ⟨ab,ab,(Fj ab rfl).trans hR⟩ ?_
 rintro k ⟨h1,h3,h4⟩
 by_cases hk:k+1<l.length
 ·have e0:((k+1:Nat):Int)-1=(k:Nat):=ab
  have kL1:Hid ((l.map vnP)[k]?=some (vnP l[k])):=Lib.hid (by rw[List.getElem?_map,V4 h3];rfl)
  have kL2:Hid ((l.map vnP)[k+1]?=some (vnP l[k+1])):=Lib.hid (by rw[List.getElem?_map,V4 hk];rfl)
  have hE1:=hE l[k+1] l[k]
  rw[List.drop_eq_getElem_cons hk]at h4
  unfold ic at h4
  by_cases hxy:l[k+1]=l[k]
  ·rw[V6 hxy]at h4
   rw[Wb hxy]at hE1
   have h4:l.take (k+1)++ic l[k+1] (l.drop (k+1+1))=R:=h4
   have hEa:=hE
   clear hE hR
   (refine eT e0 ?_;repeat' first|apply ah|refine ai fun hc=>?_|((first|apply aB rfl|apply aC rfl|apply aD rfl|apply aF rfl);(focus ((try (apply bI;(focus rfl);apply ag rfl rfl rfl rfl rfl));first|(exact gX (us:=[.int .i64 l[k+1].1,.int .i64 l[k+1].2]) (vs:=[.int .i64 l[k].1,.int .i64 l[k].2]) ⟨rfl,rfl,rfl⟩ rfl rfl rfl (by first|exact .inl ⟨rfl,rfl⟩|exact .inr ⟨rfl,rfl⟩) Ed rfl hE1)|((exact RN (l:=k+1) (h:=l.length) ⟨rfl,rfl,rfl⟩ rfl inferInstance inferInstance rfl rfl rfl rfl ⟨⟨_,_,rfl,rfl⟩,au,ab,au⟩ bn))));refine eT e0 ?_))
   have h6:∃h:k+1+0<l.length,l.take (k+1)++ic l[k+1+0] (l.drop (k+1+0+1))=R:=⟨hk,h4⟩
   clear h4 kL1 kL2 hE1 hxy e0
   refine aj (X:=List Vn×Nat×Nat) (fun x=>x.1.length=l.length∧x.2.1<k+1+x.2.2+1∧∃h:k+1+x.2.2<x.1.length,x.1.take x.2.1++ic x.1[k+1+x.2.2] (x.1.drop (k+1+x.2.2+1))=R)
    (fun x=>ay [(0,.row 2000 0),(3,iC .i64 (x.2.1:Nat)),(4,.vw 2000 0 2 (k+1) (l.length-(k+1))),(5,iC .i64 ((x.2.2+1:Nat):Int))] [(2000,.row 80 2 (x.1.map vnP))]) (fun x=>l.length-(k+1+x.2.2)) (l,k+1,0) ⟨rfl,aA,h6⟩ ?_
   clear h6
   rintro⟨M,kk,m⟩ ⟨g1,g2,g3,g4⟩
   simp only at g1 g2 g3 g4 ⊢
   by_cases hm:k+1+m+1<M.length
   ·have e1:((m+1:Nat):Int)-1=(m:Nat):=ab
    have kL1:Hid ((M.map vnP)[k+1+m]?=some (vnP M[k+1+m])):=Lib.hid (by rw[List.getElem?_map,V4 g3];rfl)
    have kL2:Hid ((M.map vnP)[k+1+(m+1)]?=some (vnP M[k+1+m+1])):=Lib.hid (by rw[List.getElem?_map,←Nat.add_assoc,V4 hm];rfl)
    have hE1:=hEa M[k+1+m+1] M[k+1+m]
    rw[List.drop_eq_getElem_cons hm]at g4
    unfold ic at g4
    by_cases hxy:M[k+1+m+1]=M[k+1+m]
    ·rw[V6 hxy]at g4
     rw[Wb hxy]at hE1
     have g6:∃h:k+1+(m+1)<M.length,M.take kk++ic M[k+1+(m+1)] (M.drop (k+1+(m+1)+1))=R:=⟨hm,g4⟩
     clear g4 hEa
     generalize M[k+1+m+1]=x at *
     generalize M[k+1+m]=y at *
     (refine eT e1 ?_;repeat' first|apply ah|refine ai fun hc=>?_|((first|apply aB rfl|apply aC rfl|apply aD rfl|apply aF rfl);(focus ((try (apply bI;(focus rfl);apply ag rfl rfl rfl rfl rfl));first|(exact gX (us:=[.int .i64 x.1,.int .i64 x.2]) (vs:=[.int .i64 y.1,.int .i64 y.2]) ⟨rfl,rfl,rfl⟩ rfl rfl rfl (by first|exact .inl ⟨rfl,rfl⟩|exact .inr ⟨rfl,rfl⟩) Ed rfl hE1)|((exact zW ⟨rfl,rfl,rfl⟩ rfl inferInstance rfl rfl))|((exact tN (i:=m+1) ⟨rfl,rfl,rfl⟩ rfl inferInstance inferInstance rfl rfl rfl rfl rfl ab))|((exact tN (i:=m) ⟨rfl,rfl,rfl⟩ rfl inferInstance inferInstance rfl rfl rfl rfl rfl ab))));refine eT e1 ?_))
     refine⟨(M,kk,m+1),⟨g1,aA,g6⟩,aA,?_⟩
     exact ae
    ·rw[V3 hxy]at g4
     rw[Wj hxy]at hE1
     have hkk:kk<M.length:=ab
     have hS:(M.map vnP).set kk (cH (vnP M[kk]) 0 (vnP M[k+1+m+1]))=(M.set kk M[k+1+m+1]).map vnP:=cg vnP M kk _
     have g7:(M.set kk M[k+1+m+1]).length=l.length:=by rw[List.length_set];exact g1
     have g6:∃h:k+1+(m+1)<(M.set kk M[k+1+m+1]).length,(M.set kk M[k+1+m+1]).take (kk+1)++ic (M.set kk M[k+1+m+1])[k+1+(m+1)] ((M.set kk M[k+1+m+1]).drop (k+1+(m+1)+1))=R:=by
      refine⟨by rw[List.length_set];exact hm,?_⟩
      rw[List.getElem_set_ne ab,List.drop_set_of_lt ab,bc _ kk (by rw[List.length_set];exact hkk),List.getElem_set_self,List.take_set_of_le (V8 _),V9]
      exact g4
     have kL3:=kL1
     clear kL1
     have kL1:Hid ((M.map vnP)[kk]?=some (vnP M[kk])):=Lib.hid (by rw[List.getElem?_map,V4 hkk];rfl)
     have kS1:=Lib.hid hS
     clear g4 hEa hS
     generalize M.set kk M[k+1+m+1]=M' at *
     generalize M[k+1+m+1]=x at *
     generalize M[k+1+m]=y at *
     generalize M[kk]=z at *
     (refine eT e1 ?_;repeat' first|apply ah|refine ai fun hc=>?_|((first|apply aB rfl|apply aC rfl|apply aD rfl|apply aF rfl);(focus ((try (apply bI;(focus rfl);apply ag rfl rfl rfl rfl rfl));first|(exact gX (us:=[.int .i64 x.1,.int .i64 x.2]) (vs:=[.int .i64 y.1,.int .i64 y.2]) ⟨rfl,rfl,rfl⟩ rfl rfl rfl (by first|exact .inl ⟨rfl,rfl⟩|exact .inr ⟨rfl,rfl⟩) Ed rfl hE1)|((exact zW ⟨rfl,rfl,rfl⟩ rfl inferInstance rfl rfl))|((exact tN (i:=m+1) ⟨rfl,rfl,rfl⟩ rfl inferInstance inferInstance rfl rfl rfl rfl rfl ab))|((exact tN (i:=m) ⟨rfl,rfl,rfl⟩ rfl inferInstance inferInstance rfl rfl rfl rfl rfl ab))));refine eT e1 ?_))
     refine⟨(M',kk+1,m+1),⟨g7,aA,g6⟩,aA,?_⟩
     exact ae
   ·have hm:M.length=k+1+m+1:=ab
    rw[Wv ab]at g4
    have hkk:kk<M.length:=ab
    have g4:M.take kk=R:=by rw[←g4];simp[ic]
    have hcut:((M.map vnP).take kk++List.replicate (M.length-kk) (List.replicate 2 Fh)++(M.map vnP).drop (kk+(M.length-kk))).take kk=R.map vnP:=by
     rw[V9,List.take_append_of_le_length bn,List.take_take,Nat.min_self,←List.map_take,g4]
    clear hEa g4
    (refine BA ?_;repeat' first|apply ah|refine ai fun hc=>?_|((first|apply aB rfl|apply aC rfl|apply aD rfl|apply aF rfl);(focus ((try (apply bI;(focus rfl);apply ag rfl rfl rfl rfl rfl));first|((exact zW ⟨rfl,rfl,rfl⟩ rfl inferInstance rfl rfl))|((exact RN (l:=kk) (h:=M.length) ⟨rfl,rfl,rfl⟩ rfl inferInstance inferInstance rfl rfl rfl rfl ⟨⟨_,_,rfl,rfl⟩,au,ab,au⟩ bn))|((exact NP ⟨rfl,rfl⟩ rfl inferInstance SZ rfl rfl rfl rfl rfl (by rw[V7];omega) ab rfl))|((exact QW (h:=kk) ⟨rfl,rfl,rfl⟩ rfl inferInstance inferInstance rfl rfl rfl rfl ⟨rfl,⟨_,_,rfl,rfl⟩,ab,bn⟩ hcut))));refine BA ?_))
    refine Vb [(2000,3000)] ?_
    exact um rfl rfl
  ·rw[V3 hxy]at h4
   rw[Wj hxy]at hE1
   have h5:l.take (k+1+1)++ic l[k+1] (l.drop (k+1+1))=R:=by
    rw[←h4,bc l (k+1) hk,V9];rfl
   have h6:∃h:k+1<l.length,l.take (k+1+1)++ic l[k+1] (l.drop (k+1+1))=R:=⟨hk,h5⟩
   clear h4 h5 hE hR
   generalize l[k+1]=x at *
   generalize l[k]=y at *
   (refine eT e0 ?_;repeat' first|apply ah|refine ai fun hc=>?_|((first|apply aB rfl|apply aC rfl|apply aD rfl|apply aF rfl);(focus ((try (apply bI;(focus rfl);apply ag rfl rfl rfl rfl rfl));first|(exact gX (us:=[.int .i64 x.1,.int .i64 x.2]) (vs:=[.int .i64 y.1,.int .i64 y.2]) ⟨rfl,rfl,rfl⟩ rfl rfl rfl (by first|exact .inl ⟨rfl,rfl⟩|exact .inr ⟨rfl,rfl⟩) Ed rfl hE1)));refine eT e0 ?_))
   refine⟨k+1,⟨ab,h6⟩,ab,?_⟩
   exact ae
 ·have hk:l.length=k+1:=ab
  rw[Wv ab,Wd ab]at h4
  have h4:l=R:=by rw[←h4];simp[ic]
  subst h4
  clear hE hR
  (refine BA ?_;repeat' first|apply ah|refine ai fun hc=>?_)
  refine Vb [(2000,3000)] ?_
  exact um rfl rfl
def qV (x y:Vn):Int:=Ec x.1 x.2 y.1 y.2
theorem CR (x y:Vn):ltOf qV x y=true↔x.1<y.1∨x.1=y.1∧x.2<y.2:=by
 unfold ltOf qV Ec
 rw[Wn]
 split
 ·omega
 ·split
  ·omega
  ·omega
theorem sb (x y:Vn):ltOf qV x y=false↔¬(x.1<y.1∨x.1=y.1∧x.2<y.2):=by
 rw[←CR];simp
theorem sc:Sort.SWO (ltOf qV) where
 irrefl x:=by rw[sb];omega
 trans x y z h1 h2:=by rw[CR]at *;omega
 ntrans x y z h1 h2:=by rw[sb]at *;omega
def m4 (l:List Vn):List Vn:=kN qV l
theorem Fk (l:List Vn):(m4 l).Perm l:=(jw sc l).1
theorem CS:∀(l:List Vn)(p:Vn),(p::l).Pairwise (fun x y=>ltOf qV y x=false)→((ic p l).length=l.length↔(p::l).Nodup):=by
 intro l
 induction l with
 | nil=>intro p _;simp[ic]
 | cons x l ih=>
  intro p h
  have h2:=ih x h.of_cons
  unfold ic
  by_cases e:x=p
  ·rw[V6 e]
   have:=yn x l
   constructor
   ·intro q;simp only[Wh]at q;omega
   ·intro q;exact absurd (by rw[e];exact WG) (List.nodup_cons.1 q).1
  ·rw[V3 e,Wh,Wh,List.nodup_cons,←h2]
   constructor
   ·intro q
    refine⟨fun hm=>?_,ab⟩
    rcases Wp.1 hm with hm|hm
    ·exact e hm.symm
    ·have a:=(List.pairwise_cons.1 h).1 x WG
     have b:=(List.pairwise_cons.1 h.of_cons).1 p hm
     rw[sb]at a b
     exact e (Prod.ext ab ab)
   ·intro q;omega
theorem CT (l:List Vn):(mg (m4 l)).length=l.length↔l.Nodup:=by
 obtain⟨h1,h2⟩:=jw sc l
 have h1:(m4 l).Perm l:=h1
 have h2:(m4 l).Pairwise (fun x y=>ltOf qV y x=false):=h2
 rw[←h1.nodup_iff,←h1.length_eq]
 generalize m4 l=L at *
 cases L with
 | nil=>simp[mg]
 | cons p L=>rw[←CS L p h2];simp[mg]
def so_ver_ren:Go.Shelf.Ren:=⟨fun|6=>231|14=>260|15=>256|20=>299|21=>300|22=>301|23=>302|24=>303|25=>304|26=>305|27=>306|28=>287|29=>288|46=>330|47=>322|48=>323|49=>331|50=>332|57=>350|n=>n,fun|0=>0|3=>3|4=>4|5=>5|9=>9|22=>234|24=>80|25=>297|39=>311|45=>346|46=>347|50=>351|53=>158|55=>30|66=>375|70=>378|76=>393|77=>394|n=>n,fun n=>n⟩
theorem S4:SlLaysF0.n6 prog so_ver_ren:={ mixed:=by kernel_rfl,f6:=⟨Tryz.f231.name,bz,func231.trans (Wx some (by kernel_rfl))⟩,f14:=⟨Tryz.f260.name,bz,func260.trans (Wx some (by kernel_rfl))⟩,f15:=func256.trans (Wx some (by kernel_rfl)),f20:=⟨Tryz.f299.name,bz,func299.trans (Wx some (by kernel_rfl))⟩,f21:=⟨Tryz.f300.name,bz,func300.trans (Wx some (by kernel_rfl))⟩,f22:=⟨Tryz.f301.name,bz,func301.trans (Wx some (by kernel_rfl))⟩,f23:=⟨Tryz.f302.name,bz,func302.trans (Wx some (by kernel_rfl))⟩,f24:=⟨Tryz.f303.name,bz,func303.trans (Wx some (by kernel_rfl))⟩,f25:=⟨Tryz.f304.name,bz,func304.trans (Wx some (by kernel_rfl))⟩,f26:=⟨Tryz.f305.name,bz,func305.trans (Wx some (by kernel_rfl))⟩,f27:=⟨Tryz.f306.name,bz,func306.trans (Wx some (by kernel_rfl))⟩,f28:=func287.trans (Wx some (by kernel_rfl)),f29:=func288.trans (Wx some (by kernel_rfl)),f46:=⟨Tryz.f330.name,bz,func330.trans (Wx some (by kernel_rfl))⟩,f47:=func322.trans (Wx some (by kernel_rfl)),f48:=func323.trans (Wx some (by kernel_rfl)),f49:=⟨Tryz.f331.name,bz,func331.trans (Wx some (by kernel_rfl))⟩,f50:=⟨Tryz.f332.name,bz,func332.trans (Wx some (by kernel_rfl))⟩,f57:=⟨Tryz.f350.name,bz,func350.trans (Wx some (by kernel_rfl))⟩,t0:=underlying0,a0:=Tryz.isAgg0,z0:=Tryz.sizeOf0,v0:=Tryz.zeroValue0,t3:=underlying3,a3:=Tryz.isAgg3,z3:=Tryz.sizeOf3,v3:=Tryz.zeroValue3,t4:=underlying4,a4:=Tryz.isAgg4,z4:=Tryz.sizeOf4,v4:=Tryz.zeroValue4,t5:=underlying5,a5:=Tryz.isAgg5,z5:=Tryz.sizeOf5,v5:=Tryz.zeroValue5,t9:=underlying9,a9:=Tryz.isAgg9,z9:=Tryz.sizeOf9,v9:=Tryz.zeroValue9,t22:=underlying234,a22:=Tryz.isAgg234,z22:=Tryz.sizeOf234,v22:=Tryz.zeroValue234,t25:=underlying297,a25:=Tryz.isAgg297,z25:=Tryz.sizeOf297,v25:=Tryz.zeroValue297,t39:=underlying311,a39:=Tryz.isAgg311,z39:=Tryz.sizeOf311,v39:=Tryz.zeroValue311,t45:=underlying346,a45:=Tryz.isAgg346,z45:=Tryz.sizeOf346,v45:=Tryz.zeroValue346,t46:=underlying347,a46:=Tryz.isAgg347,z46:=Tryz.sizeOf347,v46:=Tryz.zeroValue347,t50:=underlying351,a50:=Tryz.isAgg351,z50:=Tryz.sizeOf351,v50:=Tryz.zeroValue351,t53:=underlying158,a53:=Tryz.isAgg158,z53:=Tryz.sizeOf158,v53:=Tryz.zeroValue158,t55:=underlying30,a55:=Tryz.isAgg30,z55:=Tryz.sizeOf30,v55:=Tryz.zeroValue30,t66:=underlying375,a66:=Tryz.isAgg375,z66:=Tryz.sizeOf375,v66:=Tryz.zeroValue375,t70:=underlying378,a70:=Tryz.isAgg378,z70:=Tryz.sizeOf378,v70:=Tryz.zeroValue378,t76:=underlying393,a76:=Tryz.isAgg393,z76:=Tryz.sizeOf393,v76:=Tryz.zeroValue393,t77:=underlying394,a77:=Tryz.isAgg394,z77:=Tryz.sizeOf394,v77:=Tryz.zeroValue394 }
theorem NR (x y:Vn)(w:World) :
 Calls prog 232 #[.agg #[.int .i64 x.1,.int .i64 x.2],.agg #[.int .i64 y.1,.int .i64 y.2]] w fun e w'=>e=.returned (.int .i64 (qV x y))∧Gw w w':=by
 unfold qV Ec
 go_enter func232,ntmps232
 go_wp2
 all_goals (go_ret;exact⟨rfl,((Gw.refl w).alloc _).alloc _⟩)
abbrev Ur (l:List Vn):Cnt:=.bor 2 (l.map vnP)
theorem NS (l:List Vn)(hl:l.length≤1000000000) :
 dh prog 231 [.row 1000 0,.per (ak (.func (.func 232) #[] #[]))] [(1000,.row 80 2 (l.map vnP))] .any [(1000,.row 80 2 ((m4 l).map vnP))]:=
 rQ (e:=80) (k:=2) (G:=232) S4 Tryz.isAgg80 Tryz.sizeOf80 (enc:=fun x:Vn=>[.int .i64 x.1,.int .i64 x.2]) ⟨bz,fun _=>rfl,fun x v hv=>by simp at hv;rcases hv with rfl|rfl<;>rfl⟩ sc (enters_of func232 (by kernel_rfl) rfl)
  (fun x y w=>NR x y w) (vm func231 (by kernel_rfl) (by kernel_rfl)) l ab
theorem Fl (l:List Vn)(hl:l.length≤1000000000):Fn prog 159 [Ur l] (.own 80 2 ((mg (m4 (l.filter Uq))).map vnP)):=by
 generalize hT:l.filter Uq=T at *
 have hTl:T.length≤1000000000:=by rw[←hT];exact W7 (WT _ _) hl
 have hs:=NS T hTl
 have hc1:=NQ (m4 T) (by rw[(Fk T).length_eq];exact hTl)
 generalize mg (m4 T)=R at *
 generalize m4 T=Q at *
 refine fi func159 ntmps159 ?_
 (refine BA ?_)
 refine bQ (bU 3 600 80 2 rfl rfl) ?_
 refine aj (X:=Nat×List Vn) (fun x=>x.1≤l.length∧x.2++(l.drop x.1).filter Uq=T)
  (fun x=>ay [(3,.row 600 0),(6,Ur l),(7,iC .i64 (l.length:Nat)),(8,iC .i64 (x.1:Nat))] [(600,.row 80 2 (x.2.map vnP))]) (fun x=>l.length-x.1) (0,[]) ⟨Wa _,by simp[hT]⟩ ?_
 rintro⟨k,ac⟩ ⟨g1,g2⟩
 simp only at g1 g2 ⊢
 by_cases hk:k<l.length
 ·have hir:=oB l[k].1 l[k].2
  have hlen:ac.length≤1000000000:=by
   have:=Wx List.length g2
   simp only[V5]at this;omega
  rw[List.drop_eq_getElem_cons hk,List.filter_cons]at g2
  cases hr:Uq l[k]with
  | false=>
   rw[show gm l[k].1 l[k].2=false from hr]at hir
   rw[hr]at g2
   clear hs hc1
   (refine D4 hir ?_;repeat' first|apply ah|refine ai fun hc=>?_)
   refine⟨(k+1,ac),⟨aA,by simpa using g2⟩,aA,?_⟩
   exact ae
  | true=>
   rw[show gm l[k].1 l[k].2=true from hr]at hir
   rw[hr]at g2
   clear hs hc1
   (refine D4 hir ?_;repeat' first|apply ah|refine ai fun hc=>?_)
   refine⟨(k+1,ac++[l[k]]),⟨aA,by simpa using g2⟩,aA,av (aN 600 601) (av (aN 601 600) ?_)⟩
   exact ae
 ·have hkl:k=l.length:=ab
  subst hkl
  rw[Xk]at g2
  simp at g2
  subst g2
  (have km1:=(show kW [(1000,600)] _ _ _ _ _ _ from hs);have km2:=(show kW [(2000,600),(3000,700)] _ _ _ _ _ _ from hc1);refine BA ?_;(repeat' first|apply ah|refine ai fun hc=>?_);all_goals clear km2 km1)
  exact nx
theorem CU (l:List It)(hr:l.all eC=true)(hl:l.length≤1000000):Fn prog 86 [fj l] (dq (ja l)):=by
 have hs:=Fl (l.map verOf) (by rw[V7];omega)
 have hf:(l.map verOf).filter Uq=l.map verOf:=by
  rw[List.filter_eq_self]
  intro v hv
  obtain⟨x,hx,rfl⟩:=List.mem_map.1 hv
  have:=WJ.1 hr x hx
  unfold eC at this
  simp only[Wi]at this
  exact this.1.2
 rw[hf]at hs
 have hb:ja l=decide (((mg (m4 (l.map verOf))).length:Int)=(l.length:Nat)):=by
  unfold ja
  rw[Wo,Wn,Wn,←CT,V7]
  omega
 rw[hb]
 clear hf hr hb
 generalize mg (m4 (l.map verOf))=R at *
 refine fi func86 ntmps86 ?_
 (refine BA ?_)
 refine bQ (bU 3 600 80 2 rfl rfl) ?_
 refine aj (X:=Nat) (fun k=>k≤l.length)
  (fun k=>ay [(0,fj l),(3,.row 600 0),(6,fj l),(7,iC .i64 (l.length:Nat)),(8,iC .i64 (k:Nat))] [(600,.row 80 2 (((l.take k).map verOf).map vnP))]) (fun k=>l.length-k) 0 (Wa _) ?_
 intro k hk
 by_cases hlt:k<l.length
 ·have hsn:(l.take (k+1)).map verOf=(l.take k).map verOf++[(l[k].rep,l[k].cnt)]:=by rw[bc l k hlt,List.map_append];rfl
  have hln:((l.take k).map verOf).length≤1000000:=bn
  clear hs
  generalize (l.take k).map verOf=A at *
  (refine BA ?_;repeat' first|apply ah|refine ai fun hc=>?_)
  refine⟨k+1,hlt,ab,av (aN 600 601) (av (aN 601 600) ?_)⟩
  rw[hsn]
  exact ae
 ·rw[Wd ab]
  (refine D4 hs ?_;repeat' first|apply ah|refine ai fun hc=>?_)
  exact dp
end Go.Proofs.YtaclhhkblbacgaaGreat
