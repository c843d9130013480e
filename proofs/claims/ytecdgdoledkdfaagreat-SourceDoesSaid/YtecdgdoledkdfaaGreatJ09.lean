/- Lemmas, walks. -/
import Derived.Test.YtecdgdoledkdfaaGreatJ08
set_option maxRecDepth 10000
set_option maxHeartbeats 8000000
namespace Go.Proofs.YtecdgdoledkdfaaGreat
open Go.RowKit Go.Proofs.Tryz
variable {i k:Nat} {x:Operand} {As:List PV} {e:Nat} {A:PV} {j id:Nat} {O:OV} {ids:List Nat}
abbrev Xt (T:List (List Rn)):PV:=cu (T.map ou)
abbrev xl (T:List (List Rn)):List Cnt:=T.map λl=>Cnt.per (ou l)
theorem Ep (T:List (List Rn)):vp (xl T)=some (T.map ou):=by induction T<;>grind[vp]
theorem Er (T:List (List Rn)):(T.map ou).map Cnt.per=xl T:=by simp[xl]
theorem Ak {T:List (List Rn)}(h:T.length=16):vp (((xl T).drop 0).take 16)=some (T.map ou):=by rw[abu,aaj bD];exact Ep T
theorem Es {T:List (List Rn)}(h:T.length=16):Nat.ble (0+16) (xl T).length=true:=by grind[Nat.ble_eq_true_of_le]
theorem Lq {cells l:List Cnt}(h:l.length=cells.length):lH cells 0 l=l:=by grind[lH]
theorem xm (l:List Rn)(hl:l.length<=1000000000):Fn prog 257 [ia l] (.own 129 2 (l.map rnP)):=by
 by_cases h0:0<l.length
 ·refine fi func257 ntmps257 ?_
  (refine w0 ?_;refine ah λhc=>?_)
  exact oo
 ·obtain rfl:l=[]:=aax ae
  refine fi func257 ntmps257 ?_
  (refine w0 ?_;repeat' first|apply aw|refine ah λhc=>?_)
  ·exact dr (dG rfl)
  ·exact oo
theorem Al (l:List Rn)(hl:l.length<=1000000000)(h:ef l):Fn prog 256 [ia l] (.own 129 2 (l.map rnP)):=by
 have h1:=ui l hl true (by simp[h])
 have h2:=xm l hl
 refine fi func256 ntmps256 ?_
 (refine bt h1 h2 ?_;refine ah λhc=>?_)
 exact oo
theorem Hf (l m:List Rn)(hl:l.length<=1000000000):Fn prog 209 [ia l,ia m] (dE (decide (l=m))):=by
 refine fi func209 ntmps209 ?_
 (refine wH ?_;repeat' first|apply aw|refine ah λhc=>?_)
 ·refine dr ?_
  exact aP rfl (by grind)
 have hlm:l.length=m.length:=ae
 refine aj (λk=>k<=l.length/\l.take k=m.take k) (λk=>aF [(0,ia l),(1,ia m),(12,iC .i64 (l.length:Nat)),(13,iC .i64 (k:Nat))] []) (λk=>l.length-k) 0 ⟨aag _,rfl⟩ ?_
 rintro k ⟨hk,hpre⟩
 by_cases hlt:k<l.length
 ·have hltm:k<m.length:=ae
  (refine wH ?_;repeat' first|apply aw|refine ah λhc=>?_|((first|apply aH rfl|apply aJ rfl);(focus (try apply ag rfl rfl rfl rfl rfl);(exact ga (us:=encRn l[k]) (vs:=encRn m[k]) ⟨rfl,rfl,rfl⟩ rfl rfl rfl (.inr ⟨rfl,rfl⟩) rnG rfl (Wo l[k] m[k])));refine wH ?_))
  ·refine dr ?_
   exact aP rfl (by grind[vQ])
  ·refine⟨k+1,⟨ae,?_⟩,ae,?_⟩
   ·rw[bp l k hlt,bp m k hltm,hpre,(vQ l[k] m[k]).1 (by simpa using hc)]
   ·exact ab
 ·(refine wH ?_;refine ah λhc=>?_)
  refine dr ?_
  exact aP rfl (by grind)
theorem JE (s:List Kn)(hs:dJ s):Fn prog 218 [fA s] (.per (Xt (di s))):=by
 have hl0:=hs.1
 have htot:=hs.2
 refine fi func218 ntmps218 ?_
 (refine w0 ?_)
 refine bw (DW 3 285 (cells':=xl (di [])) rfl rfl (λj c c' h h'=>?_)) ?_
 ·have h1:c=.per (ai (.slice none 0 0)):=List.eq_of_mem_replicate (n:=16) (aa3 h)
  have h2:c'=.per (ou []):=List.eq_of_mem_replicate (n:=16) (aa3 h')
  rw[h1,h2];exact Jy
 refine aj (X:=Nat) (λz=>z<=s.length)
  (λz=>aF [(2,.ptr 2 0 0),(3,.ptr 3 0 0),(7,fA s),(8,iC .i64 (s.length:Nat)),(9,iC .i64 (z:Nat))] [(2,.box 285 (List.replicate 16 (.per (ai (.slice none 0 0))))),(3,.box 285 (xl (di (s.take z))))]) (λz=>s.length-z) 0 (aag _) ?_
 intro z hz
 by_cases hlt:z<s.length
 ·have c1:=qZ s[z].rep
  have hT:=dp (s.take z)
  have hsn:=He s z hlt
  by_cases hr:1<=s[z].rep/\s[z].rep<=16
  ·rw[aao hr]at c1
   obtain⟨r,hq⟩:∃r:Nat,s[z].rep-1=(r:Nat):=⟨(s[z].rep-1).toNat,ae⟩
   have hr16:r<16:=ae
   have hin:=En (s.take z) s[z] hr16 ae
   rw[<-hsn]at hin
   have hg:=ev (s.take z) hr16
   have hb1:=xj s z r
   have hb2:=i8 s r
   have hb3:=hs.sz.at hlt
   generalize bx (s.take z) r=Tr at *
   generalize di (s.take z)=T at *
   have HJ:(xl T)[0+r*1]?=some (.per (ou Tr)):=by rw[aaJ,abF,List.getElem?_map,hg];rfl
   have HB:Nat.ble (0+r*1+1) (xl T).length=true:=Nat.ble_eq_true_of_le bD
   have hTr:Tr.length<=1000000000:=ae
   have c2:=xm Tr ae
   have HF:∀(F:Cnt->Cnt)(c:Cnt),(∀A,F (.per A)=.per A)->F c=.per (cn 2 (Tr.map rnP++s[z].runs.map rnP))->(lH (xl T) (0+r*1) [c]).map F=xl (T.set r (Tr++s[z].runs)):=λF c h1 h2=>by
    rw[aaJ,abF,Oh _ _ _ bD,List.map_set,h2,<-List.map_append]
    grind[List.map_congr_left,List.map_set]
   clear hs htot hg
   (refine bz hq c1 c2 ?_;repeat' first|apply aw|refine ah λhc=>?_|((first|apply aH rfl|apply cB rfl|apply aJ rfl|apply cC rfl);(focus (try apply ag rfl rfl rfl rfl rfl);first|((apply bn 5;(focus rfl);exact rR ⟨rfl,rfl,rfl⟩ rfl aS rfl rfl rfl HJ))|((apply bn 6;(focus rfl);exact pV (c:=.row _ _) ⟨rfl,rfl⟩ rfl aS rfl rfl rfl HB rfl (by first|exact fM (by first|exact dC rfl rfl|exact dU|exact fv)|exact fN rfl|exact fw rfl rfl|exact fO rfl rfl|exact eN|exact eO|exact eR))));refine bz hq c1 c2 ?_))
   refine⟨z+1,ae,ae,az (iW 23 _ 129 2 rfl rfl) ?_⟩
   (refine kA ?_ ?_;(focus ((repeat (first|exact gp.nil|(refine gp.cons ?_ ?_;rotate_left)));(all_goals try (first|rfl|(refine Gj ?_;first|omega|(simp;done)|(simp;omega))|(refine qw ?_;first|(simp;done)|(simp[*];done))))));(focus ((repeat (first|exact gq.nil|(refine gq.cons ?_ ?_;rotate_left)));(all_goals try (first|rfl|(refine nq ?_;(rw[List.map_append]<;>rfl);done)|(refine kB ?_;(rw[List.map_append]<;>rfl);done))))))
   rw[hin]
   show Blk.box _ (List.map _ (List.map _ _))=_
   rw[List.map_map]
   exact aaA (Blk.box _) (HF _ _ (λ_=>rfl) rfl)
  ·rw[aap hr]at c1
   have hout:=Lp (s.take z) s[z] hr
   rw[<-hsn]at hout
   clear hs htot hsn hr
   (refine au c1 ?_;repeat' first|apply aw|refine ah λhc=>?_)
   refine⟨z+1,ae,ae,?_⟩
   (refine kA ?_ ?_;(focus ((repeat (first|exact gp.nil|(refine gp.cons ?_ ?_;rotate_left)));(all_goals try (first|rfl|(refine Gj ?_;first|omega|(simp;done)|(simp;omega))|(refine qw ?_;first|(simp;done)|(simp[*];done))))));(focus ((repeat (first|exact gq.nil|(refine gq.cons ?_ ?_;rotate_left)));(all_goals try (first|rfl|(refine nq ?_;(rw[List.map_append]<;>rfl);done)|(refine kB ?_;(rw[List.map_append]<;>rfl);done))))))
   rw[hout];rfl
 ·have e:s.take z=s:=aaj ae
  rw[e]
  have hT:=dp s
  generalize di s=T at *
  have HP:=Ak hT
  have HB:=Es hT
  clear hs htot
  (refine w0 ?_;repeat' first|apply aw|refine ah λhc=>?_|((first|apply aH rfl|apply cB rfl|apply aJ rfl|apply cC rfl);(focus (try apply ag rfl rfl rfl rfl rfl);first|((apply bn 5;(focus rfl);exact pO ⟨rfl,rfl,rfl⟩ rfl aS aS rfl rfl rfl rfl HB HP))|((apply bn 6;(focus rfl);exact wz ⟨rfl,rfl⟩ rfl aS rfl rfl rfl rfl rfl rfl (by simp[hT]))));refine w0 ?_))
  refine dr ?_
  have e2:lH (List.replicate 16 (Cnt.per (ai (.slice none 0 0)))) 0 ((T.map ou).map .per)=(T.map ou).map .per:=Lq (by simp[hT])
  exact Wi aS aS rfl rfl rfl rfl (by rw[e2];simp[hT]) (by rw[e2,Er];exact Ep T)
theorem Um (cOf:List Rn->List Rn)(T:List (List Rn))(hT:T.length=16)(hOf:∀l∈T,Fn prog 256 [ia l] (.own 129 2 ((cOf l).map rnP))) :
 Fn prog 252 [.per (Xt T)] (.own 127 2 ((bO cOf 0 T).map BW)):=by
 have HP:=Ak hT
 have HB:=Es hT
 have HE:=Er T
 refine fi func252 ntmps252 ?_
 have hstep:∀z (h:z<T.length),bO cOf z (T.drop z)=(if(cOf T[z]).length=0 then []else [⟨(z:Int)+1,cOf T[z]⟩])++bO cOf (z+1) (T.drop (z+1)):=λz h=>by rw[List.drop_eq_getElem_cons h];rfl
 (refine w0 ?_;repeat' first|apply aw|refine ah λhc=>?_|((first|apply aH rfl|apply aJ rfl);(focus (try apply ag rfl rfl rfl rfl rfl);((apply bn 5;(focus rfl);exact pO ⟨rfl,rfl,rfl⟩ rfl aS aS rfl rfl rfl rfl (HE▸HB) (HE▸HP))));refine w0 ?_))
 refine bw (bS 3 600 127 2 rfl rfl) ?_
 generalize hQ:bO cOf 0 T=Q
 refine aj (X:=Nat×List Kn) (λz=>z.1<=16/\z.2.length<=z.1/\z.2++bO cOf z.1 (T.drop z.1)=Q)
  (λz=>aF [(3,.row 600 0),(6,.per (Xt T)),(7,iC .i64 (z.1:Nat))] [(600,.row 127 2 (z.2.map BW))]) (λz=>16-z.1) (0,[]) ⟨aag _,aaf _,by simpa using hQ⟩ ?_
 rintro⟨z,acc⟩ ⟨h1,h2,h3⟩
 simp only at h1 h2 h3 ⊢
 by_cases hz:z<16
 ·have hzT:z<T.length:=ae
  have c1:=(hOf T[z] (aar hzT)).frz
  rw[hstep z hzT]at h3
  have HJ:(T.map ou)[z]?=some (ou T[z]):=by rw[List.getElem?_map,aaa hzT];rfl
  generalize cOf T[z]=L at *
  clear hOf hstep HP HB HE
  by_cases hL:L.length=0
  ·rw[aae hL,aaE]at h3
   (refine au c1 ?_;repeat' first|apply aw|refine ah λhc=>?_|((first|apply aH rfl|apply aJ rfl);(focus (try apply ag rfl rfl rfl rfl rfl);((apply bn 13;(focus rfl);exact DV ⟨rfl,rfl,rfl⟩ rfl aS aS aS rfl rfl rfl ae HJ)));refine au c1 ?_))
   refine⟨(z+1,acc),⟨aL,aL,h3⟩,aL,?_⟩
   exact ab
  ·rw[aab hL]at h3
   (refine au c1 ?_;repeat' first|apply aw|refine ah λhc=>?_|((first|apply aH rfl|apply aJ rfl);(focus (try apply ag rfl rfl rfl rfl rfl);((apply bn 13;(focus rfl);exact DV ⟨rfl,rfl,rfl⟩ rfl aS aS aS rfl rfl rfl ae HJ)));refine au c1 ?_))
   refine⟨(z+1,acc++[⟨(z:Int)+1,L⟩]),⟨aL,bD,by grind⟩,aL,?_⟩
   exact ab
 ·have h3':acc=Q:=by rw[<-h3,aay ae];simp[bO]
  clear hOf hstep HP HB HE h3
  (refine w0 ?_;refine ah λhc=>?_)
  refine dr ?_
  exact cJ rfl rfl rfl h3'
theorem Wp (cOf:List Rn->List Rn)(s:List Kn)(hs:dJ s)(hOf:∀l∈di s,Fn prog 256 [ia l] (.own 129 2 ((cOf l).map rnP))) :
 Fn prog 207 [fA s] (.own 127 2 ((gQ cOf s).map BW)):=by
 have h1:=JE s hs
 have h2:=Um cOf (di s) (dp s) hOf
 refine fi func207 ntmps207 ?_
 (refine bt h1 h2 ?_)
 exact oo
theorem Pu (x y:Kn)(hx:x.runs.length<=1000000000):bZ prog 208 [knC x,knC y] [] (bC (decide (x=y))) []:=by
 have h1:=Hf x.runs y.runs hx
 have hE:x=y↔x.rep=y.rep/\x.runs=y.runs:=by cases x;cases y;simp
 obtain⟨r,l⟩:=x
 obtain⟨r',l'⟩:=y
 simp only at h1 hE hx
 show bZ prog _ [.per (cu [ai (.int .i64 r),ou l]),.per (cu [ai (.int .i64 r'),ou l'])] [] _ []
 by_cases e1:r=r'
 ·by_cases e2:l=l'
  ·rw[aao (hE.2 ⟨e1,e2⟩)]
   rw[aao e2]at h1
   clear hE e2
   refine cp func208 ntmps208 ?_
   (refine au h1 ?_;refine ah λhc=>?_)
   (refine⟨(by first|exact .inl rfl|exact .inr rfl),dv [] rfl rfl .nil ?_⟩)
   exact cD rfl (by grind)
  ·rw[aap (λh=>e2 (hE.1 h).2)]
   rw[aap e2]at h1
   clear hE e2
   refine cp func208 ntmps208 ?_
   (refine au h1 ?_;refine ah λhc=>?_)
   (refine⟨(by first|exact .inl rfl|exact .inr rfl),dv [] rfl rfl .nil ?_⟩)
   exact cD rfl (by grind)
 ·rw[aap (λh=>e1 (hE.1 h).1)]
  clear hE
  refine cp func208 ntmps208 ?_
  (refine au h1 ?_;refine ah λhc=>?_)
  (refine⟨(by first|exact .inl rfl|exact .inr rfl),dv [] rfl rfl .nil ?_⟩)
  exact cD rfl (by grind)
abbrev Y2:Cnt:=.per (ai (.func (.func 208) #[] #[]))
theorem xn (l m:List Kn)(hl:mV l):Fn prog 206 [fA l,fA m,Y2] (dE (decide (l=m))):=by
 have hl0:=hl.1
 refine fi func206 ntmps206 ?_
 (refine w0 ?_;repeat' first|apply aw|refine ah λhc=>?_)
 ·refine dr ?_
  exact aP rfl (by grind)
 have hlm:l.length=m.length:=ae
 refine aj (λk=>k<=l.length/\l.take k=m.take k) (λk=>aF [(1,fA m),(2,Y2),(15,fA l),(16,iC .i64 (l.length:Nat)),(17,iC .i64 (k:Nat))] []) (λk=>l.length-k) 0 ⟨aag _,rfl⟩ ?_
 rintro k ⟨hk,hpre⟩
 by_cases hlt:k<l.length
 ·have hltm:k<m.length:=ae
  have c1:=Pu l[k] m[k] (hl.at hlt)
  by_cases he:l[k]=m[k]
  ·rw[aao he]at c1
   (refine w0 ?_;repeat' first|apply aw|refine ah λhc=>?_|((first|apply aH rfl|apply aJ rfl);(focus (try apply ag rfl rfl rfl rfl rfl);(exact OA [] c1));refine w0 ?_))
   refine⟨k+1,⟨ae,?_⟩,ae,?_⟩
   ·rw[bp l k hlt,bp m k hltm,hpre,he]
   ·exact ab
  ·rw[aap he]at c1
   have hd:¬l=m:=λh=>he (by subst h;rfl)
   rw[aap hd]
   clear hd he
   (refine w0 ?_;repeat' first|apply aw|refine ah λhc=>?_|((first|apply aH rfl|apply aJ rfl);(focus (try apply ag rfl rfl rfl rfl rfl);(exact OA [] c1));refine w0 ?_))
   exact dz
 ·rw[aaj ae,aaj ae]at hpre
  rw[aao hpre]
  clear hpre
  (refine w0 ?_;refine ah λhc=>?_)
  exact dz
theorem JF (a b A B:List Kn)(hA:Fn prog 207 [fA a] (.own 127 2 (A.map BW)))(hB:Fn prog 207 [fA b] (.own 127 2 (B.map BW)))(hsz:mV A) :
 Fn prog 122 [fA a,fA b] (dE (decide (A=B))):=by
 have h1:=xn A B hsz
 refine fi func122 ntmps122 ?_
 (refine kd h1 hA hB ?_)
 exact dz
theorem Hg {l:List Kn}{k:Kn}(h:ck (l++[k])):ck l:=λi hi hi'=>by
 have h1:=h i bD bD
 have e1:(l++[k])[i]'(bD)=l[i]:=List.getElem_append_left hi
 rw[e1]at h1
 grind
theorem Hh {l:List Kn}{k:Kn}(h:ck (l++[k])):∀(d i:Nat)(hi:i<l.length)(_:i+d+1=l.length),l[i].rep<k.rep:=by
 intro d
 induction d with
 | zero=>
  intro i hi hd
  have:=(h (i+1) bD bD).2.2.2.2 ae
  grind
 | succ d ihd=>
  intro i hi hd
  have:=(h (i+1) bD bD).2.2.2.2 ae
  grind
theorem Hi {l:List Kn}{r:Nat}(h:∀x∈l,x.rep≠(r:Int)+1):bx l r=[]:=by grind[bx,List.flatMap_eq_nil_iff]
theorem nF:∀(T:List (List Rn)) (i:Nat),(∀l∈T,l=[])->bO _root_.id i T=[]:=by
 intro T
 induction T<;>grind[aa1,bO]
theorem xo (s:List Kn)(h:ck s):gQ _root_.id s=s:=by
 induction s using Ed with
 | h0=>exact nF _ _ (λl hl=>by
  obtain⟨r,_,rfl⟩:=List.mem_map.1 hl
  rfl)
 | h1 l k ih=>
  have hl:=Hg h
  have ih:=ih hl
  obtain⟨a1,a2,a3,a4⟩:=ic h (i:=l.length) aA
  rw[show(l++[k])[l.length]'(aA)=k by simp]at a1 a2 a3 a4
  obtain⟨r,hr⟩:∃r:Nat,k.rep=(r:Int)+1:=⟨(k.rep-1).toNat,ae⟩
  have hlt:∀x∈l,x.rep<k.rep:=λx hx=>by
   obtain⟨i,hi,rfl⟩:=List.getElem_of_mem hx
   exact Hh h (l.length-1-i) i hi ae
  have hn:∀j,r<=j->bx l j=[]:=λj hj=>Hi (λx hx=>by have:=hlt x hx;omega)
  have hr16:r<16:=ae
  unfold gQ at ih ⊢
  rw[En l k hr16 hr,hn r (aaf _),aaE]
  have hsp:di l=(di l).take r++([]::(di l).drop (r+1)):=by
   have hg:=ev l hr16
   rw[hn r (aaf _)]at hg
   grind[aa0,List.drop_eq_getElem_cons]
  have hlen:((di l).take r).length=r:=by rw[aaK,dp];omega
  have hnil:∀x∈(di l).drop (r+1),x=[]:=λx hx=>by
   obtain⟨i,hi,rfl⟩:=List.getElem_of_mem hx
   rw[List.getElem_drop]
   have hi':r+1+i<16:=by rw[abe,dp]at hi;omega
   have:=ev l hi'
   grind
  rw[hsp,vc,hlen]at ih
  rw[bO,nF _ _ hnil]at ih
  rw[List.set_eq_take_append_cons_drop,aae (by rw[dp];exact hr16),vc,hlen,bO,nF _ _ hnil,aaJ]
  rw[show(if(_root_.id ([]:List Rn)).length=0 then([]:List Kn)else [⟨((0+r:Nat):Int)+1,_root_.id []⟩])=[]from rfl,aan,aan]at ih
  rw[ih,aab (by simpa using a3),aan]
  congr 1
  rw[show _root_.id k.runs=k.runs from rfl,<-hr]
theorem pc (s:List Kn)(hs:dJ s)(h:ck s):Fn prog 207 [fA s] (.own 127 2 (s.map BW)):=by
 have h1:=Wp _root_.id s hs (λl hl=>by
  have hok:=Aj h l hl
  obtain⟨r,_,rfl⟩:=List.mem_map.1 hl
  exact Al _ (by have:=i8 s r;have:=hs.2;omega) hok)
 rw[xo s h]at h1
 exact h1
theorem ra (a b:List Kn)(ha:dJ a)(hb:dJ b)(h:ck a)(h':ck b):Fn prog 122 [fA a,fA b] (dE (decide (a=b))):=
 JF a b a b (pc a ha h) (pc b hb h') ha.sz
theorem Lr:∀a b:List UInt8,dZ b a = - dZ a b:=by
 intro a
 induction a with
 | nil=>intro b;cases b<;>rfl
 | cons x a ih=>
  intro b
  cases b<;>grind[dZ]
theorem Ls (s t:ByteArray):cG t s = - cG s t:=Lr _ _
def fe (k:List Pc):Prop:=k.length<=1000000000/\∀p∈k,dJ p.set
theorem fe.at {k:List Pc}(h:fe k)(hi:i<k.length):dJ k[i].set:=h.2 _ (aar hi)
def jo (a b:Rg):Bool:=!a.op&&decide (a.hi=b.lo)
theorem rb (a b:Rg):Fn prog 121 [Ab a,Ab b] (dE (jo a b)):=by
 obtain⟨lo,hi,op⟩:=a
 obtain⟨lo',hi',op'⟩:=b
 show Fn prog _ [.per (cu [ai (.string lo),ai (.string hi),ai (.bool op)]),.per (cu [ai (.string lo'),ai (.string hi'),ai (.bool op')])] _
 cases op with
 | true=>
  refine fi func121 ntmps121 ?_
  (refine w0 ?_)
  exact dz
 | false=>
  refine fi func121 ntmps121 ?_
  (refine w0 ?_)
  refine dr ?_
  exact aP rfl (by grind[jo,iw])
theorem iM (k:List Pc)(hk:fe k)(b:Bool)(hb:b=true↔aY k):Fn prog 57 [dN k] (dE b):=by
 have hl0:=hk.1
 refine fi func57 ntmps57 ?_
 (refine w0 ?_)
 refine aj (X:=Nat) (λz=>z<=k.length/\∀i,i<z->xe k i)
  (λz=>aF [(0,dN k),(6,dN k),(7,iC .i64 (k.length:Nat)),(8,iC .i64 (z:Nat))] []) (λz=>k.length-z) 0 ⟨aag _,λi h=>absurd h (abc _)⟩ ?_
 rintro z ⟨h1,h2⟩
 by_cases hz:z<k.length
 ·have c1:=gW k[z].rg
  have c2:=Pn k[z].set (hk.at hz).sz (decide (ck k[z].set)) aA
  have hE:k[z].set≠[]↔¬k[z].set.length=0:=aA
  have hno:¬xe k z->b=false:=λh=>by rw[<-aaB,hb];exact λq=>h (q z hz)
  by_cases q1:gg k[z].rg=true
  ·rw[q1]at c1
   by_cases q2:k[z].set.length=0
   ·have hb0:=hno (λh=>absurd q2 (hE.1 (h hz).2.1))
    subst hb0
    clear hb hno h2 hE q1
    (refine bt c1 c2 ?_;repeat' first|apply aw|refine ah λhc=>?_)
    exact dz
   ·by_cases q3:ck k[z].set
    ·rw[aao q3]at c2
     by_cases h0:0<z
     ·obtain⟨q,rfl⟩:∃q,z=q+1:=⟨z-1,ae⟩
      have hqE:((q+1:Nat):Int)-1=(q:Nat):=ae
      have hq:=(h2 q ae) ae
      have hrq:=(cg _).1 hq.1
      have c3:=hY k[q].rg.hi k[q+1].rg.lo ae
      have c4:=rb k[q].rg k[q+1].rg
      have c5:=ra k[q].set k[q+1].set (hk.at ae) (hk.at hz) hq.2.2.1 q3
      have hiff:xe k (q+1)↔k[q].rg.op=false/\cG k[q].rg.hi k[q+1].rg.lo<=0/\¬(k[q].rg.hi=k[q+1].rg.lo/\k[q].set=k[q+1].set):=
       ⟨λh=>(h hz).2.2.2 ae,λh _=>⟨q1,hE.2 q2,q3,λ_=>h⟩⟩
      clear hq hrq
      have hE2:((k[q+1].set.length:Nat):Int)≠0:=ae
      cases o:k[q].rg.op with
      | true=>
       have hb0:=hno (λh=>by have:=(hiff.1 h).1;rw[o]at this;cases this)
       subst hb0
       clear hb hno h2 hE q1 q3 hiff
       (refine pY hqE c1 c2 c3 c4 c5 ?_;repeat' first|apply aw|refine ah λhc=>?_)
       all_goals first|(exfalso;simp_all;done)|skip
       exact dz
      | false=>
       by_cases g:cG k[q].rg.hi k[q+1].rg.lo<=0
       ·by_cases e:k[q].rg.hi=k[q+1].rg.lo
        ·have ht:jo k[q].rg k[q+1].rg=true:=by simp[jo,o,e]
         rw[ht]at c4
         by_cases s:k[q].set=k[q+1].set
         ·rw[aao s]at c5
          have hb0:=hno (λh=>(hiff.1 h).2.2 ⟨e,s⟩)
          subst hb0
          clear hb hno h2 hE q1 q3 hiff s ht e
          (refine pY hqE c1 c2 c3 c4 c5 ?_;repeat' first|apply aw|refine ah λhc=>?_)
          all_goals first|(exfalso;simp_all;done)|skip
          exact dz
         ·rw[aap s]at c5
          have hok:=hiff.2 ⟨o,g,λh=>s h.2⟩
          clear hb hno hE q1 q3 hiff s ht e
          (refine pY hqE c1 c2 c3 c4 c5 ?_;repeat' first|apply aw|refine ah λhc=>?_)
          all_goals first|(exfalso;simp_all;done)|skip
          refine⟨q+1+1,⟨ae,ie h2 hok⟩,ae,?_⟩
          exact ab
        ·have ht:jo k[q].rg k[q+1].rg=false:=by simp[jo,o,e]
         rw[ht]at c4
         have hok:=hiff.2 ⟨o,g,λh=>e h.1⟩
         clear hb hno hE q1 q3 hiff ht e c5
         (refine g9 hqE c1 c2 c3 c4 ?_;repeat' first|apply aw|refine ah λhc=>?_)
         all_goals first|(exfalso;simp_all;done)|skip
         refine⟨q+1+1,⟨ae,ie h2 hok⟩,ae,?_⟩
         exact ab
       ·have hb0:=hno (λh=>g (hiff.1 h).2.1)
        subst hb0
        clear hb hno h2 hE q1 q3 hiff
        (refine pY hqE c1 c2 c3 c4 c5 ?_;repeat' first|apply aw|refine ah λhc=>?_)
        all_goals first|(exfalso;simp_all;done)|skip
        exact dz
     ·have hok:xe k z:=λ_=>⟨q1,hE.2 q2,q3,λh=>absurd h h0⟩
      obtain rfl:z=0:=ae
      clear hb hno hE q1 q3
      (refine bt c1 c2 ?_;repeat' first|apply aw|refine ah λhc=>?_)
      refine⟨0+1,⟨ae,ie h2 hok⟩,ae,?_⟩
      exact ab
    ·rw[aap q3]at c2
     have hb0:=hno (λh=>q3 (h hz).2.2.1)
     subst hb0
     clear hb hno h2 hE q1 q3
     (refine bt c1 c2 ?_;repeat' first|apply aw|refine ah λhc=>?_)
     exact dz
  ·rw[aaB]at q1
   rw[q1]at c1
   have hb0:=hno (λh=>by have:=(h hz).1;rw[q1]at this;cases this)
   subst hb0
   clear hb hno h2 hE q1
   (refine bt c1 c2 ?_;repeat' first|apply aw|refine ah λhc=>?_)
   exact dz
 ·have hb1:b=true:=hb.2 (λi hi=>h2 i ae)
  subst hb1
  clear hb h2
  (refine w0 ?_;refine ah λhc=>?_)
  exact dz
section
variable {P:Program} {n:Nat} {ops:Array Oper} {o:Oper} {S:St} {t:Nat}
theorem xq {cs:List PV}{N:BP}{w:World}{f:Nat->Option Value}(h:∀(j:Nat)(A:PV),cs[j]?=some A->∃y,f j=some y/\y.oneCell'=true/\A.p N w y) :
 ∀(j:Nat)(A:PV),(cs.take k)[j]?=some A->∃y,f j=some y/\y.oneCell'=true/\A.p N w y:=λj A hj=>by
 rw[aaW]at hj
 grind
theorem bJ {ty:TypeId}{cs:List PV}(hp:Pl n o t)(ho:o.op=.load ty x)(hT:dH P ty true)(hk:gC P ty k)(h0:Nat.blt 0 k=true)(hx:S.opd x=.bpt cs)(hl:Nat.ble k cs.length=true)(hc:cs.take k=As) :
 aB n P ops o (aG x) (.per (cu As)) [] S:=
 aZ hp λC T g a w hAg hR=>by
  obtain⟨d,hT,hd⟩:=hT.h
  have h:=aM (x:=x) hAg (λk h=>h) hR
  rw[hx]at h
  obtain⟨b,of,hv,hb,hn,hcs⟩:=h
  obtain⟨vs,g1,g2,g3⟩:=eh (cs.take k) (xq hcs)
  subst hc
  have hkl:=aaq hl
  have h0:=aaq h0
  have hlen:(cs.take k).length=k:=by rw[aaK];omega
  refine⟨.agg vs.toArray,?_,⟨vs.toArray,rfl,g3⟩⟩
  simp only[execOp,ho,hv,Sem.run_bind,fD hT hd (by rw[hk.h,g1,hlen]) ae g2];rfl
theorem bK {ty:TypeId}{cs:List PV}(hp:Pl n o t)(ho:o.op=.load ty x)(hT:dH P ty true)(hk:gC P ty k)(h0:Nat.blt 0 k=true)(hx:S.opd x=.per (em cs))(hl:Nat.ble k cs.length=true)(hc:cs.take k=As) :
 aB n P ops o (aG x) (.per (cu As)) [] S:=
 aZ hp λC T g a w hAg hR=>by
  obtain⟨d,hT,hd⟩:=hT.h
  have h:=aM (x:=x) hAg (λk h=>h) hR
  rw[hx]at h
  obtain⟨b,of,hv,hb,hn,hcs⟩:=h
  obtain⟨vs,g1,g2,g3⟩:=eh (cs.take k) (xq hcs)
  subst hc
  have hkl:=aaq hl
  have h0:=aaq h0
  have hlen:(cs.take k).length=k:=by rw[aaK];omega
  refine⟨.agg vs.toArray,?_,⟨vs.toArray,rfl,g3⟩⟩
  simp only[execOp,ho,hv,Sem.run_bind,fD hT hd (by rw[hk.h,g1,hlen]) ae g2];rfl
end
theorem bZ.frz3 {P:Program}{f:FuncId}{As:List Cnt}{pre:List (Nat×Blk)}{B:Blk}{es:List (List PV)}(h:bZ P f As pre (.row 3000 0) [(1000,B),(3000,.row e k es)]) :
 bZ P f As pre (.per (cn k es)) [(1000,B)]:=by
 refine⟨h.ent,λC w vs hw hN hd hl ha hp=>(h.run C w vs hw hN hd hl ha hp).mono ?_⟩
 rintro ex w' ⟨v,g',he,hF,hv,hB⟩
 subst hw
 let g'':Gh:=⟨λb=>if g'.ow b=some 3000 then none else g'.ow b,g'.ph,g'.rh⟩
 have hg:∀b,g''.ow b=if g'.ow b=some 3000 then none else g'.ow b:=λ_=>rfl
 have hst:oi C (λi=>i=3000) z0 z0 g' g'' w' w':=by
  refine⟨aaf _,λ_ _ _=>rfl,λb _ hn=>by rw[hg,aab (hn 3000 rfl)],λb _ hn=>?_,λb i e=>?_,λ_=>.inl rfl,λ_ _=>⟨rfl,rfl⟩,λ_ _=>⟨rfl,rfl⟩,rfl,rfl,rfl⟩
  ·rw[hg]at hn
   by_cases q:g'.ow b=some 3000
   all_goals grind
  ·rw[hg]at e
   by_cases q:g'.ow b=some 3000
   ·rw[aae q]at e;cases e
   ·rw[aab q]at e;exact hF.dom b i e
 refine⟨v,g'',he,⟨hF.os,hF.tape,hF.output,hF.size,hF.old,λb id e=>hst.dom b id e,hF.keep⟩,?_,λid=>?_⟩
 ·have hrow:=hB 3000
  have hval:v=g'.rh 3000:=hv.2 rfl
  rw[hval]
  show eW (g''.N C) (g''.N C) k es w' (g'.rh 3000)
  rcases(show brep C z0 g' w' 3000 (.row e k es)from hrow)with⟨q1,rfl⟩|⟨cap,cs,q1,q2,q3,q4,q5,q6,q7⟩
  ·exact⟨none,0,0,0,by rw[q1];rfl,aA,bP,λ_=>rfl,aA,λi cs hi=>by simp at hi⟩
  ·have hdm:=hF.dom _ _ q3
   refine⟨_,cap,g'.ph 3000,0,q1,q4,q5,aA,λ_=>⟨rfl,hdm.1,λhn=>?_⟩,λi ps hi=>?_⟩
   ·rcases hn with hn|hn
    all_goals grind
   ·obtain⟨r1,r2⟩:=q7 i ps hi
    refine⟨r1,λj A hj=>?_⟩
    obtain⟨y,s1,s2,s3⟩:=r2 j A hj
    exact⟨y,by rw[aaJ,ei q2];exact s1,s2,A.mono (aaf _) (λ_ _ _=>rfl) hst.n s3⟩
 ·have hid:=hB id
  unfold fb
  cases hb:Nat.beq id 1000 with
  | false=>trivial
  | true=>
   obtain rfl:=bc.1 hb
   exact hst.brep (λb i e=>(hF.dom b i e).1) (λh=>by cases h) (show brep C z0 g' w' 1000 B from hid)
theorem lV (k:List Pc)(hk:fe k)(b:Bool)(hb:b=true↔aY k):Fn prog 25 [dN k] (dE b):=by
 have hl0:=hk.1
 refine fi func25 ntmps25 ?_
 (refine w0 ?_)
 refine aj (X:=Nat) (λz=>z<=k.length/\∀i,i<z->xe k i)
  (λz=>aF [(0,dN k),(3,iC .i64 (z:Nat))] []) (λz=>k.length-z) 0 ⟨aag _,λi h=>absurd h (abc _)⟩ ?_
 rintro z ⟨h1,h2⟩
 by_cases hz:z<k.length
 ·have c1:=kg k[z].rg
  have c2:=Ln k[z].set (hk.at hz).sz (decide (ck k[z].set)) aA
  have hE:k[z].set≠[]↔¬k[z].set.length=0:=aA
  have hno:¬xe k z->b=false:=λh=>by rw[<-aaB,hb];exact λq=>h (q z hz)
  by_cases q1:gg k[z].rg=true
  ·rw[q1]at c1
   by_cases q2:k[z].set.length=0
   ·have hb0:=hno (λh=>absurd q2 (hE.1 (h hz).2.1))
    subst hb0
    clear hb hno h2 hE q1
    (refine bt c1 c2 ?_;repeat' first|apply aw|refine ah λhc=>?_|((first|apply aH rfl|apply aJ rfl);(focus (try apply ag rfl rfl rfl rfl rfl);((apply bn 5;(focus rfl);first|exact bJ ⟨rfl,rfl,rfl⟩ rfl aS aS rfl rfl rfl rfl|exact bK ⟨rfl,rfl,rfl⟩ rfl aS aS rfl rfl rfl rfl)));refine bt c1 c2 ?_))
    exact dz
   ·by_cases q3:ck k[z].set
    ·rw[aao q3]at c2
     by_cases h0:0<z
     ·obtain⟨q,rfl⟩:∃q,z=q+1:=⟨z-1,ae⟩
      have hqE:((q+1:Nat):Int)-1=(q:Nat):=ae
      have hq:=(h2 q ae) ae
      have hrq:=(cg _).1 q1
      have c3:=kf k[q+1].rg.lo k[q].rg.hi ae
      have hsw:=Ls k[q].rg.hi k[q+1].rg.lo
      have c5:=sn k[q].set k[q+1].set (hk.at ae).sz
      have hiff:xe k (q+1)↔k[q].rg.op=false/\cG k[q].rg.hi k[q+1].rg.lo<=0/\¬(k[q].rg.hi=k[q+1].rg.lo/\k[q].set=k[q+1].set):=
       ⟨λh=>(h hz).2.2.2 ae,λh _=>⟨q1,hE.2 q2,q3,λ_=>h⟩⟩
      clear hq hrq
      have hE2:((k[q+1].set.length:Nat):Int)≠0:=ae
      cases o:k[q].rg.op with
      | true=>
       have hb0:=hno (λh=>by have:=(hiff.1 h).1;rw[o]at this;cases this)
       subst hb0
       clear hb hno h2 hE q1 q3 hiff hsw
       (refine g9 hqE c1 c2 c3 c5 ?_;repeat' first|apply aw|refine ah λhc=>?_|((first|apply aH rfl|apply aJ rfl);(focus (try apply ag rfl rfl rfl rfl rfl);((apply bn 5;(focus rfl);first|exact bJ ⟨rfl,rfl,rfl⟩ rfl aS aS rfl rfl rfl rfl|exact bK ⟨rfl,rfl,rfl⟩ rfl aS aS rfl rfl rfl rfl)));refine g9 hqE c1 c2 c3 c5 ?_))
       all_goals first|(exfalso;simp_all;done)|skip
       exact dz
      | false=>
       by_cases g:cG k[q].rg.hi k[q+1].rg.lo<=0
       ·rw[aap ae]at c3
        by_cases e:k[q].rg.hi=k[q+1].rg.lo
        ·by_cases s:k[q].set=k[q+1].set
         ·rw[aao s]at c5
          have hb0:=hno (λh=>(hiff.1 h).2.2 ⟨e,s⟩)
          subst hb0
          clear hb hno h2 hE q1 q3 hiff s hsw
          (refine g9 hqE c1 c2 c3 c5 ?_;repeat' first|apply aw|refine ah λhc=>?_|((first|apply aH rfl|apply aJ rfl);(focus (try apply ag rfl rfl rfl rfl rfl);((apply bn 5;(focus rfl);first|exact bJ ⟨rfl,rfl,rfl⟩ rfl aS aS rfl rfl rfl rfl|exact bK ⟨rfl,rfl,rfl⟩ rfl aS aS rfl rfl rfl rfl)));refine g9 hqE c1 c2 c3 c5 ?_))
          all_goals first|(exfalso;simp_all;done)|skip
          exact dz
         ·rw[aap s]at c5
          have hok:=hiff.2 ⟨o,g,λh=>s h.2⟩
          clear hb hno hE q1 q3 hiff s hsw
          (refine g9 hqE c1 c2 c3 c5 ?_;repeat' first|apply aw|refine ah λhc=>?_|((first|apply aH rfl|apply aJ rfl);(focus (try apply ag rfl rfl rfl rfl rfl);((apply bn 5;(focus rfl);first|exact bJ ⟨rfl,rfl,rfl⟩ rfl aS aS rfl rfl rfl rfl|exact bK ⟨rfl,rfl,rfl⟩ rfl aS aS rfl rfl rfl rfl)));refine g9 hqE c1 c2 c3 c5 ?_))
          all_goals first|(exfalso;simp_all;done)|skip
          refine⟨q+1+1,⟨ae,ie h2 hok⟩,ae,?_⟩
          exact ab
        ·have hok:=hiff.2 ⟨o,g,λh=>e h.1⟩
         rw[<-iw]at e
         clear hb hno hE q1 q3 hiff c5 hsw
         (refine mM hqE c1 c2 c3 ?_;repeat' first|apply aw|refine ah λhc=>?_|((first|apply aH rfl|apply aJ rfl);(focus (try apply ag rfl rfl rfl rfl rfl);((apply bn 5;(focus rfl);first|exact bJ ⟨rfl,rfl,rfl⟩ rfl aS aS rfl rfl rfl rfl|exact bK ⟨rfl,rfl,rfl⟩ rfl aS aS rfl rfl rfl rfl)));refine mM hqE c1 c2 c3 ?_))
         all_goals first|(exfalso;simp_all;done)|skip
         refine⟨q+1+1,⟨ae,ie h2 hok⟩,ae,?_⟩
         exact ab
       ·have hb0:=hno (λh=>g (hiff.1 h).2.1)
        rw[aao ae]at c3
        subst hb0
        clear hb hno h2 hE q1 q3 hiff hsw
        (refine g9 hqE c1 c2 c3 c5 ?_;repeat' first|apply aw|refine ah λhc=>?_|((first|apply aH rfl|apply aJ rfl);(focus (try apply ag rfl rfl rfl rfl rfl);((apply bn 5;(focus rfl);first|exact bJ ⟨rfl,rfl,rfl⟩ rfl aS aS rfl rfl rfl rfl|exact bK ⟨rfl,rfl,rfl⟩ rfl aS aS rfl rfl rfl rfl)));refine g9 hqE c1 c2 c3 c5 ?_))
        all_goals first|(exfalso;simp_all;done)|skip
        exact dz
     ·have hok:xe k z:=λ_=>⟨q1,hE.2 q2,q3,λh=>absurd h h0⟩
      obtain rfl:z=0:=ae
      clear hb hno hE q1 q3
      (refine bt c1 c2 ?_;repeat' first|apply aw|refine ah λhc=>?_|((first|apply aH rfl|apply aJ rfl);(focus (try apply ag rfl rfl rfl rfl rfl);((apply bn 5;(focus rfl);first|exact bJ ⟨rfl,rfl,rfl⟩ rfl aS aS rfl rfl rfl rfl|exact bK ⟨rfl,rfl,rfl⟩ rfl aS aS rfl rfl rfl rfl)));refine bt c1 c2 ?_))
      refine⟨0+1,⟨ae,ie h2 hok⟩,ae,?_⟩
      exact ab
    ·rw[aap q3]at c2
     have hb0:=hno (λh=>q3 (h hz).2.2.1)
     subst hb0
     clear hb hno h2 hE q1 q3
     (refine bt c1 c2 ?_;repeat' first|apply aw|refine ah λhc=>?_|((first|apply aH rfl|apply aJ rfl);(focus (try apply ag rfl rfl rfl rfl rfl);((apply bn 5;(focus rfl);first|exact bJ ⟨rfl,rfl,rfl⟩ rfl aS aS rfl rfl rfl rfl|exact bK ⟨rfl,rfl,rfl⟩ rfl aS aS rfl rfl rfl rfl)));refine bt c1 c2 ?_))
     exact dz
  ·rw[aaB]at q1
   rw[q1]at c1
   have hb0:=hno (λh=>by have:=(h hz).1;rw[q1]at this;cases this)
   subst hb0
   clear hb hno h2 hE q1
   (refine bt c1 c2 ?_;repeat' first|apply aw|refine ah λhc=>?_|((first|apply aH rfl|apply aJ rfl);(focus (try apply ag rfl rfl rfl rfl rfl);((apply bn 5;(focus rfl);first|exact bJ ⟨rfl,rfl,rfl⟩ rfl aS aS rfl rfl rfl rfl|exact bK ⟨rfl,rfl,rfl⟩ rfl aS aS rfl rfl rfl rfl)));refine bt c1 c2 ?_))
   exact dz
 ·have hb1:b=true:=hb.2 (λi hi=>h2 i ae)
  subst hb1
  clear hb h2
  (refine w0 ?_;refine ah λhc=>?_)
  exact dz
theorem Hj (l m:List Pc)(hl:fe l):Fn prog 26 [dN l,dN m] (dE (decide (l=m))):=by
 have hl0:=hl.1
 refine fi func26 ntmps26 ?_
 (refine w0 ?_;repeat' first|apply aw|refine ah λhc=>?_)
 ·refine dr ?_
  exact aP rfl (by grind)
 have hlm:l.length=m.length:=ae
 refine aj (λk=>k<=l.length/\l.take k=m.take k) (λk=>aF [(0,dN l),(1,dN m),(4,bC false),(5,iC .i64 (k:Nat))] []) (λk=>l.length-k) 0 ⟨aag _,rfl⟩ ?_
 rintro k ⟨hk,hpre⟩
 by_cases hlt:k<l.length
 ·have hltm:k<m.length:=ae
  have c1:=sn l[k].set m[k].set (hl.at hlt).sz
  have hEo:=O3 l[k].rg m[k].rg
  by_cases h1:l[k].rg=m[k].rg
  ·rw[(sc _ _).2 h1]at hEo
   by_cases h2:l[k].set=m[k].set
   ·rw[aao h2]at c1
    have hlm1:l[k]=m[k]:=by cases hx:l[k];simp_all
    clear h2 h1
    (refine au c1 ?_;repeat' first|apply aw|refine ah λhc=>?_|((first|apply aH rfl|apply aJ rfl);(focus (try apply ag rfl rfl rfl rfl rfl);first|(exact ga (us:=encRg l[k].rg) (vs:=encRg m[k].rg) ⟨rfl,rfl,rfl⟩ rfl rfl rfl (by first|exact .inl ⟨rfl,rfl⟩|exact .inr ⟨rfl,rfl⟩) Xm rfl hEo)|((apply bn 5;(focus rfl);first|exact bJ ⟨rfl,rfl,rfl⟩ rfl aS aS rfl rfl rfl rfl|exact bK ⟨rfl,rfl,rfl⟩ rfl aS aS rfl rfl rfl rfl)));refine au c1 ?_))
    refine⟨k+1,⟨ae,?_⟩,ae,?_⟩
    ·rw[bp l k hlt,bp m k hltm,hpre,hlm1]
    ·exact ab
   ·rw[aap h2]at c1
    have hd:¬l=m:=λh=>h2 (by subst h;rfl)
    rw[aap hd]
    clear h1 h2 hd
    (refine au c1 ?_;repeat' first|apply aw|refine ah λhc=>?_|((first|apply aH rfl|apply aJ rfl);(focus (try apply ag rfl rfl rfl rfl rfl);first|(exact ga (us:=encRg l[k].rg) (vs:=encRg m[k].rg) ⟨rfl,rfl,rfl⟩ rfl rfl rfl (by first|exact .inl ⟨rfl,rfl⟩|exact .inr ⟨rfl,rfl⟩) Xm rfl hEo)|((apply bn 5;(focus rfl);first|exact bJ ⟨rfl,rfl,rfl⟩ rfl aS aS rfl rfl rfl rfl|exact bK ⟨rfl,rfl,rfl⟩ rfl aS aS rfl rfl rfl rfl)));refine au c1 ?_))
    exact dz
  ·have hd:¬l=m:=λh=>h1 (by subst h;rfl)
   rw[aap hd]
   have he:YF l[k].rg m[k].rg=false:=by rw[<-aaB,sc];exact h1
   rw[he]at hEo
   clear hd h1 he
   (refine au c1 ?_;repeat' first|apply aw|refine ah λhc=>?_|((first|apply aH rfl|apply aJ rfl);(focus (try apply ag rfl rfl rfl rfl rfl);first|(exact ga (us:=encRg l[k].rg) (vs:=encRg m[k].rg) ⟨rfl,rfl,rfl⟩ rfl rfl rfl (by first|exact .inl ⟨rfl,rfl⟩|exact .inr ⟨rfl,rfl⟩) Xm rfl hEo)|((apply bn 5;(focus rfl);first|exact bJ ⟨rfl,rfl,rfl⟩ rfl aS aS rfl rfl rfl rfl|exact bK ⟨rfl,rfl,rfl⟩ rfl aS aS rfl rfl rfl rfl)));refine au c1 ?_))
   exact dz
 ·rw[aaj ae,aaj ae]at hpre
  rw[aao hpre]
  clear hpre
  (refine w0 ?_;refine ah λhc=>?_)
  exact dz
def vx (p:Pc):Bool:=decide (p.rg.lo.size>40)||decide (p.rg.hi.size>40)||jn p.set 16
def gL (l:List Pc)(most:Int):Bool:=decide ((l.length:Int)>most)||l.any vx
theorem xt (l:List Pc)(most:Int)(hl:most<=1000000000000):Fn prog 19 [dN l,iC .i64 most] (dE (gL l most)):=by
 refine fi func19 ntmps19 ?_
 (refine w0 ?_;repeat' first|apply aw|refine ah λhc=>?_)
 ·refine dr ?_
  exact aP rfl (by grind[gL])
 refine aj (λk=>k<=l.length/\(l.take k).any vx=false) (λk=>aF [(0,dN l),(1,iC .i64 most),(4,bC false),(5,iC .i64 (k:Nat))] []) (λk=>l.length-k) 0 ⟨aag _,aA⟩ ?_
 rintro k ⟨hk,hpre⟩
 by_cases hlt:k<l.length
 ·have hsn:(l.take (k+1)).any vx=((l.take k).any vx||vx l[k]):=by rw[bp l k hlt,List.any_append];simp
  have hyes:vx l[k]=true->gL l most=true:=λhq=>by grind[gL]
  have c1:=Po l[k].set 16 bP
  by_cases q1:l[k].rg.lo.size>40
  ·have hd:=hyes (by simp[vx,q1])
   rw[hd]
   clear hd hsn hpre hyes
   (refine au c1 ?_;repeat' first|apply aw|refine ah λhc=>?_)
   exact dz
  ·by_cases q2:l[k].rg.hi.size>40
   ·have hd:=hyes (by simp[vx,q2])
    rw[hd]
    clear hd hsn hpre hyes
    (refine au c1 ?_;repeat' first|apply aw|refine ah λhc=>?_)
    exact dz
   ·cases q3:jn l[k].set 16 with
    | true=>
     have hd:=hyes (by simp[vx,q3])
     rw[hd]
     rw[q3]at c1
     clear hd hsn hpre hyes
     (refine au c1 ?_;repeat' first|apply aw|refine ah λhc=>?_)
     exact dz
    | false=>
     have hf:vx l[k]=false:=by simp[vx,q1,q2,q3]
     rw[hpre,hf]at hsn
     rw[q3]at c1
     clear hpre hyes hf
     (refine au c1 ?_;repeat' first|apply aw|refine ah λhc=>?_)
     refine⟨k+1,⟨ae,hsn⟩,ae,?_⟩
     exact ab
 ·have e:l.take k=l:=aaj ae
  rw[e]at hpre
  have hd:gL l most=false:=by grind[gL]
  rw[hd]
  clear hd hpre e
  (refine w0 ?_;refine ah λhc=>?_)
  exact dz
theorem rc {l:List Pc}{most:Int}(h:gL l most=false):(l.length:Int)<=most/\∀p∈l,p.rg.lo.size<=40/\p.rg.hi.size<=40/\jn p.set 16=false:=by grind[gL,vx]
theorem Am:∀(l:List Rn)(was:Int),0<=was->(∀r∈l,jN r=true)->(jE was l).length<=20*l.length:=by
 intro l
 induction l<;>grind[jE,cK,aa1,bv]
theorem Un {k:Kn}(h1:1<=k.rep)(h2:k.rep<=16)(h3:ef k.runs)(hf:k.runs.length<=4096):(BX k).length<=90000:=by
 have q1:=bv k.rep ae
 have q2:=bv (k.runs.length:Int) ae
 have q3:=Am k.runs 0 ae (λr hr=>by
  obtain⟨i,hi,rfl⟩:=List.getElem_of_mem hr
  exact(h3 i hi hi).1)
 grind[BX]
theorem qe {α:Type}{B:α->List UInt8}(c:Nat):∀l:List α,(∀x∈l,(B x).length<=c)->(l.flatMap B).length<=c*l.length:=by
 intro l
 induction l<;>grind[Nat.mul_add]
theorem Et {s:List Kn}(h:ck s)(hf:vv s):(kK s).length<=1500000:=by
 have h1:=qe (B:=BX) 90000 s (λk hk=>by
  have hfk:=hf k hk
  grind[List.getElem_of_mem,ic,Un])
 have h2:=mT h
 have h3:=bv (s.length:Int) ae
 grind[kK]
theorem B3 {p:Pc}(h1:gg p.rg=true)(h2:ck p.set)(h3:vv p.set):(xf p).length<=1500040:=by
 have q1:=nz h1
 have q2:=Et h2 h3
 grind[xf]
theorem qf {k:List Pc}(h:aY k)(hi:i<k.length):gg k[i].rg=true/\ck k[i].set:=let⟨a,_,c,_⟩:=h i hi hi;⟨a,c⟩
def sq (k:List Pc):Prop:=∀p∈k,vv p.set
theorem Uo (l:List UInt8)(e:Int):dJ (cR gP 16 l e).1:=by
 have h1:=qb (st:=gP) (most:=16) ae l e
 have h2:=(Em l e).2
 have:∀l:List Kn,(∀k∈l,k.runs.length<=4096)->(l.flatMap Kn.runs).length<=4096*l.length:=by
  intro l
  induction l<;>grind
 have:=this _ h2
 exact⟨ae,ae⟩
theorem Lu (l:List UInt8)(e:Int):dJ (lJ l e).1.set/\vv (lJ l e).1.set:=⟨Uo _ _,(Em _ _).2⟩
theorem xu (l:List UInt8)(e:Int):fe (cR lJ 4096 l e).1/\sq (cR lJ 4096 l e).1:=by
 have h1:=qb (st:=lJ) (most:=4096) ae l e
 have h2:=Ai (p:=λp:Pc=>dJ p.set/\vv p.set) Lu 4096 l e
 exact⟨⟨ae,λp hp=>(h2 p hp).1⟩,λp hp=>(h2 p hp).2⟩
theorem JG (k:List Pc)(hk:fe k)(hf:sq k)(hl:k.length<=4096)(b:Bool)(hb:b=true↔aY k):Fn prog 99 [dN k] (.tup2 (gN (if b then eu k else [])) (eA (if b then 0 else 2))):=by
 have h0:=iM k hk b hb
 cases b with
 | false=>
  show Fn _ _ _ (.tup2 (gN []) (eA 2))
  clear hb
  refine fi func99 ntmps99 ?_
  (refine au h0 ?_;repeat' first|apply aw|refine ah λhc=>?_)
  all_goals refine dV ?_ ?_
  all_goals first|exact dG rfl|exact aq rfl rfl
 | true=>
  show Fn _ _ _ (.tup2 (gN (eu k)) (eA 0))
  have hok:=hb.1 rfl
  clear hb
  have hp0:=uj [] [(k.length:Int)] aA (li ae ae)
  have hn0:=bv (k.length:Int) ae
  refine fi func99 ntmps99 ?_
  (refine bt h0 hp0 ?_;repeat' first|apply aw|refine ah λhc=>?_)
  refine bw (aU 18 600) ?_
  refine aj (X:=Nat×List UInt8) (λx=>x.1<=k.length/\x.2.length<=10+1500040*x.1/\x.2++(k.drop x.1).flatMap xf=eu k)
   (λx=>aF [(4,.row 600 0),(19,dN k),(20,iC .i64 (k.length:Nat)),(21,iC .i64 (x.1:Nat))] [(600,.row 5 1 (x.2.map byteP))]) (λx=>k.length-x.1) (0,[(k.length:Int)].flatMap aO) ⟨aag _,bD,by simp[eu]⟩ ?_
  clear h0 hp0
  rintro⟨i,acc⟩ ⟨h1,h2,h3⟩
  simp only at h1 h2 h3 ⊢
  by_cases hlt:i<k.length
  ·obtain⟨hr,hs⟩:=qf hok hlt
   have hfi:=hf _ (aar hlt)
   have hbl:=B3 hr hs hfi
   have hrl:=nz hr
   have hsz:=(cg _).1 hr
   have t1:=cM k[i].rg.lo ae
   have t2:=cM k[i].rg.hi ae
   have n0:=mP (n:=0) ae ae
   rw[List.drop_eq_getElem_cons hlt,List.flatMap_cons]at h3
   have c0:=Xs k[i].set (hk.at hlt).1 hfi
   have c1:=fx acc [k[i].rg.lo] bD
   clear hok hk hf
   by_cases ho:k[i].rg.op=true
   ·have e:xf k[i]=bi k[i].rg.lo++aO 1++kK k[i].set:=by grind[xf,ue]
    have n1:=mP (n:=1) ae ae
    rw[e]at h3 hbl
    have c2:=uj (acc++[k[i].rg.lo].flatMap bi) [1] bD (li ae ae)
    have c4:=Pq (acc++[k[i].rg.lo].flatMap bi++[(1:Int)].flatMap aO) k[i].set bD hs hfi
    clear hs hfi hr
    (refine u0 c0 c1 c2 c4 ?_;repeat' first|apply aw|refine ah λhc=>?_)
    all_goals first|(exfalso;simp_all;done)|skip
    refine⟨(i+1,acc++[k[i].rg.lo].flatMap bi++[(1:Int)].flatMap aO++kK k[i].set),⟨aL,by simp at hbl ⊢;omega,by rw[<-h3];simp⟩,aL,az (aU 52 600) ?_⟩
    exact ab
   ·have e:xf k[i]=bi k[i].rg.lo++(aO 0++bi k[i].rg.hi)++kK k[i].set:=by grind[xf,ue]
    rw[e]at h3 hbl
    rw[aaB]at ho
    have c2:=uj (acc++[k[i].rg.lo].flatMap bi) [0] bD (li ae ae)
    have c3:=fx (acc++[k[i].rg.lo].flatMap bi++[(0:Int)].flatMap aO) [k[i].rg.hi] bD
    have c4:=Pq (acc++[k[i].rg.lo].flatMap bi++[(0:Int)].flatMap aO++[k[i].rg.hi].flatMap bi) k[i].set bD hs hfi
    clear hs hfi hr
    (refine zT c0 c1 c2 c3 c4 ?_;repeat' first|apply aw|refine ah λhc=>?_)
    all_goals first|(exfalso;simp_all;done)|skip
    refine⟨(i+1,acc++[k[i].rg.lo].flatMap bi++[(0:Int)].flatMap aO++[k[i].rg.hi].flatMap bi++kK k[i].set),⟨aL,by simp at hbl ⊢;omega,by rw[<-h3];simp⟩,aL,az (aU 52 600) ?_⟩
    exact ab
  ·rw[aay ae,aaZ,aan]at h3
   (refine w0 ?_;refine ah λhc=>?_)
   refine dV ?_ ?_
   ·exact cJ rfl rfl rfl h3
   ·exact aq rfl rfl
theorem Eu (k:List Pc)(hf:sq k)(hl:k.length<=4096)(hok:aY k):Fn prog 164 [dN k] (gN (eu k)):=by
 have hp0:=iZ (k.length:Int) (by unfold bF;omega)
 have hn0:=bv (k.length:Int) ae
 refine fi func164 ntmps164 ?_
 (refine au hp0 ?_)
 refine bw (aU 8 600) ?_
 refine aj (X:=Nat×List UInt8) (λx=>x.1<=k.length/\x.2.length<=10+1500040*x.1/\x.2++(k.drop x.1).flatMap xf=eu k)
  (λx=>aF [(0,dN k),(3,.row 600 0),(4,iC .i64 (x.1:Nat))] [(600,.row 5 1 (x.2.map byteP))]) (λx=>k.length-x.1) (0,aO (k.length:Int)) ⟨aag _,aL,by simp[eu]⟩ ?_
 clear hp0
 rintro⟨i,acc⟩ ⟨h1,h2,h3⟩
 simp only at h1 h2 h3 ⊢
 by_cases hlt:i<k.length
 ·obtain⟨hr,hs⟩:=qf hok hlt
  have hfi:=hf _ (aar hlt)
  have hbl:=B3 hr hs hfi
  have hrl:=nz hr
  have hsz:=(cg _).1 hr
  have t1:=cM k[i].rg.lo ae
  have t2:=cM k[i].rg.hi ae
  have n0:=mP (n:=0) ae ae
  have n1:=mP (n:=1) ae ae
  rw[List.drop_eq_getElem_cons hlt,List.flatMap_cons]at h3
  have c1:=jj k[i].rg.lo ae
  have c2:=jj k[i].rg.hi ae
  have c4:=Ul k[i].set hs hfi
  have hsl:=Et hs hfi
  clear hok hf hs hfi hr
  by_cases ho:k[i].rg.op=true
  ·have e:xf k[i]=bi k[i].rg.lo++aO 1++kK k[i].set:=by grind[xf,ue]
   rw[e]at h3 hbl
   (refine kd c4 c1 c2 ?_;repeat' first|apply aw|refine ah λhc=>?_|((first|apply aH rfl|apply aJ rfl);(focus (try apply ag rfl rfl rfl rfl rfl);((apply bn 5;(focus rfl);first|exact bJ ⟨rfl,rfl,rfl⟩ rfl aS aS rfl rfl rfl rfl|exact bK ⟨rfl,rfl,rfl⟩ rfl aS aS rfl rfl rfl rfl)));refine kd c4 c1 c2 ?_))
   all_goals first|(exfalso;simp_all;done)|skip
   refine⟨(i+1,acc++bi k[i].rg.lo++aO 1++kK k[i].set),⟨aL,by simp at hbl ⊢;omega,by rw[<-h3];simp⟩,aL,?_⟩
   (refine kA ?_ ?_;(focus ((repeat (first|exact gp.nil|(refine gp.cons ?_ ?_;rotate_left)));(all_goals try (first|rfl|(refine Gj ?_;first|omega|(simp;done)|(simp;omega))|(refine qw ?_;first|(simp;done)|(simp[*];done))))));(focus ((repeat (first|exact gq.nil|(refine gq.cons ?_ ?_;rotate_left)));(all_goals try (first|rfl|(refine nq ?_;(rw[List.map_append]<;>rfl);done)|(refine kB ?_;(rw[List.map_append]<;>rfl);done))))))
   show Blk.row _ _ (((acc.map byteP++_)++[[ai (.int .u8 1)]])++_)=_
   rw[<-G4,<-List.map_append,<-List.map_append,<-List.map_append]
  ·have e:xf k[i]=bi k[i].rg.lo++(aO 0++bi k[i].rg.hi)++kK k[i].set:=by grind[xf,ue]
   rw[e]at h3 hbl
   rw[aaB]at ho
   (refine kd c4 c1 c2 ?_;repeat' first|apply aw|refine ah λhc=>?_|((first|apply aH rfl|apply aJ rfl);(focus (try apply ag rfl rfl rfl rfl rfl);((apply bn 5;(focus rfl);first|exact bJ ⟨rfl,rfl,rfl⟩ rfl aS aS rfl rfl rfl rfl|exact bK ⟨rfl,rfl,rfl⟩ rfl aS aS rfl rfl rfl rfl)));refine kd c4 c1 c2 ?_))
   all_goals first|(exfalso;simp_all;done)|skip
   refine⟨(i+1,acc++bi k[i].rg.lo++aO 0++bi k[i].rg.hi++kK k[i].set),⟨aL,by simp at hbl ⊢;omega,by rw[<-h3];simp⟩,aL,?_⟩
   (refine kA ?_ ?_;(focus ((repeat (first|exact gp.nil|(refine gp.cons ?_ ?_;rotate_left)));(all_goals try (first|rfl|(refine Gj ?_;first|omega|(simp;done)|(simp;omega))|(refine qw ?_;first|(simp;done)|(simp[*];done))))));(focus ((repeat (first|exact gq.nil|(refine gq.cons ?_ ?_;rotate_left)));(all_goals try (first|rfl|(refine nq ?_;(rw[List.map_append]<;>rfl);done)|(refine kB ?_;(rw[List.map_append]<;>rfl);done))))))
   show Blk.row _ _ ((((acc.map byteP++_)++[[ai (.int .u8 0)]])++_)++_)=_
   rw[<-G3,<-List.map_append,<-List.map_append,<-List.map_append,<-List.map_append]
 ·rw[aay ae,aaZ,aan]at h3
  (refine w0 ?_;refine ah λhc=>?_)
  refine dr ?_
  exact cJ rfl rfl rfl h3
theorem Pv (l:List UInt8)(e:Int):bZ prog 201 [.aggK mQ .aggN] [(1000,cw l e)] (pcC (lJ l e).1) [(1000,cw (lJ l e).2.1 (lJ l e).2.2)]:=by
 dsimp only [lJ,kz]
 have h1:=nA l e 17
 generalize bm 17 l e=t at *
 have h2:=ug t.2.1 t.2.2
 generalize af 0 1 t.2.1 t.2.2=o at *
 by_cases ho:(o.1==1)=true
 ·rw[aae ho]
  rw[ho]at h2
  dsimp only
  have h4:=(JD o.2.1 o.2.2).frz3
  generalize cR gP 16 o.2.1 o.2.2=s at *
  refine cp func201 ntmps201 ?_
  (have kr1:=h1;have kr2:=h2;have km1:=(show fK [(1000,1000)] _ _ _ _ _ _ from h4);refine w0 ?_;(refine ah λhc=>?_);all_goals clear km1 kr2 kr1)
  refine kC ?_
  exact C0
 ·rw[aab ho]
  rw[show(o.1==1)=false by simpa using ho]at h2
  dsimp only
  have h3:=nA o.2.1 o.2.2 17
  generalize bm 17 o.2.1 o.2.2=h at *
  have h4:=(JD h.2.1 h.2.2).frz3
  generalize cR gP 16 h.2.1 h.2.2=s at *
  refine cp func201 ntmps201 ?_
  (refine D0 h1 h2 h3 (im h4) ?_;refine ah λhc=>?_)
  refine kC ?_
  exact C0
theorem vd (b:List UInt8)(hb:b.length<=1000000000):Fn prog 116 [dw b] (.tup2 (.own 112 4 ((dI b).1.map pcP)) (eA (dI b).2)):=by
 have hgood:=(xu b 0).1
 generalize hQ:dI b=Q at *
 dsimp only [dI,cR]at hQ hgood
 have h1:=dq b 0 0 4096
 have hn:=dh (most:=4096) ae b 0
 generalize af 0 4096 b 0=s at *
 obtain⟨n,l0,e0'⟩:=s
 simp only at h1 hn hQ hgood
 obtain⟨hn0,hn1⟩:=hn
 obtain⟨n,rfl⟩:=Int.eq_ofNat_of_zero_le hn0
 rw[Int.toNat_natCast]at hQ hgood
 generalize hR:fY lJ n [] l0 e0'=R at *
 refine fi func116 ntmps116 ?_
 (refine DZ h1 (mR b hb) ?_)
 refine bw (bS 6 600 112 4 rfl rfl) ?_
 refine aj (X:=Nat×List Pc×List UInt8×Int) (λx=>x.1<=n/\x.2.1.length<=x.1/\fY lJ (n-x.1) x.2.1 x.2.2.1 x.2.2.2=R)
  (λx=>aF [(4,.ptr 4 0 0),(5,iC .i64 (n:Nat)),(6,.row 600 0),(7,iC .i64 (x.1:Nat))] [(4,.box 271 [.ptr 10 0 0]),(10,cw x.2.2.1 x.2.2.2),(600,.row 112 4 (x.2.1.map pcP))]) (λx=>n-x.1) (0,[],l0,e0') ⟨aag _,aaf _,hR⟩ ?_
 clear h1 hR
 rintro⟨i,acc,l,e⟩ ⟨hi,hacc,hR⟩
 simp only at hi hacc hR ⊢
 have hE:=nW l e
 by_cases hst:i<n/\e=0
 ·obtain⟨hlt,he⟩:=hst
  subst he
  obtain⟨m,hm⟩:∃m,n-i=m+1:=⟨n-i-1,ae⟩
  rw[hm,fY,aab aA]at hR
  have h2:=Pv l 0
  generalize lJ l 0=q at *
  clear hQ hgood
  (refine wM hE (gn [(1000,10)] h2) ?_;repeat' first|apply aw|refine ah λhc=>?_)
  refine⟨(i+1,acc++[q.1],q.2.1,q.2.2),⟨aL,bD,by grind⟩,aL,?_⟩
  exact ab
 ·have hR2:R=(acc,l,e):=by
   rw[<-hR]
   by_cases he:e=0
   ·rw[show n-i=0 by omega];rfl
   ·cases n-i<;>grind[fY]
  subst hR2
  simp only at hQ hgood
  have h2:=Ad l e
  have h3:=iM acc hgood (decide (aY acc)) aA
  clear hgood hR
  by_cases hlt:i<n
  ·have he:e≠0:=λq=>hst ⟨hlt,q⟩
   have hen:dg l e≠0:=by grind[dg]
   rw[ki,aae hen]at hQ
   subst hQ
   clear hst
   (refine DY h3 hE h2 ?_;repeat' first|apply aw|refine ah λhc=>?_)
   exact dV (dG rfl) (aq rfl rfl)
  ·clear hst
   (refine DY h3 hE h2 ?_;repeat' first|apply aw|refine ah λhc=>?_)
   ·rw[ki,aae (by assumption)]at hQ
    subst hQ
    exact dV (dG rfl) (aq rfl rfl)
   ·rw[ki,aab (by simp[*]),aab (by simp_all)]at hQ
    subst hQ
    exact dV (dG rfl) (aq rfl rfl)
   ·rw[ki,aab (by simp[*]),aae (by simp_all)]at hQ
    subst hQ
    exact dV (f9 rfl rfl rfl) (aq rfl rfl)
theorem sr (b:List UInt8)(hb:b.length<=1000000000):Fn prog 91 [.per (aK b)] (.tup2 (.own 112 4 ((dI b).1.map pcP)) (eA (dI b).2)):=by
 have hgood:=(xu b 0).1
 have hs:b <:+ b:=aa5 b
 have hb':b.length<=1000000000000:=ae
 generalize hQ:dI b=Q at *
 dsimp only [dI,cR]at hQ hgood
 have h1:=bu b b 0 hs hb' 0 4096
 have hn:=dh (most:=4096) ae b 0
 replace hs:=(aC 0 4096 b 0).trans hs
 generalize af 0 4096 b 0=s at *
 obtain⟨n,l0,e0'⟩:=s
 simp only at h1 hn hs hQ hgood
 obtain⟨hn0,hn1⟩:=hn
 obtain⟨n,rfl⟩:=Int.eq_ofNat_of_zero_le hn0
 rw[Int.toNat_natCast]at hQ hgood
 generalize hR:fY lJ n [] l0 e0'=R at *
 have e0:((b.length-b.length:Nat):Int)=0:=ae
 unfold d0 at h1
 rw[e0]at h1
 refine fi func91 ntmps91 ?_
 (refine dK h1 ?_)
 refine bw (bS 6 600 112 4 rfl rfl) ?_
 refine aj (X:=Nat×List Pc×List UInt8×Int) (λx=>x.1<=n/\x.2.1.length<=x.1/\x.2.2.1 <:+ b/\fY lJ (n-x.1) x.2.1 x.2.2.1 x.2.2.2=R)
  (λx=>aF [(4,.ptr 11 0 0),(5,iC .i64 (n:Nat)),(6,.row 600 0),(7,iC .i64 (x.1:Nat))] [(11,d0 b x.2.2.1 x.2.2.2),(600,.row 112 4 (x.2.1.map pcP))]) (λx=>n-x.1) (0,[],l0,e0') ⟨aag _,aaf _,hs,hR⟩ ?_
 clear h1 hR hs
 rintro⟨i,acc,l,e⟩ ⟨hi,hacc,hs,hR⟩
 simp only at hi hacc hs hR ⊢
 by_cases hst:i<n/\e=0
 ·obtain⟨hlt,he⟩:=hst
  subst he
  obtain⟨m,hm⟩:∃m,n-i=m+1:=⟨n-i-1,ae⟩
  rw[hm,fY,aab aA]at hR
  clear hQ hgood
  dsimp only [lJ,kz]at hR
  have h2:=gK b l 0 hs hb' 17
  replace hs:=(bL 17 l 0).trans hs
  generalize bm 17 l 0=t at *
  have h3:=bu b t.2.1 t.2.2 hs hb' 0 1
  replace hs:=(aC 0 1 t.2.1 t.2.2).trans hs
  generalize af 0 1 t.2.1 t.2.2=o at *
  by_cases ho:o.1=1
  ·rw[aae (by simp[ho])]at hR
   rw[ho]at h3
   dsimp only at hR
   have h5:=(xi b o.2.1 o.2.2 hs hb').frz3
   replace hs:=(Ag El 16 o.2.1 o.2.2).trans hs
   generalize cR gP 16 o.2.1 o.2.2=s at *
   (refine dQ h2 h3 h5 ?_;repeat' first|apply aw|refine ah λhc=>?_)
   refine⟨(i+1,acc++[⟨⟨ba t.1,ByteArray.mk #[],true⟩,s.1⟩],s.2.1,s.2.2),⟨aL,bD,hs,by simp only;rw[show n-(i+1)=m by omega];exact hR⟩,aL,?_⟩
   exact ab
  ·rw[aab (by simp[ho])]at hR
   dsimp only at hR
   have h4:=gK b o.2.1 o.2.2 hs hb' 17
   replace hs:=(bL 17 o.2.1 o.2.2).trans hs
   generalize bm 17 o.2.1 o.2.2=h at *
   have h5:=(xi b h.2.1 h.2.2 hs hb').frz3
   replace hs:=(Ag El 16 h.2.1 h.2.2).trans hs
   generalize cR gP 16 h.2.1 h.2.2=s at *
   (refine nU h2 h3 h4 h5 ?_;repeat' first|apply aw|refine ah λhc=>?_)
   refine⟨(i+1,acc++[⟨⟨ba t.1,ba h.1,false⟩,s.1⟩],s.2.1,s.2.2),⟨aL,bD,hs,by simp only;rw[show n-(i+1)=m by omega];exact hR⟩,aL,?_⟩
   (refine kA ?_ ?_;(focus ((repeat (first|exact gp.nil|(refine gp.cons ?_ ?_;rotate_left)));(all_goals try (first|rfl|(refine Gj ?_;first|omega|(simp;done)|(simp;omega))|(refine qw ?_;first|(simp;done)|(simp[*];done))))));(focus ((repeat (first|exact gq.nil|(refine gq.cons ?_ ?_;rotate_left)));(all_goals try (first|rfl|(refine nq ?_;(rw[List.map_append]<;>rfl);done)|(refine kB ?_;(rw[List.map_append]<;>rfl);done))))))
   show Blk.row _ _ (acc.map pcP++[[_,_,ai (.bool (o.1==1)),_]])=_
   rw[show(o.1==1)=false by simpa using ho,List.map_append]
   rfl
 ·have hR2:R=(acc,l,e):=by
   rw[<-hR]
   by_cases he:e=0
   ·rw[show n-i=0 by omega];rfl
   ·cases n-i<;>grind[fY]
  subst hR2
  simp only at hQ hgood
  have hD:=lj b l e hs
  have h3:=lV acc hgood (decide (aY acc)) aA
  clear hgood hR
  by_cases hlt:i<n
  ·have he:e≠0:=λq=>hst ⟨hlt,q⟩
   have hen:dg l e≠0:=by grind[dg]
   rw[ki,aae hen]at hQ
   subst hQ
   clear hst
   (refine de h3 hD ?_;repeat' first|apply aw|refine ah λhc=>?_)
   exact dV (dG rfl) (aq rfl rfl)
  ·clear hst
   (refine de h3 hD ?_;repeat' first|apply aw|refine ah λhc=>?_)
   ·rw[ki,aae (by assumption)]at hQ
    subst hQ
    exact dV (dG rfl) (aq rfl rfl)
   ·rw[ki,aab (by simp[*]),aab (by simp_all)]at hQ
    subst hQ
    exact dV (dG rfl) (aq rfl rfl)
   ·rw[ki,aab (by simp[*]),aae (by simp_all)]at hQ
    subst hQ
    exact dV (f9 rfl rfl rfl) (aq rfl rfl)
def Uq (A:PV)(h:qv A):OV:=⟨λ_ N w v=>A.p N w v,λ_ _ hs _ hN hN' hp=>A.mono hs hN hN' hp,λhp=>h _ _ _ hp⟩
def Lv (e:Nat)(cs:List OV):OV where
 p F N w v:=∃(b:Nat)(vs:Array Value)(Fs:Nat->BP),v=.pointer (some ⟨b,0,none⟩)/\F b/\w.heap[b]?=some (.cells vs e (0,0))/\vs.size=cs.length/\(∀j x,Fs j x->F x/\x≠b)/\(∀i j x,i≠j->Fs i x->¬Fs j x) /\
  ∀(j:Nat)(A:OV),cs[j]?=some A->∃y,vs[j]?=some y/\A.p (Fs j) N w y
 mono:=by
  rintro F F' N N' w w' v h1 h2 h3 h4 h5 h6 ⟨b,vs,Fs,rfl,hb,hh,hs,hF,hD,hc⟩
  refine⟨b,vs,Fs,rfl,h1 b hb,by rw[h4 b (h2 b hb) hb];exact hh,hs,λj x hx=>⟨h1 x (hF j x hx).1,(hF j x hx).2⟩,hD,λj A hj=>?_⟩
  obtain⟨y,q1,q2⟩:=hc j A hj
  exact⟨y,q1,A.mono (λ_ h=>h) (λx hx=>h2 x (hF j x hx).1) h3 (λx hx hf=>h4 x hx (hF j x hf).1) h5 h6 q2⟩
 one:=by
  rintro F N w v ⟨b,vs,Fs,rfl,_⟩
  exact⟨rfl,rfl⟩
def nX (O:OV)(A:PV):Prop:=∀{F N N':BP} {w:World} {v:Value},O.p F N w v->(∀b,F b->b<w.heap.size/\¬N' b)->(∀b,N' b->N b)->A.p N' w v
theorem Lw {h:qv A}:nX (Uq A h) A:=λhp _ hN=>A.mono (aaf _) (λ_ _ _=>rfl) (λb _ hb=>hN b hb) hp
theorem Lx {cs:List OV}(hl:As.length=cs.length)(h:∀(j:Nat)(O:OV)(A:PV),cs[j]?=some O->As[j]?=some A->nX O A):nX (Lv e cs) (em As):=by
 rintro F N N' w v ⟨b,vs,Fs,rfl,hb,hh,hs,hF,hD,hc⟩ hF' hN
 refine⟨b,0,rfl,(hF' b hb).1,(hF' b hb).2,λj A hj=>?_⟩
 have hlt:j<cs.length:=by
  rw[<-hl]
  grind
 obtain⟨y,q1,q2⟩:=hc j cs[j] (aaa hlt)
 refine⟨y,by rw[aaJ,ei hh];exact q1,(cs[j].one q2).1,h j _ A (aaa hlt) hj q2 (λx hx=>hF' x (hF j x hx).1) hN⟩
inductive uk:List OV->List PV->Prop
 | nil:uk [] []
 | cons {O:OV} {A:PV} {l:List OV} {l':List PV} (h:nX O A) (k:uk l l'):uk (O::l) (A::l')
theorem uk.get {l:List OV}{l':List PV}(h:uk l l'):l'.length=l.length/\∀(j:Nat)(O:OV)(A:PV),l[j]?=some O->l'[j]?=some A->nX O A:=by induction h<;>grind
theorem Hk {cs:List OV}(h:uk cs As):nX (Lv e cs) (em As):=Lx h.get.1 h.get.2
inductive UC where
 | p (A:PV) (h:qv A)
 | o (id:Nat) (O:OV)
def UC.ov:UC->OV
 | .p A h=>Uq A h
 | .o _ O=>O
def UC.cell (vr:Nat->Nat):UC->Cnt
 | .p A _=>.per A
 | .o id _=>.row id (vr id)
def Pw:List UC->Nat->Option OV
 | [],_=>none
 | .p _ _::l,i=>Pw l i
 | .o id O::l,i=>bif Nat.beq i id then some O else Pw l i
def gI:List UC->List Nat
 | []=>[]
 | .p _ _::l=>gI l
 | .o id _::l=>id::gI l
def pd (i:Nat):List Nat->Bool
 | []=>false
 | j::l=>bif Nat.beq i j then true else pd i l
def Wq:List Nat->Bool
 | []=>true
 | i::l=>(!pd i l)&&Wq l
def Y3:Blk->Bool
 | .none=>true
 | _=>false
theorem eB {l:List Nat}:pd i l=true↔i∈l:=by induction l<;>grind[pd,bc]
theorem Py {us:List UC}:i∈gI us↔∃O,Pw us i=some O:=by
 induction us with
 | nil=>simp[gI,Pw]
 | cons u us ih=>
  cases u with
  | p A h=>grind[gI,Pw]
  | o id O=>
   simp only[gI,Pw,aaU]
   cases hb:Nat.beq i id<;>grind[bc]
theorem xw {us:List UC}(h:us[j]?=some (.o id O)):id∈gI us:=by
 induction us generalizing j with
 | nil=>simp at h
 | cons u us ih=>
  cases j with
  | zero=>grind[gI]
  | succ j=>
   have:=ih (by simpa using h)
   cases u<;>simp[gI,this]
theorem JH {us:List UC}(hd:Wq (gI us)=true){j':Nat}{O':OV}(h:us[j]?=some (.o id O))(h':us[j']?=some (.o id O')):j=j':=by
 induction us generalizing j j' with
 | nil=>simp at h
 | cons u us ih=>
  have hd':Wq (gI us)=true:=by cases u<;>grind[gI,Wq]
  grind[xw,gI,Wq,eB]
theorem Ur {us:List UC}(h:Pw us id=some O):∃j:Nat,us[j]?=some (UC.o id O):=by
 induction us with
 | nil=>simp[Pw]at h
 | cons u us ih=>
  cases u with
  | p A h'=>obtain⟨j,hj⟩:=ih h;exact⟨j+1,by simpa using hj⟩
  | o i O'=>
   unfold Pw at h
   cases hb:Nat.beq id i with
   | true=>rw[hb]at h;cases h;exact⟨0,by rw[bc.1 hb];rfl⟩
   | false=>rw[hb]at h;obtain⟨j,hj⟩:=ih h;exact⟨j+1,by simpa using hj⟩
section
variable {P:Program} {n:Nat} {S:St} {C:Ctx} {g g':Gh} {w w':World} {I:Nat->Prop}
theorem su {vr vr':Nat->Nat}{A:Cnt}{B:Nat->Cnt}(hst:oi C I vr vr' g g' w w)(hA:∀v,v=g.rh id->crep C vr' g' w v A)(hB:∀off v,v=.pointer (some ⟨g.ph id,off,none⟩)->crep C vr' g' w v (B off)) :
 ∀{c:Cnt} {v:Value},crep C vr g w v c->crep C vr' g' w v (Cnt.fz id (vr id) A B c):=by
 have key:∀{i r:Nat} {c c':Cnt} {v:Value},(i=id->r=vr id->crep C vr' g' w v c)->crep C vr' g' w v c'->crep C vr' g' w v (bif Nat.beq i id&&Nat.beq r (vr id)then c else c'):=by grind[bc]
 intro c
 induction c with
 | row i r=>intro v h;exact key (λe1 e2=>hA v (by rw[<-e1];exact h.2 (by rw[e1];exact e2))) (hst.crep h)
 | ptr i r off=>intro v h;exact key (λe1 e2=>hB off v (by rw[<-e1];exact h.2 (by rw[e1];exact e2))) (hst.crep h)
 | ept i r k q j=>intro v h;exact key (λ_ _=>trivial) (hst.crep h)
 | vw i r k q j=>intro v h;exact key (λ_ _=>trivial) (hst.crep h)
 | per A'=>intro v h;exact hst.crep (c:=.per A') h
 | bor k es=>intro v h;exact hst.crep (c:=.bor k es) h
 | bpt cs=>intro v h;exact hst.crep (c:=.bpt cs) h
 | any=>intro v _;trivial
 | grd b c ih=>intro v _;trivial
 | tup2 c d ih1 ih2=>rintro v ⟨x,y,e,h1,h2⟩;exact⟨x,y,e,ih1 h1,ih2 h2⟩
 | tup3 c d e ih1 ih2 ih3=>rintro v ⟨x,y,z,e,h1,h2,h3⟩;exact⟨x,y,z,e,ih1 h1,ih2 h2,ih3 h3⟩
 | clo1 f c ih=>rintro v ⟨x,e,h1⟩;exact⟨x,e,ih h1⟩
 | clo2 f c d ih1 ih2=>rintro v ⟨x,y,e,h1,h2⟩;exact⟨x,y,e,ih1 h1,ih2 h2⟩
 | clo3 f c d e ih1 ih2 ih3=>rintro v ⟨x,y,z,e,h1,h2,h3⟩;exact⟨x,y,z,e,ih1 h1,ih2 h2,ih3 h3⟩
 | aggN=>exact λh=>h
 | aggK c r ih1 ih2=>rintro v ⟨x,vs,e,o,h1,h2⟩;exact⟨x,vs,e,o,ih1 h1,ih2 h2⟩
theorem Ev (hi:¬I i){vr vr':Nat->Nat}{A:Cnt}{B:Nat->Cnt}(hst:oi C I vr vr' g g' w w)(hdom:∀b id,g.ow b=some id->b<w.heap.size)
 (hA:∀v,v=g.rh id->crep C vr' g' w v A) (hB:∀off v,v=.pointer (some ⟨g.ph id,off,none⟩)->crep C vr' g' w v (B off)) {Bk:Blk} (h:brep C vr g w i Bk):brep C vr' g' w i (Bk.fz id (vr id) A B):=by
 have hv:vr' i=vr i:=by
  rcases hst.ver i with e|⟨e,_⟩
  all_goals grind
 obtain⟨hph,hrh⟩:=hst.gh i hv
 have hne:∀{b:Nat},g.ow b=some i->∀j,I j->g.ow b≠some j:=λe j hj e'=>by rw[e]at e';cases e';exact hi hj
 cases Bk with
 | none=>trivial
 | row e k es=>exact hst.brep (B:=.row e k es) hdom hi h
 | obj A'=>exact hst.brep (B:=.obj A') hdom hi h
 | box e cells=>
  obtain⟨cs,h1,h2,h3,h4⟩:=h
  have hb:=hdom _ _ h2
  refine⟨cs,by rw[hph];exact h1,by rw[hph,hst.ow _ hb (hne h2)];exact h2,by simp[h3],λj c hj=>?_⟩
  rw[List.getElem?_map]at hj
  grind[su]
 | mix e es c=>
  obtain⟨cap,cs,h1,h2,h3,h4,h5,h6,h7,y,q1,q2,q3⟩:=h
  have hb:=hdom _ _ h3
  refine⟨cap,cs,by rw[hrh,hph];exact h1,by rw[hph];exact h2,by rw[hph,hst.ow _ hb (hne h3)];exact h3,h4,h5,h6,λj A' hj=>?_,y,q1,q2,su hst hA hB q3⟩
  obtain⟨y',r1,r2,r3⟩:=h7 j A' hj
  exact⟨y',r1,r2,A'.mono (aaf _) (λ_ _ _=>rfl) hst.n r3⟩
def Ly (S:St)(id:Nat)(us:List UC)(i:Nat):Nat:=bif (Nat.beq i id||pd i (gI us))then S.ver i+1 else S.ver i
def St.unf (S:St)(id e:Nat)(us:List UC):St:=
 ⟨λt=>Cnt.fz id (S.ver id) (.ptr id (S.ver id+1) 0) (λ_=>.any) (S.get t),
  λi=>bif Nat.beq i id then .box e (us.map (UC.cell (Ly S id us)))else match Pw us i with
   | some O=>.obj O
   | none=>(S.blk i).fz id (S.ver id) (.ptr id (S.ver id+1) 0) (λ_=>.any),
  Ly S id us⟩
def Ws (S:St)(id:Nat)(us:List UC):Bool:=(!eL id)&&Wq (gI us)&&(!pd id (gI us))&&(gI us).all λi=>(!eL i)&&Y3 (S.blk i)
open Classical in
noncomputable def YG (us:List UC)(Fs:Nat->BP)(id x:Nat):Nat:=if h:∃i,∃(j:Nat)(O:OV),us[j]?=some (.o i O)/\Fs j x then Classical.choose h else id
open Classical in
noncomputable def Xu (us:List UC)(vs:Array Value)(g:Gh)(i:Nat):Value:=if h:∃(j:Nat),∃O:OV,us[j]?=some (.o i O)then vs.getD (Classical.choose h) undef else g.rh i
theorem Xv {us:List UC}{Fs:Nat->BP}{x:Nat}(hD:∀i j x,i≠j->Fs i x->¬Fs j x)(h:us[j]?=some (.o i O))(hx:Fs j x):YG us Fs id x=i:=by
 unfold YG
 have hex:∃i,∃(j:Nat)(O:OV),us[j]?=some (.o i O)/\Fs j x:=⟨i,j,O,h,hx⟩
 rw[dif_pos hex]
 grind
theorem Xw {us:List UC}{Fs:Nat->BP}{x:Nat}(h:∀j,¬Fs j x):YG us Fs id x=id:=by grind[YG]
theorem Pz {us:List UC}{vs:Array Value}(hd:Wq (gI us)=true)(h:us[j]?=some (.o i O)):Xu us vs g i=vs.getD j undef:=by
 unfold Xu
 have hex:∃(j:Nat),∃O:OV,us[j]?=some (.o i O):=⟨j,O,h⟩
 rw[dif_pos hex]
 grind[JH]
theorem Xx {us:List UC}{vs:Array Value}(h:i∉gI us):Xu us vs g i=g.rh i:=by grind[Xu,xw]
theorem nG (id vr e:Nat)(us:List UC)(hv:S.ver id=vr)(hb:S.blk id=.obj (Lv e (us.map UC.ov)))(hf:Ws S id us=true):Le n S (S.unf id e us):=by
 rintro C a w ⟨g,hR⟩
 unfold Ws at hf
 simp only[aaC,abq,aaH]at hf
 obtain⟨⟨⟨hfx,hds⟩,hid⟩,hfr⟩:=hf
 have hid:id∉gI us:=λh=>by rw[eB.2 h]at hid;cases hid
 have hB:=hR.blks id
 rw[hb]at hB
 obtain⟨b,vs,Fs,hrv,hFb,hh,hs,hF,hD,hc⟩:=hB
 have hF':∀j x,Fs j x->g.ow x=some id/\x≠b:=hF
 have hFb':g.ow b=some id:=hFb
 let g':Gh:=⟨λx=>if g.ow x=some id then some (YG us Fs id x)else g.ow x,λi=>if i=id then b else g.ph i,Xu us vs g⟩
 have how:∀x,g'.ow x=if g.ow x=some id then some (YG us Fs id x)else g.ow x:=λ_=>rfl
 have hvr:∀i,(S.unf id e us).ver i=Ly S id us i:=λ_=>rfl
 have hvrn:∀i,i≠id->i∉gI us->Ly S id us i=S.ver i:=λi h1 h2=>by grind[Ly,f8,eB]
 have hvri:∀i,(i=id\/i∈gI us)->Ly S id us i=S.ver i+1:=λi h=>by grind[Ly,Nat.beq_refl,eB]
 have hfxI:∀i,eL i=true->i≠id/\i∉gI us:=λi hi=>⟨λe=>(by rw[e,hfx]at hi;cases hi),λh=>(by have:=hfr i h;rw[hi]at this;simp at this)⟩
 have hst:oi C (λi=>i=id\/i∈gI us) S.ver (S.unf id e us).ver g g' w w:=by
  refine⟨aaf _,λ_ _ _=>rfl,λx _ hn=>?_,λx _ hn=>?_,λx i e'=>?_,λi=>?_,λi hi=>?_,λi hi=>?_,rfl,rfl,rfl⟩
  ·rw[how,aab (hn id (.inl rfl))]
  ·rw[how]at hn
   grind
  ·rw[how]at e'
   split at e'
   ·rename_i h;exact hR.dom x id h
   ·exact hR.dom x i e'
  all_goals grind[Xx]
 have hph:g'.ph id=b:=aae rfl
 have hA:∀v,v=g.rh id->crep C (S.unf id e us).ver g' w v (.ptr id (S.ver id+1) 0):=λv hv=>⟨by rw[hvr,hvri id (.inl rfl)];exact aaf _,λ_=>by rw[hv,hrv,hph]⟩
 refine⟨g',hR.defers,hR.tsz,hR.nle,λi hi=>?_,hR.os,hR.tape,hR.output,hR.size,hR.old,hR.n0,hR.n0l,hst.dom,λt=>su (B:=λ_=>.any) hst hA (λ_ _ _=>trivial) (hR.slots t),λi=>?_⟩
 ·obtain⟨h1,h2⟩:=hst.fix i hi
  exact⟨h1.trans (hR.keep i hi).1,h2.trans (hR.keep i hi).2⟩
 ·show brep C _ g' w i (bif Nat.beq i id then _ else _)
  cases hbi:Nat.beq i id with
  | true=>
   obtain rfl:=bc.1 hbi
   refine⟨vs,by rw[hph];exact hh,by rw[hph,how,aae hFb',Xw (λj hj=>(hF' j b hj).2 rfl)],by rw[hs];simp,λj c hj=>?_⟩
   rw[List.getElem?_map]at hj
   cases hu:us[j]? with
   | none=>rw[hu]at hj;cases hj
   | some u=>
    rw[hu]at hj;cases hj
    obtain⟨y,q1,q2⟩:=hc j u.ov (by rw[List.getElem?_map,hu];rfl)
    refine⟨y,q1,(u.ov.one q2).1,?_⟩
    cases u with
    | p A h=>exact A.mono (aaf _) (λ_ _ _=>rfl) hst.n q2
    | o i' O=>
     refine⟨aaf _,λ_=>?_⟩
     show y=Xu us vs g i'
     rw[Pz hds hu,aa7,q1];rfl
  | false=>
   have hne:i≠id:=λe'=>by rw[bc.2 e']at hbi;cases hbi
   cases hl:Pw us i with
   | some O=>
    obtain⟨j,hj⟩:=Ur hl
    obtain⟨y,q1,q2⟩:=hc j O (by rw[List.getElem?_map,hj];rfl)
    show O.p (λx=>g'.ow x=some i) (g'.N C) w (Xu us vs g i)
    rw[Pz hds hj,aa7,q1]
    exact O.mono (F:=Fs j) (λx hx=>by rw[how,aae (hF' j x hx).1,Xv hD hj hx]) (λx hx=>(hR.dom x id (hF' j x hx).1).1) (aaf _) (λ_ _ _=>rfl) (λ_ _ _=>rfl) hst.n q2
   | none=>
    have hni:i∉gI us:=λh=>by grind[Py]
    exact Ev (B:=λ_=>.any) (λh=>h.elim hne hni) hst (λb id e=>(hR.dom b id e).1) hA (λ_ _ _=>trivial) (hR.blks i)
def St.fold (S:St)(id e:Nat)(us:List UC):St:=
 ⟨λt=>Cnt.fz id (S.ver id) .any (λoff=>bif Nat.beq off 0 then .row id (S.ver id+1)else .any) (S.get t),
  λi=>bif Nat.beq i id then .obj (Lv e (us.map UC.ov))else bif pd i (gI us)then .none else(S.blk i).fz id (S.ver id) .any (λoff=>bif Nat.beq off 0 then .row id (S.ver id+1)else .any),
  Ly S id us⟩
inductive nH (S:St):List UC->Prop
 | nil:nH S []
 | p {A:PV} {h:qv A} {l:List UC} (k:nH S l):nH S (.p A h::l)
 | o {i:Nat} {O:OV} {l:List UC} (h:S.blk i=.obj O) (k:nH S l):nH S (.o i O::l)
theorem nH.get {us:List UC}(h:nH S us)(hj:us[j]?=some (.o i O)):S.blk i=.obj O:=by induction h generalizing j<;>grind
def Wt (id:Nat)(us:List UC):Bool:=(!eL id)&&Wq (gI us)&&(!pd id (gI us))
theorem vR (id vr e:Nat)(us:List UC)(hv:S.ver id=vr)(hb:S.blk id=.box e (us.map (UC.cell S.ver)))(hr:nH S us)(hf:Wt id us=true):Le n S (S.fold id e us):=by
 rintro C a w ⟨g,hR⟩
 unfold Wt at hf
 simp only[aaC,abq]at hf
 obtain⟨⟨hfx,hds⟩,hid⟩:=hf
 have hid:id∉gI us:=λh=>by rw[eB.2 h]at hid;cases hid
 have hB:=hR.blks id
 rw[hb]at hB
 obtain⟨cs,hh,hob,hs,hc⟩:=hB
 let g':Gh:=⟨λx=>match g.ow x with
  | some i=>if pd i (gI us)then some id else some i
  | none=>none,g.ph,λi=>if i=id then .pointer (some ⟨g.ph id,0,none⟩)else g.rh i⟩
 have how:∀x i,g.ow x=some i->g'.ow x=if pd i (gI us)then some id else some i:=λx i h=>by grind
 have hown:∀x,g.ow x=none->g'.ow x=none:=λx h=>by grind
 have hvr:∀i,(S.fold id e us).ver i=Ly S id us i:=λ_=>rfl
 have hvrn:∀i,i≠id->i∉gI us->Ly S id us i=S.ver i:=λi h1 h2=>by grind[Ly,f8,eB]
 have hvri:∀i,(i=id\/i∈gI us)->Ly S id us i=S.ver i+1:=λi h=>by grind[Ly,Nat.beq_refl,eB]
 have hst:oi C (λi=>i=id\/i∈gI us) S.ver (S.fold id e us).ver g g' w w:=by
  refine⟨aaf _,λ_ _ _=>rfl,λx _ hn=>?_,λx _ hn=>?_,λx i e'=>?_,λi=>?_,λi hi=>?_,λi hi=>?_,rfl,rfl,rfl⟩
  ·grind[eB]
  ·grind
  ·cases ho:g.ow x with
   | none=>rw[hown x ho]at e';cases e'
   | some i'=>exact hR.dom x i' ho
  all_goals grind
 have hA:∀v,v=g.rh id->crep C (S.fold id e us).ver g' w v .any:=λ_ _=>trivial
 have hBo:∀off v,v=.pointer (some ⟨g.ph id,off,none⟩)->crep C (S.fold id e us).ver g' w v (bif Nat.beq off 0 then .row id (S.ver id+1)else .any):=λoff v hv'=>by
  cases h0:Nat.beq off 0 with
  | false=>trivial
  | true=>
   obtain rfl:=bc.1 h0
   refine⟨by rw[hvr,hvri id (.inl rfl)];exact aaf _,λ_=>?_⟩
   grind
 refine⟨g',hR.defers,hR.tsz,hR.nle,λi hi=>?_,hR.os,hR.tape,hR.output,hR.size,hR.old,hR.n0,hR.n0l,hst.dom,λt=>su hst hA hBo (hR.slots t),λi=>?_⟩
 ·obtain⟨h1,h2⟩:=hst.fix i hi
  exact⟨h1.trans (hR.keep i hi).1,h2.trans (hR.keep i hi).2⟩
 ·show brep C _ g' w i (bif Nat.beq i id then _ else _)
  cases hbi:Nat.beq i id with
  | true=>
   obtain rfl:=bc.1 hbi
   have hobn:g'.ow (g.ph i)=some i:=by rw[how _ _ hob];split<;>rfl
   show(Lv e (us.map UC.ov)).p (λx=>g'.ow x=some i) (g'.N C) w (if i=i then _ else _)
   rw[aae rfl]
   refine⟨g.ph i,cs,λj x=>∃i' O,us[j]?=some (.o i' O)/\g.ow x=some i',rfl,hobn,hh,by rw[hs];simp,?_,?_,λj O hj=>?_⟩
   ·grind[eB,xw]
   ·grind[JH]
   ·rw[List.getElem?_map]at hj
    cases hu:us[j]? with
    | none=>rw[hu]at hj;cases hj
    | some u=>
     rw[hu]at hj;cases hj
     obtain⟨y,q1,q2,q3⟩:=hc j (u.cell S.ver) (by rw[List.getElem?_map,hu];rfl)
     refine⟨y,q1,?_⟩
     cases u with
     | p A h=>exact A.mono (aaf _) (λ_ _ _=>rfl) hst.n q3
     | o i' O=>
      have hbo:=hR.blks i'
      rw[hr.get hu]at hbo
      have q4:y=g.rh i':=q3.2 rfl
      rw[q4]
      exact O.mono (F:=λx=>g.ow x=some i') (λx hx=>⟨i',O,hu,hx⟩) (λx hx=>(hR.dom x i' hx).1) (aaf _) (λ_ _ _=>rfl) (λ_ _ _=>rfl) hst.n hbo
  | false=>
   have hne:i≠id:=λe'=>by rw[bc.2 e']at hbi;cases hbi
   show brep C _ g' w i (bif pd i (gI us)then _ else _)
   cases hm:pd i (gI us)with
   | true=>trivial
   | false=>
    have hni:i∉gI us:=λh=>by rw[eB.2 h]at hm;cases hm
    exact Ev (λh=>h.elim hne hni) hst (λb id e=>(hR.dom b id e).1) hA hBo (hR.blks i)
theorem Ut (id vr:Nat){h:qv A}(hv:S.ver id=vr)(hb:S.blk id=.obj (Uq A h)):Le n S (S.fz id vr (.per A) (λ_=>.any)):=
 tY id vr hv λC g w n a hR g' hg' _ _ vr' hn=>⟨λv hval=>by
  have hbb:=hR.blks id
  rw[hb]at hbb
  rw[hval]
  exact A.mono (aaf _) (λ_ _ _=>rfl) hn hbb,λ_ _ _=>trivial⟩
end
class PA (A:PV):Prop where
 h:∀{N N':BP} {w:World} {v:Value},A.p N w v->A.p N' w v
instance {v:Value}:PA (ai v):=⟨λh=>h⟩
class Hl (l:List PV):Prop where
 h:∀A∈l,PA A
instance:Hl []:=⟨λ_ h=>by simp at h⟩
instance {A:PV} {l:List PV} [h:PA A] [k:Hl l]:Hl (A::l):=⟨λB hB=>by
 rcases aaU.1 hB with e|e
 ·subst e;exact h
 ·exact k.h B e⟩
instance {l:List PV} [k:Hl l]:PA (cu l):=⟨λ⟨vs,e,h1,h2⟩=>⟨vs,e,h1,λj A hj=>let⟨y,q1,q2,q3⟩:=h2 j A hj;⟨y,q1,q2,(k.h A (aa3 hj)).h q3⟩⟩⟩
class Hm (r:Ret):Prop where
 h:∀{N N':BP} {w w':World} {v:Value},r.rep N w w' v->r.rep N' w w' v
instance {A:PV} [h:PA A]:Hm (.per A):=⟨λq=>h.h q⟩
instance {c d:Ret} [h:Hm c] [k:Hm d]:Hm (.tup2 c d):=⟨λ⟨x,y,e,h1,h2⟩=>⟨x,y,e,h.h h1,k.h h2⟩⟩
class Y4 (es:List (List PV)):Prop where
 h:∀ps∈es,Hl ps
instance {α:Type} {f:α->List PV} {l:List α} [h:∀x,Hl (f x)]:Y4 (l.map f):=⟨λps hp=>by
 obtain⟨x,_,rfl⟩:=List.mem_map.1 hp
 exact h x⟩
instance {e k:Nat} {es:List (List PV)} [h:Y4 es]:Hm (.own e k es):=⟨λq=>by
 rcases q with q|⟨q,cap,cs,h1,h2,h3,h4,h5,h6,h7⟩
 ·exact .inl q
 ·exact .inr ⟨q,cap,cs,h1,h2,h3,h4,h5,h6,λi ps hi=>⟨(h7 i ps hi).1,λj A hj=>let⟨y,q1,q2,q3⟩:=(h7 i ps hi).2 j A hj;⟨y,q1,q2,((h.h ps (aa3 hi)).h A (aa3 hj)).h q3⟩⟩⟩⟩
section
variable {P:Program} {n:Nat} {ops:Array Oper} {o:Oper} {F:List Nat} {S T:St} {C:Ctx} {g:Gh} {a:Act} {w w':World} {t:Nat}
def xx (C:Ctx)(g:Gh)(w:World)(ids:List Nat):BP:=λb=>b<w.heap.size/\g.N C b/\∀i∈ids,g.ow b≠some i
def jp (F:List Nat)(S:St)(ids:List Nat)(x:Operand)(c:Cnt):Prop:=∀(n:Nat)(C:Ctx)(T:St)(g:Gh)(a:Act)(w:World),ed F T S->RG C n T g a w ->
 crep ⟨w,xx C g w ids,λ_=>False,g0⟩ (λ_=>0) g0 w (a.eval x) c
theorem Z2 {b:Nat}(h:(g0.N ⟨w,xx C g w ids,λ_=>False,g0⟩) b):xx C g w ids b:=by
 rcases h with h|h
 ·exact h
 ·exact absurd rfl h
inductive cc (S:St)(ids:List Nat):Cnt->PV->Prop
 | per {A:PV}:cc S ids (.per A) A
 | obj {id vr:Nat} {O:OV} {A:PV} (hv:S.ver id=vr) (hb:S.blk id=.obj O) (hl:nX O A) (hi:pd id ids=true):cc S ids (.row id vr) A
 | row {id vr e k:Nat} {es:List (List PV)} (hv:S.ver id=vr) (hb:S.blk id=.row e k es) (hi:pd id ids=true):cc S ids (.row id vr) (cn k es)
inductive cd (S:St)(ids:List Nat):List Cnt->List PV->Prop
 | nil:cd S ids [] []
 | cons {c:Cnt} {A:PV} {l:List Cnt} {l':List PV} (h:cc S ids c A) (k:cd S ids l l'):cd S ids (c::l) (A::l')
theorem cd.get {l:List Cnt}{l':List PV}(h:cd S ids l l'):l'.length=l.length/\∀(j:Nat)(c:Cnt)(A:PV),l[j]?=some c->l'[j]?=some A->cc S ids c A:=by induction h<;>grind
theorem cc.rep {c:Cnt}(h:cc S ids c A)(hA:ed F T S)(hF:∀i∈ids,2*i+1∈F)(hR:RG C n T g a w){v:Value}(hc:crep C T.ver g w v c):A.p (xx C g w ids) w v:=by
 cases h with
 | per=>exact A.mono (aaf _) (λ_ _ _=>rfl) (λb _ hb=>hb.2.1) hc
 | @obj id vr O A hv hb hl hi=>
  have hF':=hF id (eB.1 hi)
  have h1:=hR.blks id
  rw[(hA.2 id hF').1,hb]at h1
  rw[hc.2 (by rw[(hA.2 id hF').2,hv])]
  exact hl h1 (λb hb=>⟨(hR.dom b id hb).1,λq=>q.2.2 id (eB.1 hi) hb⟩) (λb hb=>hb.2.1)
 | @row id vr e k es hv hb hi=>
  have hF':=hF id (eB.1 hi)
  have h1:=hR.blks id
  rw[(hA.2 id hF').1,hb]at h1
  rw[hc.2 (by rw[(hA.2 id hF').2,hv])]
  show eW _ _ k es w (g.rh id)
  rcases h1 with⟨q1,rfl⟩|⟨cap,cs,q1,q2,q3,q4,q5,q6,q7⟩
  ·exact⟨none,0,0,0,by rw[q1];rfl,aA,bP,λ_=>rfl,aA,λi cs hi=>by simp at hi⟩
  ·refine⟨_,cap,g.ph id,0,q1,q4,q5,aA,λ_=>⟨rfl,(hR.dom _ _ q3).1,λhn=>hn.2.2 id (eB.1 hi) q3⟩,λi ps hi=>?_⟩
   obtain⟨r1,r2⟩:=q7 i ps hi
   refine⟨r1,λj A hj=>?_⟩
   obtain⟨y,s1,s2,s3⟩:=r2 j A hj
   exact⟨y,by rw[aaJ,ei q2];exact s1,s2,A.mono (aaf _) (λ_ _ _=>rfl) (λb _ hb=>hb.2.1) s3⟩
theorem Uu {c:Cnt}(hx:S.opd x=c)(h:cc S ids c A)(hF:∀k∈aG x,k∈F)(hI:∀i∈ids,2*i+1∈F):jp F S ids x (.per A):=λn C T g a w hA hR=>by
 have hc:=aM (x:=x) hA hF hR
 rw[hx]at hc
 exact A.mono (aaf _) (λ_ _ _=>rfl) (λb _ hb=>Z2 hb) (h.rep hA hI hR hc)
theorem Xy {vr:Nat}{cells:List Cnt}(hx:S.opd x=.ptr id vr 0)(hv:S.ver id=vr)(hb:S.blk id=.box e cells)(hi:pd id ids=true)(h:cd S ids cells As)(hF:∀k∈aG x,k∈F)(hI:∀i∈ids,2*i+1∈F):jp F S ids x (.per (em As)):=λn C T g a w hA hR=>by
 obtain⟨h1,cs,h2,h3,h4,h5⟩:=tQ hA hF (hI id (eB.1 hi)) hR hx hv hb
 obtain⟨hl,hg⟩:=h.get
 refine(em As).mono (N:=xx C g w ids) (aaf _) (λ_ _ _=>rfl) (λb _ hb=>Z2 hb) ⟨g.ph id,0,h1,(hR.dom _ _ h3).1,λhn=>hn.2.2 id (eB.1 hi) h3,λj A hj=>?_⟩
 have hlt:j<cells.length:=by
  rw[<-hl]
  grind
 obtain⟨y,q1,q2,q3⟩:=h5 j _ (aaa hlt)
 exact⟨y,by rw[aaJ,ei h2];exact q1,q2,(hg j _ A (aaa hlt) hj).rep hA hI hR q3⟩
theorem Xz {es:List (List PV)}(hx:S.opd x=.per (cn k es))(hF:∀k∈aG x,k∈F):jp F S ids x (.bor k es):=λn C T g a w hA hR=>by
 have h:=aM (x:=x) hA hF hR
 rw[hx]at h
 exact vG (λb hb=>(Z2 hb).2.1) h
inductive nI (F:List Nat)(S:St)(ids:List Nat):List Operand->List Cnt->Prop
 | nil:nI F S ids [] []
 | cons {x:Operand} {c:Cnt} {xs:List Operand} {cs:List Cnt} (h:jp F S ids x c) (t:nI F S ids xs cs):nI F S ids (x::xs) (c::cs)
theorem nI.rep {xs:List Operand}{cs:List Cnt}(h:nI F S ids xs cs)(hA:ed F T S)(hR:RG C n T g a w):rJ (xx C g w ids) w (xs.map a.eval) cs:=by
 induction h with
 | nil=>exact⟨rfl,λi v c hi=>by simp at hi⟩
 | cons h t ih=>
  refine⟨by simp[ih.1],λi v c hi hc=>?_⟩
  cases i with
  | zero=>
   simp at hi hc;subst hi;subst hc
   exact h n C T g a w hA hR
  | succ i=>exact ih.2 i v c (by simpa using hi) (by simpa using hc)
theorem PB {f:FuncId}{xs:List Operand}{As:List Cnt}{r:Ret}(hp:Pl n o t)(ho:kx o f xs)(hf:Fn P f As r)(hpl:r.plain=true)(ha:Hm r)(hg:nI F S ids xs As):aB n P ops o F (ww t 0 r) [] S:=by
 refine⟨?_⟩
 intro C T hA a w ⟨g,hR⟩
 unfold jg
 rw[aae (hp.wanted a)]
 refine Bw hf.ent ho (hf.run _ w (xs.map a.eval) (λb h=>h.1) (hg.rep hA hR)) ?_
 rintro v w' ⟨hx,hr⟩
 exact⟨g,hR.app0 hx hp.dOk (zH hR hpl (ha.h hr))⟩
end
