/- Lemmas, walks. -/
import Derived.Test.YtecdgdoledkdfaaGreatJ17
set_option maxRecDepth 10000
set_option maxHeartbeats 8000000
namespace Go.Proofs.YtecdgdoledkdfaaGreat
open Go.RowKit Go.Proofs.Tryz
theorem J9:∀(l:List ByteArray)(n:ByteArray)(k:Nat),k<=l.length->(∀j (h:j<l.length),j<k->l[j]<n)->(∀h:k<l.length,¬l[k]<n) ->
 ((∃h:k<l.length,l[k]=n)->jS l n=l)/\((¬∃h:k<l.length,l[k]=n)->jS l n=l.take k++n::l.drop k):=by
 intro l
 induction l with
 | nil=>
  intro n k hk _ _
  obtain rfl:k=0:=by simpa using hk
  exact⟨λ⟨h,_⟩=>by simp at h,λ_=>rfl⟩
 | cons x l ih=>
  intro n k hk h1 h2
  cases k with
  | zero=>
   have:=h2 aA
   grind[jS]
  | succ k=>
   have h3:=h1 0 aA ae
   simp only[List.getElem_cons_zero]at h3
   have:=ih n k (by simpa using hk) (λj hj hjk=>by have:=h1 (j+1) (by simpa using hj) ae;simpa using this) (λh=>by have:=h2 (by simpa using h);simpa using this)
   rw[jS,aae h3]
   simp_all
abbrev Zk (l:List ByteArray):PV:=cn 1 (l.map strP)
abbrev Z6 (l:List ByteArray):Cnt:=.per (Zk l)
theorem LZ (e:List ByteArray)(l:List Rg)(k:Nat)(h:k<l.length):js e (l.take (k+1))=nZ (js e (l.take k)) l[k]:=by grind[js,List.take_succ_eq_append_getElem]
theorem Q9:∀(l:List ByteArray)(n:ByteArray),(jS l n).length<=l.length+1:=by
 intro l
 induction l<;>grind[jS]
theorem L0 (X Y:List Kn):vf Zc X Y=gQ ofR (X++Y):=by
 unfold vf gQ
 rw[AA,<-lZ,List.map_zipWith]
 grind[LJ,QA]
theorem Cx (l:List ByteArray)(n:ByteArray)(hl:l.length<=1000000000)(hs:∀t∈l,t.size<=1000000000):Fn prog 225 [Z6 l,sC n] (.per (Zk (jS l n))):=by
 generalize hR:jS l n=R
 refine fi func225 ntmps225 ?_
 (refine w0 ?_)
 refine aj (X:=Nat) (λk=>k<=l.length/\∀j (h:j<l.length),j<k->l[j]<n)
  (λk=>aF [(0,Z6 l),(1,sC n),(5,iC .i64 ((k:Nat):Int))] []) (λk=>l.length-k) 0 ⟨aag _,λj _ h=>ae⟩ ?_
 rintro k ⟨h1,h2⟩
 by_cases hk:k<l.length
 ·have c0:=kf l[k] n (by have:=hs _ (aar hk);omega)
  by_cases hlt:l[k]<n
  ·rw[aao (show cG l[k] n<0 from hlt)]at c0
   have h2':∀j (h:j<l.length),j<k+1->l[j]<n:=λj h hj=>by grind
   clear hR h2 hs hlt
   (refine au c0 ?_;repeat' first|apply aw|refine ah λhc=>?_)
   refine⟨k+1,⟨hk,h2'⟩,ae,?_⟩
   exact ab
  ·rw[aap (show ¬cG l[k] n<0 from hlt)]at c0
   have hP:=J9 l n k h1 h2 (λ_=>hlt)
   by_cases he:l[k]=n
   ·have hR':l=R:=by rw[<-hR,hP.1 ⟨hk,he⟩]
    clear hR hP h2 hs hlt
    (refine au c0 ?_;repeat' first|apply aw|refine ah λhc=>?_)
    all_goals first
     | (exfalso;simp[he]at hc;done)
     | (refine dr ?_
        exact lO rfl hR')
   ·have hR':l.take k++n::l.drop k=R:=by rw[<-hR,hP.2 (λ⟨_,q⟩=>he q)]
    clear hR hP h2 hs hlt
    (refine au c0 ?_;repeat' first|apply aw|refine ah λhc=>?_)
    all_goals first
     | (exfalso;rw[iw]at hc;exact he hc)
     | (refine aV (bS 34 700 9 1 rfl rfl) ?_
        (refine w0 ?_)
        refine⟨.inl rfl,lQ (iW 700 _ 9 1 rfl rfl) (KS rfl (wa rfl (by rw[<-hR'];simp;rfl)))⟩)
 ·have hP:=J9 l n k h1 h2 (λh=>absurd h hk)
  have hR':l.take k++n::l.drop k=R:=by rw[<-hR,hP.2 (λ⟨q,_⟩=>hk q)]
  clear hR hP h2 hs
  (refine w0 ?_;repeat' first|apply aw|refine ah λhc=>?_)
  refine aV (bS 34 700 9 1 rfl rfl) ?_
  (refine w0 ?_)
  refine⟨.inl rfl,lQ (iW 700 _ 9 1 rfl rfl) (KS rfl (wa rfl (by rw[<-hR'];simp;rfl)))⟩
theorem AM (A B:List Rg)(hA:A.length<=1000000)(hB:B.length<=1000000):Fn prog 145 [cU A,cU B] (.per (Zk (js [emB] (A++B)))):=by
 have hmem:∀k,∀t∈js [emB] ((A++B).take k),t.size<=1000000000:=λk t ht=>by
  rcases(jt _ _ _).1 ht with h|⟨r,_,h1,h2⟩
  ·have h:t=emB:=by simpa using h
   rw[h];decide
  grind[cg]
 have hlen:∀k,(js [emB] ((A++B).take k)).length<=10000000:=λk=>by
  have h1:=lw ((A++B).take k) [emB]
  grind
 refine fi func145 ntmps145 ?_
 (repeat' (first|((first|apply aH rfl|apply cB rfl|apply aJ rfl|apply cC rfl);focus (first|((apply bn 15;(focus rfl);solve|(apply b0<;>first|exact⟨rfl,rfl,rfl⟩|rfl|infer_instance|(repeat (first|exact bH.nil|(apply bH.cons;(focus (first|exact bd rfl rfl rfl|exact dc rfl|exact dd rfl))))))))|(apply gR;(focus rfl);apply ag rfl rfl rfl rfl rfl;((apply bn 15;(focus rfl);solve|(apply b0<;>first|exact⟨rfl,rfl,rfl⟩|rfl|infer_instance|(repeat (first|exact bH.nil|(apply bH.cons;(focus (first|exact bd rfl rfl rfl|exact dc rfl|exact dd rfl)))))))))))|refine oq ?_|refine bW cI ?_|(refine dW rfl rfl ⟨λhc=>?_,λhc=>?_⟩<;>(repeat rw[aad]at hc)<;>(try exact cj hc))|((first|refine dX rfl rfl rfl ⟨λhc=>?_,λhc=>?_⟩|refine dY rfl rfl rfl ⟨λhc=>?_,λhc=>?_⟩)<;>(fail_if_success (have q:(true=true):=hc))<;>(fail_if_success (have q:(false=false):=hc))<;>(repeat rw[aad]at hc)<;>(try exact cj hc))|refine aQ rfl rfl (λhc=>?_) ?_))
 refine bw (iW 8 _ 9 1 rfl rfl) ?_
 refine aj (X:=Nat) (λk=>k<=A.length+B.length)
  (λk=>aF [(0,cU A),(1,cU B),(5,Z6 (js [emB] ((A++B).take k))),(6,iC .i64 ((k:Nat):Int))] []) (λk=>A.length+B.length-k) 0 (aag _) ?_
 intro k hk
 by_cases hlt:k<A.length+B.length
 ·have hlt':k<(A++B).length:=by rw[aai];exact hlt
  have hs:=LZ [emB] (A++B) k hlt'
  have hm:=hmem k
  have hl:=hlen k
  have hm2:=hmem (k+1)
  generalize js [emB] ((A++B).take k)=E at *
  obtain⟨r,hr⟩:∃r,r=(A++B)[k]:=⟨_,rfl⟩
  rw[<-hr]at hs
  have c0:=kg r
  have c1:=Cx E r.lo ae hm
  have hp:=Q9 E r.lo
  have hpm:gg r=true->∀t∈jS E r.lo,t.size<=1000000000:=λh t ht=>by grind[xS,cg]
  clear hmem hlen hm2 hm
  by_cases hkA:k<A.length
  ·have hrA:A[k]=r:=by rw[hr,List.getElem_append_left hkA]
   rw[<-hrA]at c0 c1 hs hp hpm
   clear hr hrA
   cases hR:gg A[k]with
   | false=>
    rw[hR]at c0
    rw[nZ,aab (by simp[hR])]at hs
    (refine au c0 ?_;repeat' first|apply aw|refine ah λhc=>?_)
    refine⟨k+1,hlt,ae,?_⟩
    rw[hs]
    exact ab
   | true=>
    rw[hR]at c0
    rw[nZ,aae hR]at hs
    have hpm:=hpm hR
    cases hO:A[k].op with
    | true=>
     rw[aae hO]at hs
     generalize jS E A[k].lo=E1 at *
     (refine OM c0 c1 ?_;repeat' first|apply aw|refine ah λhc=>?_)
     all_goals first
      | (exfalso;simp[hO]at hc;done)
      | (refine⟨k+1,hlt,ae,?_⟩
         rw[hs]
         exact ab)
    | false=>
     rw[aab (by simp[hO])]at hs
     have c2:=Cx (jS E A[k].lo) A[k].hi ae hpm
     generalize jS E A[k].lo=E1 at *
     generalize jS E1 A[k].hi=E2 at *
     (refine lc c0 c1 c2 ?_;repeat' first|apply aw|refine ah λhc=>?_)
     all_goals first
      | (exfalso;simp[hO]at hc;done)
      | (refine⟨k+1,hlt,ae,?_⟩
         rw[hs]
         exact ab)
  ·have hkB:k-A.length<B.length:=ae
   have hrB:B[k-A.length]=r:=by rw[hr,List.getElem_append_right ae]
   have eK:((k:Nat):Int)-((A.length:Nat):Int)=((k-A.length:Nat):Int):=ae
   rw[<-hrB]at c0 c1 hs hp hpm
   clear hr hrB
   cases hR:gg B[k-A.length]with
   | false=>
    rw[hR]at c0
    rw[nZ,aab (by simp[hR])]at hs
    (refine cE eK c0 ?_;repeat' first|apply aw|refine ah λhc=>?_)
    refine⟨k+1,hlt,ae,?_⟩
    rw[hs]
    exact ab
   | true=>
    rw[hR]at c0
    rw[nZ,aae hR]at hs
    have hpm:=hpm hR
    cases hO:B[k-A.length].op with
    | true=>
     rw[aae hO]at hs
     generalize jS E B[k-A.length].lo=E1 at *
     (have ke1:=Lib.hid (eK);have kc1:=c0;have kf1:=c1;refine rF ?_;(repeat' first|apply aw|refine ah λhc=>?_);all_goals clear kf1 kc1 ke1)
     all_goals first
      | (exfalso;simp[hO]at hc;done)
      | (refine⟨k+1,hlt,ae,?_⟩
         rw[hs]
         exact ab)
    | false=>
     rw[aab (by simp[hO])]at hs
     have c2:=Cx (jS E B[k-A.length].lo) B[k-A.length].hi ae hpm
     generalize jS E B[k-A.length].lo=E1 at *
     generalize jS E1 B[k-A.length].hi=E2 at *
     (have ke1:=Lib.hid (eK);have kc1:=c0;have kf1:=c1;have kf2:=c2;refine rF ?_;(repeat' first|apply aw|refine ah λhc=>?_);all_goals clear kf2 kf1 kc1 ke1)
     all_goals first
      | (exfalso;simp[hO]at hc;done)
      | (refine⟨k+1,hlt,ae,?_⟩
         rw[hs]
         exact ab)
 ·rw[aaj (by rw[aai];omega)]
  generalize js [emB] (A++B)=E at *
  (refine w0 ?_;refine ah λhc=>?_)
  exact dr (lO rfl rfl)
theorem AN (k:List Pc)(hl:k.length<=1000000000):Fn prog 144 [dN k] (.own 40 3 ((cV k).map rgP)):=by
 refine fi func144 ntmps144 ?_
 (refine w0 ?_)
 refine bw (bS 3 700 40 3 rfl rfl) ?_
 refine aj (X:=Nat) (λz=>z<=k.length)
  (λz=>aF [(0,dN k),(3,.row 700 0),(4,iC .i64 ((z:Nat):Int))] [(700,.row 40 3 ((cV (k.take z)).map rgP))]) (λz=>k.length-z) 0 (aag _) ?_
 intro z hz
 by_cases hlt:z<k.length
 ·have hsn:cV (k.take (z+1))=cV (k.take z)++[k[z].rg]:=by grind[cV,List.take_succ_eq_append_getElem]
  have hlk:(cV (k.take z)).length<=z:=by grind[cV]
  generalize cV (k.take z)=A at *
  (refine w0 ?_;repeat' first|apply aw|refine ah λhc=>?_|((first|apply aH rfl|apply aJ rfl);(focus (try apply ag rfl rfl rfl rfl rfl);((apply bn 5;(focus rfl);first|exact bJ ⟨rfl,rfl,rfl⟩ rfl aS aS rfl rfl rfl rfl|exact bK ⟨rfl,rfl,rfl⟩ rfl aS aS rfl rfl rfl rfl)));refine w0 ?_))
  refine⟨z+1,hlt,ae,az (aU 700 701) (az (aU 701 700) ?_)⟩
  rw[hsn]
  exact ab
 ·rw[aaj (show k.length<=z by omega)]
  generalize cV k=A at *
  (refine w0 ?_;refine ah λhc=>?_)
  exact oo
theorem Ra (s:List Kn)(hs:xQ s):Fn prog 74 [fA s] (sE (gQ ofR s)):=by
 have h:=QZ 1 Zc s [] hs.tot ⟨aA,aA⟩ (λr _=>Ij (bx s r) (bx [] r) (by have:=i8 s r;have:=hs.2;omega) (by simp[bx]))
 rw[L0,aan]at h
 generalize gQ ofR s=R at *
 refine fi func74 ntmps74 ?_
 (refine au h ?_)
 exact oo
theorem XT (k:List Pc)(s:ByteArray)(hk:ez k)(hs:s.size<=1000000000):Fn prog 226 [dN k,sC s] (sE (mz k s)):=by
 have hk1:=hk.1
 have hO:=Ra (k.flatMap (ko s)) (hk.has s)
 rw[show gQ ofR (k.flatMap (ko s))=mz k s from rfl]at hO
 generalize mz k s=R at *
 refine fi func226 ntmps226 ?_
 (refine w0 ?_)
 refine bw (bS 5 700 127 2 rfl rfl) ?_
 refine aj (X:=Nat) (λz=>z<=k.length)
  (λz=>aF [(0,dN k),(1,sC s),(5,.row 700 0),(6,iC .i64 ((z:Nat):Int))] [(700,.row 127 2 (((k.take z).flatMap (ko s)).map BW))]) (λz=>k.length-z) 0 (aag _) ?_
 intro z hz
 by_cases hlt:z<k.length
 ·have hsn:=uw (ko s) k z hlt
  have h1:=(uv (ko s) k z).2
  have h2:=(hk.has s).1
  have h3:=fE Pc.set (aar hlt)
  have h4:=hk.2.1
  have c1:=qk k[z].rg s hs
  generalize (k.take z).flatMap (ko s)=A at *
  unfold ko at hsn
  clear hk
  cases c:ca k[z].rg s with
  | true=>
   rw[c]at c1 hsn
   rw[aae rfl]at hsn
   (refine au c1 ?_;repeat' first|apply aw|refine ah λhc=>?_|((first|apply aH rfl|apply aJ rfl);(focus (try apply ag rfl rfl rfl rfl rfl);((apply bn 5;(focus rfl);first|exact bJ ⟨rfl,rfl,rfl⟩ rfl aS aS rfl rfl rfl rfl|exact bK ⟨rfl,rfl,rfl⟩ rfl aS aS rfl rfl rfl rfl)));refine au c1 ?_))
   refine⟨z+1,hlt,ae,az (aU 700 701) (az (aU 701 700) ?_)⟩
   rw[show(k.take (z+1)).flatMap (ko s)=_ from hsn]
   exact ab
  | false=>
   rw[c]at c1 hsn
   rw[aab aA,aan]at hsn
   (refine au c1 ?_;repeat' first|apply aw|refine ah λhc=>?_|((first|apply aH rfl|apply aJ rfl);(focus (try apply ag rfl rfl rfl rfl rfl);((apply bn 5;(focus rfl);first|exact bJ ⟨rfl,rfl,rfl⟩ rfl aS aS rfl rfl rfl rfl|exact bK ⟨rfl,rfl,rfl⟩ rfl aS aS rfl rfl rfl rfl)));refine au c1 ?_))
   refine⟨z+1,hlt,ae,?_⟩
   rw[show(k.take (z+1)).flatMap (ko s)=_ from hsn]
   exact ab
 ·rw[aaj (show k.length<=z by omega)]
  clear hk
  generalize k.flatMap (ko s)=A at *
  (refine au hO ?_;refine ah λhc=>?_)
  exact oo
section
variable {P:Program} {n t:Nat} {ops:Array Oper} {o:Oper} {S:St}
theorem L3 {ty e len:Nat}{d:TypeDesc}{x ix:Operand}{As:List PV}{A:PV}{i:Nat}{kk:IntKind}{z:Int}(hp:Pl n o t)(ho:o.op=.index ty x ix)(hT:P.underlying ty=some (.array len e))(he:P.underlying e=some d)(hd:iJ d=false)(hk:P.cellsOf e=1)
 (hx:S.opd x=.per (cu As)) (hi:S.opd ix=iC kk z) (hz:z=(i:Int)) (hlt:i<len) (hA:As[i]?=some A):aB n P ops o (aG x++aG ix) (.per A) [] S:=
 aZ hp λC T g a w hR' hR=>by
  have h1:=aM (x:=x) hR' (λk h=>by simp[h]) hR
  rw[hx]at h1
  have h2:=bf (x:=ix) hR' (λk h=>by simp[h]) hR hi
  obtain⟨vs,e1,e2,e3⟩:=h1
  obtain⟨y,q1,q2,q3⟩:=e3 i A hA
  subst hz
  refine⟨y,?_,q3⟩
  have hsz:(sizeOf e).run P w=.ok 1 w:=gS hk bP w
  simp only[execOp,ho,e1,h2,Instr.index,asIntOf,Sem.run_bind,Sem.run_pure,Result.andThen_ok,run_underlying hT]
  rw[aae (by constructor<;>omega)]
  simp_all[part,pG]
end
theorem Rb (n x:Int):(if x>n then x else n)=max n x:=by
 by_cases h:x>n
 all_goals grind
theorem Rc (l:List Rn)(hl:l.length<=1000000000):Fn prog 217 [.per (ou l)] (eA (x9 l)):=by
 have h1:=(P8 l hl).frz
 have hb:(ofR l).length<=1000000000:=by have:=Ca l;omega
 unfold x9
 rcases JS (ofR l)with e|⟨l',y,e⟩
 ·rw[e]at h1 ⊢
  refine fi func217 ntmps217 ?_
  (refine au h1 ?_;refine ah λhc=>?_)
  exact uZ
 ·rw[e,vg]
  rw[e]at h1 hb
  have hlen:(((l'++[y]).length:Nat):Int)-1=(l'.length:Nat):=aA
  have hlt:l'.length<(l'++[y]).length:=aA
  have hget:(l'++[y])[l'.length]'hlt=y:=aA
  generalize l'++[y]=L at *
  refine fi func217 ntmps217 ?_
  (refine cE hlen h1 ?_;refine ah λhc=>?_)
  refine dr ?_
  exact aq rfl (by rw[hget])
theorem L4 (s:List Kn)(id:Int)(hs:dJ s):Fn prog 131 [fA s,iC .i64 id] (eA (sQ s id)):=by
 have a1:=qZ id
 unfold sQ
 by_cases c:1<=id/\id<=16
 ·rw[aae c]
  rw[aao c]at a1
  obtain⟨q,rfl⟩:∃q:Nat,id=(q:Int)+1:=⟨(id-1).toNat,ae⟩
  have hq2:((q:Int)+1-1).toNat=q:=ae
  rw[hq2]
  have a2:=JE s hs
  have a3:=Rc (bx s q) (by have:=i8 s q;have:=hs.2;omega)
  have hA:((di s).map ou)[q]?=some (ou (bx s q)):=by rw[List.getElem?_map,ev _ ae];rfl
  have hlt:q<16:=ae
  have hk1:prog.cellsOf 125=1:=by kernel_rfl
  clear hs
  generalize di s=T at *
  generalize bx s q=Z at *
  refine fi func131 ntmps131 ?_
  (refine mM (show(q:Int)+1-1=(q:Nat)by omega) a1 a2 a3 ?_;repeat' first|apply aw|refine ah λhc=>?_|((first|apply aH rfl|apply aJ rfl);(focus (try apply ag rfl rfl rfl rfl rfl);((exact L3 ⟨rfl,rfl,rfl⟩ rfl underlying285 underlying125 rfl hk1 rfl rfl rfl hlt hA)));refine mM (show(q:Int)+1-1=(q:Nat)by omega) a1 a2 a3 ?_))
  exact uZ
 ·rw[aab c]
  rw[aap c]at a1
  clear hs
  refine fi func131 ntmps131 ?_
  (refine au a1 ?_;refine ah λhc=>?_)
  exact uZ
theorem Ka (k:List Pc)(id:Int)(hk:fe k):Fn prog 60 [dN k,iC .i64 id] (eA (mb k id)):=by
 have hl0:=hk.1
 generalize hR:mb k id=R
 unfold mb at hR
 refine fi func60 ntmps60 ?_
 (refine w0 ?_)
 refine aj (X:=Nat×Int) (λx=>x.1<=k.length/\(k.drop x.1).foldl (λn p=>max n (sQ p.set id)) x.2=R) (λx=>aF [(1,iC .i64 id),(5,iC .i64 x.2),(8,dN k),(9,iC .i64 (k.length:Nat)),(10,iC .i64 (x.1:Nat))] []) (λx=>k.length-x.1) (0,0) ⟨aag _,by simpa using hR⟩ ?_
 rintro⟨i,n⟩ ⟨h1,h2⟩
 simp only at h1 h2 ⊢
 by_cases hi:i<k.length
 ·rw[List.drop_eq_getElem_cons hi,List.foldl_cons]at h2
  have a1:=L4 k[i].set id (hk.at hi)
  have hm:=Rb n (sQ k[i].set id)
  generalize sQ k[i].set id=x at *
  generalize max n x=n' at *
  clear hk hR
  (refine au a1 ?_;repeat' first|apply aw|refine ah λhc=>?_|((first|apply aH rfl|apply aJ rfl);(focus (try apply ag rfl rfl rfl rfl rfl);((exact vX ⟨rfl,rfl,rfl⟩ rfl rfl rfl hm)));refine au a1 ?_))
  refine⟨(i+1,n'),⟨aL,h2⟩,aL,?_⟩
  exact ab
 ·rw[aay ae]at h2
  have h2:n=R:=h2
  subst h2
  clear hk hR
  (refine w0 ?_;refine ah λhc=>?_)
  exact uZ
end Go.Proofs.YtecdgdoledkdfaaGreat
namespace Go.Proofs.YtecdgdoledkdfaaGreat
open Go.RowKit Go.Shelf Go.Proofs.Tryz
abbrev BRg:={r:Rg // r.lo.size<=1000000000000}
instance:Inhabited BRg:=⟨⟨⟨⟨#[]⟩,⟨#[]⟩,false⟩,bP⟩⟩
def rq (x y:BRg):Int:=cG x.1.lo y.1.lo
theorem yo:Sort.SWO (ltOf rq) where
 irrefl x:=by grind[ltOf,rq,xI]
 trans x y z h1 h2:=by grind[ltOf,rq,iP]
 ntrans x y z h1 h2:=by grind[ltOf,rq,iP]
def vi (l:List Rg):List Rg:=if h:∀r∈l,r.lo.size<=1000000000000 then(ln rq (l.pmap Subtype.mk h)).map Subtype.val else l
theorem yq {l:List Rg}(h:∀r∈l,r.lo.size<=1000000000000):(vi l).Perm l/\(vi l).Pairwise (λx y=>x.lo<=y.lo):=by
 unfold vi
 rw[dif_pos h]
 obtain⟨h1,h2⟩:=jP yo (l.pmap Subtype.mk h)
 refine⟨?_,?_⟩
 ·have:=h1.map Subtype.val
  rwa [List.map_pmap,List.pmap_eq_map,List.map_id']at this
 grind[ltOf,rq,iP]
theorem E7 {l:List Rg}(h:bT l):l.Pairwise (λx y=>x.lo<y.lo):=by
 have key:∀j (hj:j<l.length) i (hij:i<j),l[i].lo<l[j].lo:=by
  intro j
  induction j with
  | zero=>intro _ i hij;omega
  | succ j ih=>
   intro hj i hij
   obtain⟨a1,a2⟩:=h (j+1) hj
   obtain⟨b1,_⟩:=h j ae
   have c:=a2 ae
   grind[jR,iP]
 rw[List.pairwise_iff_getElem]
 grind
theorem Re {l:List Rg}(h:bT l)(hs:∀r∈l,r.lo.size<=1000000000000):vi l=l:=by
 obtain⟨h1,h2⟩:=yq hs
 have h3:=E7 h
 have h4:l.Pairwise (λx y=>x.lo<=y.lo):=h3.imp λ{x y} q=>by grind
 grind[List.Perm.eq_of_pairwise,List.getElem_of_mem,List.pairwise_iff_getElem]
theorem XU {l:List Rg}(h:bT l):jF l=l:=by
 have key:∀k,k<=l.length->jF (l.take k)=l.take k:=by
  intro k
  induction k with
  | zero=>intro _;rfl
  | succ k ih=>
   intro hk
   have hk':k<l.length:=ae
   rw[E3 hk',ih ae,bp l k hk']
   obtain⟨_,a2⟩:=h k hk'
   rcases Nat.eq_zero_or_pos k with rfl|hp
   ·simp[HV]
   ·obtain⟨m,rfl⟩:∃m,k=m+1:=⟨k-1,ae⟩
    have c:=a2 ae
    grind[bp,HV]
 have:=key l.length (aaf _)
 rwa [aa9]at this
def so_rng_ren:Go.Shelf.Ren:=⟨fun|6=>212|14=>253|15=>254|20=>277|21=>278|22=>279|23=>280|24=>281|25=>282|26=>283|27=>284|28=>285|29=>286|46=>320|47=>321|48=>322|49=>323|50=>324|57=>339|n=>n,fun|0=>0|3=>3|4=>4|5=>5|9=>9|22=>22|24=>40|25=>280|39=>305|45=>344|46=>345|50=>349|53=>180|55=>41|66=>374|70=>377|76=>392|77=>393|n=>n,λn=>n⟩
theorem XV:SlLaysF0.n6 prog so_rng_ren:={ mixed:=by kernel_rfl,f6:=⟨Tryz.f212.name,bP,func212.trans (aaA some (by kernel_rfl))⟩,f14:=⟨Tryz.f253.name,bP,func253.trans (aaA some (by kernel_rfl))⟩,f15:=func254.trans (aaA some (by kernel_rfl)),f20:=⟨Tryz.f277.name,bP,func277.trans (aaA some (by kernel_rfl))⟩,f21:=⟨Tryz.f278.name,bP,func278.trans (aaA some (by kernel_rfl))⟩,f22:=⟨Tryz.f279.name,bP,func279.trans (aaA some (by kernel_rfl))⟩,f23:=⟨Tryz.f280.name,bP,func280.trans (aaA some (by kernel_rfl))⟩,f24:=⟨Tryz.f281.name,bP,func281.trans (aaA some (by kernel_rfl))⟩,f25:=⟨Tryz.f282.name,bP,func282.trans (aaA some (by kernel_rfl))⟩,f26:=⟨Tryz.f283.name,bP,func283.trans (aaA some (by kernel_rfl))⟩,f27:=⟨Tryz.f284.name,bP,func284.trans (aaA some (by kernel_rfl))⟩,f28:=func285.trans (aaA some (by kernel_rfl)),f29:=func286.trans (aaA some (by kernel_rfl)),f46:=⟨Tryz.f320.name,bP,func320.trans (aaA some (by kernel_rfl))⟩,f47:=func321.trans (aaA some (by kernel_rfl)),f48:=func322.trans (aaA some (by kernel_rfl)),f49:=⟨Tryz.f323.name,bP,func323.trans (aaA some (by kernel_rfl))⟩,f50:=⟨Tryz.f324.name,bP,func324.trans (aaA some (by kernel_rfl))⟩,f57:=⟨Tryz.f339.name,bP,func339.trans (aaA some (by kernel_rfl))⟩,t0:=underlying0,a0:=Tryz.isAgg0,z0:=Tryz.sizeOf0,v0:=Tryz.zeroValue0,t3:=underlying3,a3:=Tryz.isAgg3,z3:=Tryz.sizeOf3,v3:=Tryz.zeroValue3,t4:=underlying4,a4:=Tryz.isAgg4,z4:=Tryz.sizeOf4,v4:=Tryz.zeroValue4,t5:=underlying5,a5:=Tryz.isAgg5,z5:=Tryz.sizeOf5,v5:=Tryz.zeroValue5,t9:=underlying9,a9:=Tryz.isAgg9,z9:=Tryz.sizeOf9,v9:=Tryz.zeroValue9,t22:=underlying22,a22:=Tryz.isAgg22,z22:=Tryz.sizeOf22,v22:=Tryz.zeroValue22,t25:=underlying280,a25:=Tryz.isAgg280,z25:=Tryz.sizeOf280,v25:=Tryz.zeroValue280,t39:=underlying305,a39:=Tryz.isAgg305,z39:=Tryz.sizeOf305,v39:=Tryz.zeroValue305,t45:=underlying344,a45:=Tryz.isAgg344,z45:=Tryz.sizeOf344,v45:=Tryz.zeroValue344,t46:=underlying345,a46:=Tryz.isAgg345,z46:=Tryz.sizeOf345,v46:=Tryz.zeroValue345,t50:=underlying349,a50:=Tryz.isAgg349,z50:=Tryz.sizeOf349,v50:=Tryz.zeroValue349,t53:=underlying180,a53:=Tryz.isAgg180,z53:=Tryz.sizeOf180,v53:=Tryz.zeroValue180,t55:=underlying41,a55:=Tryz.isAgg41,z55:=Tryz.sizeOf41,v55:=Tryz.zeroValue41,t66:=underlying374,a66:=Tryz.isAgg374,z66:=Tryz.sizeOf374,v66:=Tryz.zeroValue374,t70:=underlying377,a70:=Tryz.isAgg377,z70:=Tryz.sizeOf377,v70:=Tryz.zeroValue377,t76:=underlying392,a76:=Tryz.isAgg392,z76:=Tryz.sizeOf392,v76:=Tryz.zeroValue392,t77:=underlying393,a77:=Tryz.isAgg393,z77:=Tryz.sizeOf393,v77:=Tryz.zeroValue393 }
theorem Rf (x y:Rg)(hx:x.lo.size<=1000000000000)(w:World) :
 Calls prog 213 #[.agg #[.string x.lo,.string x.hi,.bool x.op],.agg #[.string y.lo,.string y.hi,.bool y.op]] w λe w'=>e=.returned (.int .i64 (cG x.lo y.lo))/\Gw w w':=by
 go_enter func213,ntmps213
 go_wp2_with fail
 refine(EC x.lo y.lo hx _).mono ?_
 rintro e w' ⟨rfl,hg⟩
 go_wp2
 go_ret
 exact⟨rfl,Gw.trans (((Gw.refl w).alloc _).alloc _) hg⟩
theorem E8 (l:List Rg)(h:∀r∈l,r.lo.size<=1000000000000)(hl:l.length<=1000000000) :
 bZ prog 212 [.row 1000 0,Wy] [(1000,yf l)] .any [(1000,yf (vi l))]:=by
 have:=uq (e:=40) (k:=3) (G:=213) XV Tryz.isAgg40 Tryz.sizeOf40 (enc:=λx:BRg=>[.string x.1.lo,.string x.1.hi,.bool x.1.op]) ⟨bP,λ_=>rfl,λx v hv=>by simp at hv;rcases hv with rfl|rfl|rfl<;>rfl⟩ yo (enters_of func213 (by kernel_rfl) rfl)
  (λx y w=>Rf x.1 y.1 x.2 w) (xO func212 (by kernel_rfl) (by kernel_rfl)) (l.pmap Subtype.mk h) (by rw[List.length_pmap];omega)
 have e1:(l.pmap Subtype.mk h).map (fH λx:BRg=>[Value.string x.1.lo,Value.string x.1.hi,Value.bool x.1.op])=l.map rgP:=by rw[List.map_pmap];exact List.pmap_eq_map (f:=rgP) h
 have e2:(ln rq (l.pmap Subtype.mk h)).map (fH λx:BRg=>[Value.string x.1.lo,Value.string x.1.hi,Value.bool x.1.op])=(vi l).map rgP:=by unfold vi;rw[dif_pos h,List.map_map];rfl
 rw[e1,e2]at this
 exact this
theorem sW (l:List Rg)(h:bT l)(hl:l.length<=1000000000):Fn prog 126 [cU l] (pn l):=by
 have hr:∀r∈l,gg r=true:=λr hr=>by
  obtain⟨i,hi,rfl⟩:=List.getElem_of_mem hr
  exact(h i hi).1
 have hf:l.filter gg=l:=List.filter_eq_self.2 hr
 have hs:∀r∈l,r.lo.size<=1000000000000:=λr q=>by have:=((cg r).1 (hr r q)).1;omega
 have h1:=E8 l hs hl
 rw[Re h hs]at h1
 have:=J5 l l (by rw[hf];exact h1) (by rw[hf]) hr ((E7 h).imp λ{x y} q=>by grind) hl
 rwa [XU h]at this
def L5:PV:=⟨λ_ _ _=>True,λ_ _ _ h=>h⟩
theorem Ir {α:Type}(l m:List α)(a:Nat)(h:a+m.length<=l.length)(q:Nat):(l.take a++m++l.drop (a+m.length))[q]?=if a<=q/\q<a+m.length then m[q-a]? else l[q]?:=by grind[List.getElem?_append_right]
section
variable {P:Program} {n:Nat} {ops:Array Oper} {o:Oper} {F:List Nat} {S T:St} {C:Ctx} {g:Gh} {a:Act} {w w':World} {t:Nat}
theorem Wz {ty e':TypeId}{x:Operand}{lo hi:Option Operand}{id vr e k l h:Nat}{es:List (List PV)}(hp:Pl n o t)(ho:o.op=.slice ty x lo hi none)(hT:gB P ty (.slice e'))(hk:gC P e' k)(h0:Nat.blt 0 k=true)
 (hx:S.opd x=.row id vr) (hv:S.ver id=vr) (hb:S.blk id=.row e k es) (hbn:Ng S lo hi es.length l h) (hlt:l<es.length):aB n P ops o ((2*id+1)::(aG x++rQ lo hi)) (.vw id vr k l (h-l)) [] S:=
 aZ hp λC T g a w hA hR=>by
  obtain⟨h1,h2⟩:=oH (x:=x) hA (λk h=>by simp[h]) aA hR hx hv hb
  have hvt:=(hA.2 id aA).2
  rcases h2 with⟨_,rfl⟩|⟨cap,cs,q1,q2,q3,q4,q5,q6,q7⟩
  ·simp at hlt
  ·have b3:=hbn.2.2.1
   have b4:=hbn.2.2.2
   refine⟨.slice (some ⟨g.ph id,l*k,none⟩) (h-l) (cap-l),?_,⟨ae,λ_=>⟨cap-l,rfl,ae⟩⟩⟩
   have hr:=mG (P:=P) (ad:=some ⟨g.ph id,0,none⟩) (c:=cap) (w:=w) hT.h hk.h (aaq h0) hA (λk h=>by simp[h]) hR hbn ae
   rw[aab ae]at hr
   simp_all[execOp,Addr.add_lit]
theorem Cy {ty e':TypeId}{x:Operand}{id vr k lo len:Nat}(hp:Pl n o t)(ho:k9 o ty x)(hT:gB P ty (.slice e'))(hx:S.opd x=.vw id vr k lo len)(hv:S.ver id=vr) :
 aB n P ops o ((2*id+1)::aG x) (iC .i64 (len:Int)) [] S:=
 aZ hp λC T g a w hA hR=>by
  have h:=aM (x:=x) hA (λk h=>by simp[h]) hR
  rw[hx]at h
  obtain⟨c,hc,_⟩:=h.2 (by rw[(hA.2 id aA).2,hv])
  exact⟨_,pJ ho hc (wv hT.h w),rfl⟩
theorem wb {ty e':TypeId}{x ix:Operand}{id vr k lo len i:Nat}{kk:IntKind}{z:Int}(hp:Pl n o t)(ho:o.op=.indexAddr ty x ix)(hT:gB P ty (.slice e'))(hk:gC P e' k)(h0:Nat.blt 0 k=true)
 (hx:S.opd x=.vw id vr k lo len) (hv:S.ver id=vr) (hi:S.opd ix=iC kk z) (hz:z=(i:Int)) (hlt:i<len):aB n P ops o ((2*id+1)::(aG x++aG ix)) (.ept id vr k (lo+i) 0) [] S:=
 aZ hp λC T g a w hA hR=>by
  have h:=aM (x:=x) hA (λk h=>by simp[h]) hR
  rw[hx]at h
  obtain⟨c,hc,_⟩:=h.2 (by rw[(hA.2 id aA).2,hv])
  have hvt:=(hA.2 id aA).2
  have h3:=bf (x:=ix) hA (λk h=>by simp[h]) hR hi
  refine⟨.pointer (some ⟨g.ph id,lo*k+i*k,none⟩),?_,⟨ae,λ_=>by rw[Nat.add_mul,abo]⟩⟩
  subst hz
  simp only[execOp,ho,hc,h3,Sem.run_bind,j8 hT.h hk.h (aaq h0) hlt];rfl
theorem Rh {ty e':TypeId}{x:Operand}{id vr e k lo len:Nat}{es es':List (List PV)}{z:Value}(hp:Gi o)(ho:o.op=.call { callee:=.builtin .clear,args:=#[x],argTypes:=#[ty] })(hT:gB P ty (.slice e'))(hz:ky P e' z)
 (hzk:z.cells.size=k) (hz1:z.cells.toList.all (·.oneCell')=true)
 (hx:S.opd x=.vw id vr k lo len) (hv:S.ver id=vr) (hb:S.blk id=.row e k es) (hl:lo+len<=es.length) (hn:0<len)
 (he:es.take lo++List.replicate len (List.replicate k L5)++es.drop (lo+len)=es'):aB n P ops o ((2*id+1)::aG x) .any [(id,vr,.row e k es')] S:=by
 subst he
 refine⟨?_⟩
 intro C T hA a w ⟨g,hR⟩
 have h:=aM (x:=x) hA (λk h=>by simp[h]) hR
 rw[hx]at h
 obtain⟨c,hc,_⟩:=h.2 (by rw[(hA.2 id aA).2,hv])
 have hvt:=(hA.2 id aA).2
 have hB:=hR.blks id
 rw[(hA.2 id aA).1,hb]at hB
 rcases hB with⟨_,rfl⟩|⟨cap,cs,q1,q2,q3,q4,q5,q6,q7⟩
 ·simp at hl;omega
 obtain⟨vs,hvs⟩:∃vs,vs=(Builtin.zeroCells z.cells len).toList:=⟨_,rfl⟩
 have hvl:vs.length=len*k:=by rw[hvs];simp[Builtin.zeroCells,hzk]
 have hv1:∀v∈vs,v.oneCell'=true:=by grind[Builtin.zeroCells,abB]
 have hlk:lo*k+len*k<=cs.size:=by
  have:=aaT k (show lo+len<=cap by omega)
  rw[Nat.add_mul]at this;omega
 have hrun:=run_storeCells_at (P:=P) (g.ph id) (lo*k) e vs 0 cs w q2 ae hv1
 simp only[abo]at hrun
 have hexec:(execOp a.eval o).run P w=.ok (.value (.tuple #[])) (w.setRow (g.ph id) (cs.toList.take (lo*k)++vs++cs.toList.drop (lo*k+vs.length)).toArray):=by
  obtain⟨m,rfl⟩:∃m,len=m+1:=⟨len-1,ae⟩
  rw[hvs]at hrun
  have hcl:(Builtin.clear_ #[ty] o.type #[.slice (some ⟨g.ph id,lo*k,none⟩) (m+1) c]).run P w=.ok (.tuple #[]) (w.setRow (g.ph id) (cs.toList.take (lo*k)++vs++cs.toList.drop (lo*k+vs.length)).toArray):=by
   rw[hvs]
   simp[Builtin.clear_,run_underlying hT.h,NM hz.h,hrun]
  simp only[execOp,ho,resolve,invoke,builtin,Sem.run_bind,Sem.run_pure,Result.andThen_ok,List.map_toArray,List.map_cons,List.map_nil,hc,hcl]
 unfold jg
 rw[aae (by simp[Region.wanted,hp.1])]
 unfold Oper.wp
 rw[hexec,Oper.upon_value]
 have hst:=pI (cs':=(cs.toList.take (lo*k)++vs++cs.toList.drop (lo*k+vs.length)).toArray) hR rfl q2 q3
 have hver:(T.app o.dst .any [(id,vr,.row e k (es.take lo++List.replicate len (List.replicate k L5)++es.drop (lo+len)))]).ver=T.ver:=by
  funext i'
  rw[St.app_some_ver]
  grind
 refine⟨g,hR.app1 (c:=.any) (λt h=>by rw[hp.2]at h;cases h) (by rw[hver];exact hst) trivial ?_⟩
 rw[hver]
 have hlen2:(es.take lo++List.replicate len (List.replicate k L5)++es.drop (lo+len)).length=es.length:=bD
 have hel:∀q,(es.take lo++List.replicate len (List.replicate k L5)++es.drop (lo+len))[q]?=if lo<=q/\q<lo+len then(List.replicate len (List.replicate k L5))[q-lo]? else es[q]?:=by grind
 have hcell:∀q,((cs.toList.take (lo*k)++vs++cs.toList.drop (lo*k+vs.length)).toArray)[q]?=if lo*k<=q/\q<lo*k+vs.length then vs[q-lo*k]? else cs[q]?:=by
  intro q
  rw[abd,Ir cs.toList vs (lo*k) bD q]
  split
  ·rfl
  ·simp
 refine .inr ⟨cap,_,by rw[hlen2];exact q1,setRow_heap _ _ _ _ _ _ q2,q3,by rw[hlen2];exact q4,q5,by rw[aaV,aai,aai,aaK,abe,abp,hvl];omega,λi' ps' hi'=>?_⟩
 rw[hel]at hi'
 split at hi'
 ·rename_i hin
  rw[List.getElem?_replicate,aae ae]at hi'
  cases hi'
  refine⟨aA,λj A hj=>?_⟩
  rw[List.getElem?_replicate]at hj
  split at hj
  ·rename_i hjk
   cases hj
   have e1:lo*k<=i'*k:=aaT k hin.1
   have e2:(i'+1)*k<=(lo+len)*k:=aaT k hin.2
   rw[abj,Nat.add_mul]at e2
   rw[hcell,aae ae]
   exact⟨vs[i'*k+j-lo*k]'(ae),aaa _,hv1 _ (aar _),trivial⟩
  ·cases hj
 ·rename_i hout
  obtain⟨r1,r2⟩:=q7 i' ps' hi'
  refine⟨r1,λj A hj=>?_⟩
  obtain⟨u,s1,s2,s3⟩:=r2 j A hj
  have hjk:j<k:=by have:=(aaM.1 hj).1;omega
  rw[hcell,aab ?_]
  ·exact⟨u,s1,s2,A.mono hst.sz hst.keepN hst.n s3⟩
  ·rintro⟨h1,h2⟩
   rcases aaF i' lo with q|q
   ·have e1:=aaT k (show i'+1<=lo from q)
    rw[abj]at e1;omega
   ·have e1:=aaT k (show lo+len<=i' by omega)
    rw[Nat.add_mul]at e1;omega
theorem wc {ty e':TypeId}{x:Operand}{hi:Option Operand}{id vr e k h:Nat}{es es':List (List PV)}(hp:Pl n o t)(ho:o.op=.slice ty x none hi none)(hT:gB P ty (.slice e'))(hk:gC P e' k)(h0:Nat.blt 0 k=true)
 (hx:S.opd x=.row id vr) (hv:S.ver id=vr) (hb:S.blk id=.row e k es) (hbn:Ng S none hi es.length 0 h) (he:es.take h=es') (hfx:eL id=false:=by rfl) :
 aB n P ops o ((2*id+1)::(aG x++rQ none hi)) (.row id (vr+1)) [(id,vr+1,.row e k es')] S:=by
 subst he
 refine⟨?_⟩
 intro C T hA a w ⟨g,hR⟩
 obtain⟨h1,h2⟩:=oH (x:=x) hA (λk h=>by simp[h]) aA hR hx hv hb
 have hvt:=(hA.2 id aA).2
 have hbn4:h<=es.length:=hbn.2.2.2
 have hvr:∀i,(T.app o.dst (.row id (vr+1)) [(id,vr+1,.row e k (es.take h))]).ver i=if i=id then T.ver id+1 else T.ver i:=λi=>by rw[St.app_some_ver,hvt,hv]
 have hmul:(es.take h).length=h:=bD
 unfold jg
 rw[aae (hp.wanted a)]
 unfold Oper.wp
 rcases h2 with⟨q1,rfl⟩|⟨cap,cs,q1,q2,q3,q4,q5,q6,q7⟩
 ·have hh0:h=0:=by simpa using hbn4
  subst hh0
  have hr:=mG (P:=P) (ad:=none) (c:=0) (w:=w) hT.h hk.h (aaq h0) hA (λk h=>by simp[h]) hR hbn ae
  have hexec:(execOp a.eval o).run P w=.ok (.value (.slice none 0 0)) w:=by simp_all[execOp]
  rw[hexec,Oper.upon_value]
  have hst:=ni (v:=.slice none 0 0) (t:=id) hR (bQ.refl w) hvr hfx
  refine⟨g.mkN id (.slice none 0 0),hR.app1 hp.dOk hst ⟨by rw[hvr,aae rfl,hvt,hv];exact aaf _,λ_=>?_⟩ (.inl ⟨?_,aA⟩)⟩
  ·show _=(if id=id then _ else _);rw[aae rfl]
  ·show(if id=id then _ else _)=_;rw[aae rfl]
 ·have hr:=mG (P:=P) (ad:=some ⟨g.ph id,0,none⟩) (c:=cap) (w:=w) hT.h hk.h (aaq h0) hA (λk h=>by simp[h]) hR hbn ae
  have hexec:(execOp a.eval o).run P w=.ok (.value (.slice (some ⟨g.ph id,0,none⟩) h cap)) w:=by simp_all[execOp,Addr.add_lit]
  rw[hexec,Oper.upon_value]
  have hst:=ni (v:=.slice (some ⟨g.ph id,0,none⟩) h cap) (t:=id) hR (bQ.refl w) hvr hfx
  refine⟨g.mkN id (.slice (some ⟨g.ph id,0,none⟩) h cap),hR.app1 hp.dOk hst ⟨by rw[hvr,aae rfl,hvt,hv];exact aaf _,λ_=>?_⟩ (.inr ⟨cap,cs,?_,q2,q3,by rw[hmul];omega,q5,q6,λi ps hi=>?_⟩)⟩
  ·show _=(if id=id then _ else _);rw[aae rfl]
  ·show(if id=id then _ else _)=_;rw[aae rfl,hmul];rfl
  ·rw[aaW]at hi
   split at hi
   ·obtain⟨r1,r2⟩:=q7 i ps hi
    refine⟨r1,λj A hj=>?_⟩
    obtain⟨u,s1,s2,s3⟩:=r2 j A hj
    exact⟨u,s1,s2,A.mono hst.sz hst.keepN hst.n s3⟩
   ·cases hi
end
abbrev Vn:=Int×Int
abbrev vnP (v:Vn):List PV:=vrP v.1 v.2
abbrev Zl (v:Vn):Bool:=gc v.1 v.2
def jc (p:Vn):List Vn->List Vn
 | []=>[]
 | x::l=>if x=p then jc x l else x::jc x l
def n9:List Vn->List Vn
 | []=>[]
 | x::l=>x::jc x l
theorem AO (p:Vn)(l:List Vn):(jc p l).length<=l.length:=by induction l generalizing p<;>grind[jc]
theorem L6 (l:List Vn):(n9 l).length<=l.length:=by cases l<;>grind[AO,n9]
theorem Iu {l:List Vn}{k:Nat}(h:k<l.length)(h0:k=0):l.take (k+1)++jc l[k] (l.drop (k+1))=n9 l:=by
 subst h0
 cases l with
 | nil=>cases h
 | cons x l=>rfl
theorem WA (x y:Vn):(decide (x.1=y.1)&&(decide (x.2=y.2)&&true))=decide (x=y):=by rw[aav];simp[Prod.ext_iff]
theorem XW:ky prog 77 (.agg #[.int .i64 0,.int .i64 0]):=⟨by kernel_rfl⟩
theorem Ri (l:List Vn)(hl:l.length<=1000000000) :
 bZ prog 221 [.row 2000 0] [(2000,.row 77 2 (l.map vnP))] (.row 3000 0) [(3000,.row 77 2 ((n9 l).map vnP))]:=by
 have hE:∀x y:Vn,Jt prog 10000 77 [.int .i64 x.1,.int .i64 x.2] [.int .i64 y.1,.int .i64 y.2]=some (decide (x=y)):=λx y=>(BQ x.1 x.2 y.1 y.2).trans (aaA some (WA x y))
 by_cases h2:l.length<2
 ·have hR:n9 l=l:=by
   match l,h2 with
   | [],_=>rfl
   | [x],_=>rfl
  rw[hR]
  clear hE hR
  refine cp func221 ntmps221 ?_
  (refine rF ?_;refine ah λhc=>?_)
  refine jB [(2000,3000)] ?_
  exact nd rfl rfl
 generalize hR:n9 l=R
 have hRl:R.length<=l.length:=by rw[<-hR];exact L6 l
 refine cp func221 ntmps221 ?_
 (refine rF ?_;refine ah λhc=>?_)
 refine aj (X:=Nat) (λk=>k+1<=l.length/\∃h:k<l.length,l.take (k+1)++jc l[k] (l.drop (k+1))=R) (λk=>aF [(0,.row 2000 0),(3,iC .i64 ((k+1:Nat):Int))] [(2000,.row 77 2 (l.map vnP))]) (λk=>l.length-k) 0 ⟨ae,ae,(Iu ae rfl).trans hR⟩ ?_
 rintro k ⟨h1,h3,h4⟩
 by_cases hk:k+1<l.length
 ·have e0:((k+1:Nat):Int)-1=(k:Nat):=ae
  have kL1:Hid ((l.map vnP)[k]?=some (vnP l[k])):=Lib.hid (by rw[List.getElem?_map,aaa h3];rfl)
  have kL2:Hid ((l.map vnP)[k+1]?=some (vnP l[k+1])):=Lib.hid (by rw[List.getElem?_map,aaa hk];rfl)
  have hE1:=hE l[k+1] l[k]
  rw[List.drop_eq_getElem_cons hk]at h4
  unfold jc at h4
  by_cases hxy:l[k+1]=l[k]
  ·rw[aae hxy]at h4
   rw[aao hxy]at hE1
   have h4:l.take (k+1)++jc l[k+1] (l.drop (k+1+1))=R:=h4
   have hEa:=hE
   clear hE hR
   (refine eG e0 ?_;repeat' first|apply aw|refine ah λhc=>?_|((first|apply aH rfl|apply aJ rfl);(focus (try apply ag rfl rfl rfl rfl rfl);first|(exact ga (us:=[.int .i64 l[k+1].1,.int .i64 l[k+1].2]) (vs:=[.int .i64 l[k].1,.int .i64 l[k].2]) ⟨rfl,rfl,rfl⟩ rfl rfl rfl (by first|exact .inl ⟨rfl,rfl⟩|exact .inr ⟨rfl,rfl⟩) G1 rfl hE1)|((exact Wz (l:=k+1) (h:=l.length) ⟨rfl,rfl,rfl⟩ rfl aS aS rfl rfl rfl rfl ⟨⟨_,_,rfl,rfl⟩,aA,ae,aA⟩ bD)));refine eG e0 ?_))
   have h6:∃h:k+1+0<l.length,l.take (k+1)++jc l[k+1+0] (l.drop (k+1+0+1))=R:=⟨hk,h4⟩
   clear h4 kL1 kL2 hE1 hxy e0
   refine aj (X:=List Vn×Nat×Nat) (λx=>x.1.length=l.length/\x.2.1<k+1+x.2.2+1/\∃h:k+1+x.2.2<x.1.length,x.1.take x.2.1++jc x.1[k+1+x.2.2] (x.1.drop (k+1+x.2.2+1))=R)
    (λx=>aF [(0,.row 2000 0),(3,iC .i64 (x.2.1:Nat)),(4,.vw 2000 0 2 (k+1) (l.length-(k+1))),(5,iC .i64 ((x.2.2+1:Nat):Int))] [(2000,.row 77 2 (x.1.map vnP))]) (λx=>l.length-(k+1+x.2.2)) (l,k+1,0) ⟨rfl,aL,h6⟩ ?_
   clear h6
   rintro⟨M,kk,m⟩ ⟨g1,g2,g3,g4⟩
   simp only at g1 g2 g3 g4 ⊢
   by_cases hm:k+1+m+1<M.length
   ·have e1:((m+1:Nat):Int)-1=(m:Nat):=ae
    have kL1:Hid ((M.map vnP)[k+1+m]?=some (vnP M[k+1+m])):=Lib.hid (by rw[List.getElem?_map,aaa g3];rfl)
    have kL2:Hid ((M.map vnP)[k+1+(m+1)]?=some (vnP M[k+1+m+1])):=Lib.hid (by rw[List.getElem?_map,<-Nat.add_assoc,aaa hm];rfl)
    have hE1:=hEa M[k+1+m+1] M[k+1+m]
    rw[List.drop_eq_getElem_cons hm]at g4
    unfold jc at g4
    by_cases hxy:M[k+1+m+1]=M[k+1+m]
    ·rw[aae hxy]at g4
     rw[aao hxy]at hE1
     have g6:∃h:k+1+(m+1)<M.length,M.take kk++jc M[k+1+(m+1)] (M.drop (k+1+(m+1)+1))=R:=⟨hm,g4⟩
     clear g4 hEa
     generalize M[k+1+m+1]=x at *
     generalize M[k+1+m]=y at *
     (refine eG e1 ?_;repeat' first|apply aw|refine ah λhc=>?_|((first|apply aH rfl|apply aJ rfl);(focus (try apply ag rfl rfl rfl rfl rfl);first|(exact ga (us:=[.int .i64 x.1,.int .i64 x.2]) (vs:=[.int .i64 y.1,.int .i64 y.2]) ⟨rfl,rfl,rfl⟩ rfl rfl rfl (by first|exact .inl ⟨rfl,rfl⟩|exact .inr ⟨rfl,rfl⟩) G1 rfl hE1)|((exact Cy ⟨rfl,rfl,rfl⟩ rfl aS rfl rfl))|((exact wb (i:=m+1) ⟨rfl,rfl,rfl⟩ rfl aS aS rfl rfl rfl rfl rfl ae))|((exact wb (i:=m) ⟨rfl,rfl,rfl⟩ rfl aS aS rfl rfl rfl rfl rfl ae)));refine eG e1 ?_))
     refine⟨(M,kk,m+1),⟨g1,aL,g6⟩,aL,?_⟩
     exact ab
    ·rw[aab hxy]at g4
     rw[aap hxy]at hE1
     have hkk:kk<M.length:=ae
     have hS:(M.map vnP).set kk (cN (vnP M[kk]) 0 (vnP M[k+1+m+1]))=(M.set kk M[k+1+m+1]).map vnP:=cO vnP M kk _
     have g7:(M.set kk M[k+1+m+1]).length=l.length:=by rw[List.length_set];exact g1
     have g6:∃h:k+1+(m+1)<(M.set kk M[k+1+m+1]).length,(M.set kk M[k+1+m+1]).take (kk+1)++jc (M.set kk M[k+1+m+1])[k+1+(m+1)] ((M.set kk M[k+1+m+1]).drop (k+1+(m+1)+1))=R:=by grind[List.drop_set_of_lt,bp,List.take_set_of_le]
     have kL3:=kL1
     clear kL1
     have kL1:Hid ((M.map vnP)[kk]?=some (vnP M[kk])):=Lib.hid (by rw[List.getElem?_map,aaa hkk];rfl)
     have kS1:=Lib.hid hS
     clear g4 hEa hS
     generalize M.set kk M[k+1+m+1]=M' at *
     generalize M[k+1+m+1]=x at *
     generalize M[k+1+m]=y at *
     generalize M[kk]=z at *
     (refine eG e1 ?_;repeat' first|apply aw|refine ah λhc=>?_|((first|apply aH rfl|apply aJ rfl);(focus (try apply ag rfl rfl rfl rfl rfl);first|(exact ga (us:=[.int .i64 x.1,.int .i64 x.2]) (vs:=[.int .i64 y.1,.int .i64 y.2]) ⟨rfl,rfl,rfl⟩ rfl rfl rfl (by first|exact .inl ⟨rfl,rfl⟩|exact .inr ⟨rfl,rfl⟩) G1 rfl hE1)|((exact Cy ⟨rfl,rfl,rfl⟩ rfl aS rfl rfl))|((exact wb (i:=m+1) ⟨rfl,rfl,rfl⟩ rfl aS aS rfl rfl rfl rfl rfl ae))|((exact wb (i:=m) ⟨rfl,rfl,rfl⟩ rfl aS aS rfl rfl rfl rfl rfl ae)));refine eG e1 ?_))
     refine⟨(M',kk+1,m+1),⟨g7,aL,g6⟩,aL,?_⟩
     exact ab
   ·have hm:M.length=k+1+m+1:=ae
    rw[aay ae]at g4
    have hkk:kk<M.length:=ae
    have g4:M.take kk=R:=by rw[<-g4];simp[jc]
    have hcut:((M.map vnP).take kk++List.replicate (M.length-kk) (List.replicate 2 L5)++(M.map vnP).drop (kk+(M.length-kk))).take kk=R.map vnP:=by rw[aal,List.take_append_of_le_length bD,List.take_take,Nat.min_self,<-List.map_take,g4]
    clear hEa g4
    (refine rF ?_;repeat' first|apply aw|refine ah λhc=>?_|((first|apply aH rfl|apply cB rfl|apply aJ rfl|apply cC rfl);(focus (try apply ag rfl rfl rfl rfl rfl);first|((exact Cy ⟨rfl,rfl,rfl⟩ rfl aS rfl rfl))|((exact Wz (l:=kk) (h:=M.length) ⟨rfl,rfl,rfl⟩ rfl aS aS rfl rfl rfl rfl ⟨⟨_,_,rfl,rfl⟩,aA,ae,aA⟩ bD))|((exact Rh ⟨rfl,rfl⟩ rfl aS XW rfl rfl rfl rfl rfl (by rw[aad];omega) ae rfl))|((exact wc (h:=kk) ⟨rfl,rfl,rfl⟩ rfl aS aS rfl rfl rfl rfl ⟨rfl,⟨_,_,rfl,rfl⟩,ae,bD⟩ hcut)));refine rF ?_))
    refine jB [(2000,3000)] ?_
    exact nd rfl rfl
  ·rw[aab hxy]at h4
   rw[aap hxy]at hE1
   have h5:l.take (k+1+1)++jc l[k+1] (l.drop (k+1+1))=R:=by rw[<-h4,bp l (k+1) hk,aal];rfl
   have h6:∃h:k+1<l.length,l.take (k+1+1)++jc l[k+1] (l.drop (k+1+1))=R:=⟨hk,h5⟩
   clear h4 h5 hE hR
   generalize l[k+1]=x at *
   generalize l[k]=y at *
   (refine eG e0 ?_;repeat' first|apply aw|refine ah λhc=>?_|((first|apply aH rfl|apply aJ rfl);(focus (try apply ag rfl rfl rfl rfl rfl);(exact ga (us:=[.int .i64 x.1,.int .i64 x.2]) (vs:=[.int .i64 y.1,.int .i64 y.2]) ⟨rfl,rfl,rfl⟩ rfl rfl rfl (by first|exact .inl ⟨rfl,rfl⟩|exact .inr ⟨rfl,rfl⟩) G1 rfl hE1));refine eG e0 ?_))
   refine⟨k+1,⟨ae,h6⟩,ae,?_⟩
   exact ab
 ·have hk:l.length=k+1:=ae
  rw[aay ae,aaj ae]at h4
  have h4:l=R:=by rw[<-h4];simp[jc]
  subst h4
  clear hE hR
  (refine rF ?_;refine ah λhc=>?_)
  refine jB [(2000,3000)] ?_
  exact nd rfl rfl
def sX (x y:Vn):Int:=GZ x.1 x.2 y.1 y.2
theorem E9 (x y:Vn):ltOf sX x y=true↔x.1<y.1\/x.1=y.1/\x.2<y.2:=by grind[ltOf,sX,GZ]
theorem uD (x y:Vn):ltOf sX x y=false↔¬(x.1<y.1\/x.1=y.1/\x.2<y.2):=by rw[<-E9];simp
theorem uE:Sort.SWO (ltOf sX) where
 irrefl x:=by rw[uD];omega
 trans x y z h1 h2:=by rw[E9]at *;omega
 ntrans x y z h1 h2:=by rw[uD]at *;omega
def oc (l:List Vn):List Vn:=ln sX l
theorem Iv (l:List Vn):(oc l).Perm l:=(jP uE l).1
theorem Fa:∀(l:List Vn)(p:Vn),(p::l).Pairwise (λx y=>ltOf sX y x=false)->((jc p l).length=l.length↔(p::l).Nodup):=by
 intro l
 induction l<;>grind[jc,AO,aa1,List.pairwise_cons,uD]
theorem Fb (l:List Vn):(n9 (oc l)).length=l.length↔l.Nodup:=by
 obtain⟨h1,h2⟩:=jP uE l
 have h1:(oc l).Perm l:=h1
 have h2:(oc l).Pairwise (λx y=>ltOf sX y x=false):=h2
 rw[<-h1.nodup_iff,<-h1.length_eq]
 generalize oc l=L at *
 cases L<;>grind[n9,Fa]
def so_ver_ren:Go.Shelf.Ren:=⟨fun|6=>219|14=>258|15=>254|20=>297|21=>298|22=>299|23=>300|24=>301|25=>302|26=>303|27=>304|28=>285|29=>286|46=>329|47=>321|48=>322|49=>330|50=>331|57=>349|n=>n,fun|0=>0|3=>3|4=>4|5=>5|9=>9|22=>208|24=>77|25=>288|39=>305|45=>344|46=>345|50=>349|53=>180|55=>41|66=>374|70=>377|76=>392|77=>393|n=>n,λn=>n⟩
theorem XX:SlLaysF0.n6 prog so_ver_ren:={ mixed:=by kernel_rfl,f6:=⟨Tryz.f219.name,bP,func219.trans (aaA some (by kernel_rfl))⟩,f14:=⟨Tryz.f258.name,bP,func258.trans (aaA some (by kernel_rfl))⟩,f15:=func254.trans (aaA some (by kernel_rfl)),f20:=⟨Tryz.f297.name,bP,func297.trans (aaA some (by kernel_rfl))⟩,f21:=⟨Tryz.f298.name,bP,func298.trans (aaA some (by kernel_rfl))⟩,f22:=⟨Tryz.f299.name,bP,func299.trans (aaA some (by kernel_rfl))⟩,f23:=⟨Tryz.f300.name,bP,func300.trans (aaA some (by kernel_rfl))⟩,f24:=⟨Tryz.f301.name,bP,func301.trans (aaA some (by kernel_rfl))⟩,f25:=⟨Tryz.f302.name,bP,func302.trans (aaA some (by kernel_rfl))⟩,f26:=⟨Tryz.f303.name,bP,func303.trans (aaA some (by kernel_rfl))⟩,f27:=⟨Tryz.f304.name,bP,func304.trans (aaA some (by kernel_rfl))⟩,f28:=func285.trans (aaA some (by kernel_rfl)),f29:=func286.trans (aaA some (by kernel_rfl)),f46:=⟨Tryz.f329.name,bP,func329.trans (aaA some (by kernel_rfl))⟩,f47:=func321.trans (aaA some (by kernel_rfl)),f48:=func322.trans (aaA some (by kernel_rfl)),f49:=⟨Tryz.f330.name,bP,func330.trans (aaA some (by kernel_rfl))⟩,f50:=⟨Tryz.f331.name,bP,func331.trans (aaA some (by kernel_rfl))⟩,f57:=⟨Tryz.f349.name,bP,func349.trans (aaA some (by kernel_rfl))⟩,t0:=underlying0,a0:=Tryz.isAgg0,z0:=Tryz.sizeOf0,v0:=Tryz.zeroValue0,t3:=underlying3,a3:=Tryz.isAgg3,z3:=Tryz.sizeOf3,v3:=Tryz.zeroValue3,t4:=underlying4,a4:=Tryz.isAgg4,z4:=Tryz.sizeOf4,v4:=Tryz.zeroValue4,t5:=underlying5,a5:=Tryz.isAgg5,z5:=Tryz.sizeOf5,v5:=Tryz.zeroValue5,t9:=underlying9,a9:=Tryz.isAgg9,z9:=Tryz.sizeOf9,v9:=Tryz.zeroValue9,t22:=underlying208,a22:=Tryz.isAgg208,z22:=Tryz.sizeOf208,v22:=Tryz.zeroValue208,t25:=underlying288,a25:=Tryz.isAgg288,z25:=Tryz.sizeOf288,v25:=Tryz.zeroValue288,t39:=underlying305,a39:=Tryz.isAgg305,z39:=Tryz.sizeOf305,v39:=Tryz.zeroValue305,t45:=underlying344,a45:=Tryz.isAgg344,z45:=Tryz.sizeOf344,v45:=Tryz.zeroValue344,t46:=underlying345,a46:=Tryz.isAgg345,z46:=Tryz.sizeOf345,v46:=Tryz.zeroValue345,t50:=underlying349,a50:=Tryz.isAgg349,z50:=Tryz.sizeOf349,v50:=Tryz.zeroValue349,t53:=underlying180,a53:=Tryz.isAgg180,z53:=Tryz.sizeOf180,v53:=Tryz.zeroValue180,t55:=underlying41,a55:=Tryz.isAgg41,z55:=Tryz.sizeOf41,v55:=Tryz.zeroValue41,t66:=underlying374,a66:=Tryz.isAgg374,z66:=Tryz.sizeOf374,v66:=Tryz.zeroValue374,t70:=underlying377,a70:=Tryz.isAgg377,z70:=Tryz.sizeOf377,v70:=Tryz.zeroValue377,t76:=underlying392,a76:=Tryz.isAgg392,z76:=Tryz.sizeOf392,v76:=Tryz.zeroValue392,t77:=underlying393,a77:=Tryz.isAgg393,z77:=Tryz.sizeOf393,v77:=Tryz.zeroValue393 }
theorem Rj (x y:Vn)(w:World) :
 Calls prog 220 #[.agg #[.int .i64 x.1,.int .i64 x.2],.agg #[.int .i64 y.1,.int .i64 y.2]] w λe w'=>e=.returned (.int .i64 (sX x y))/\Gw w w':=by
 unfold sX GZ
 go_enter func220,ntmps220
 go_wp2
 all_goals (go_ret;exact⟨rfl,((Gw.refl w).alloc _).alloc _⟩)
abbrev Zm (l:List Vn):Cnt:=.bor 2 (l.map vnP)
theorem Rk (l:List Vn)(hl:l.length<=1000000000) :
 bZ prog 219 [.row 1000 0,.per (ai (.func (.func 220) #[] #[]))] [(1000,.row 77 2 (l.map vnP))] .any [(1000,.row 77 2 ((oc l).map vnP))]:=
 uq (e:=77) (k:=2) (G:=220) XX Tryz.isAgg77 Tryz.sizeOf77 (enc:=λx:Vn=>[.int .i64 x.1,.int .i64 x.2]) ⟨bP,λ_=>rfl,λx v hv=>by simp at hv;rcases hv with rfl|rfl<;>rfl⟩ uE (enters_of func220 (by kernel_rfl) rfl)
  (λx y w=>Rj x y w) (xO func219 (by kernel_rfl) (by kernel_rfl)) l ae
theorem Iw (l:List Vn)(hl:l.length<=1000000000):Fn prog 132 [Zm l] (.own 77 2 ((n9 (oc (l.filter Zl))).map vnP)):=by
 generalize hT:l.filter Zl=T at *
 have hTl:T.length<=1000000000:=by rw[<-hT];grind
 have hs:=Rk T hTl
 have hc1:=Ri (oc T) (by rw[(Iv T).length_eq];exact hTl)
 generalize n9 (oc T)=R at *
 generalize oc T=Q at *
 refine fi func132 ntmps132 ?_
 (refine rF ?_)
 refine bw (bS 3 600 77 2 rfl rfl) ?_
 refine aj (X:=Nat×List Vn) (λx=>x.1<=l.length/\x.2++(l.drop x.1).filter Zl=T)
  (λx=>aF [(3,.row 600 0),(6,Zm l),(7,iC .i64 (l.length:Nat)),(8,iC .i64 (x.1:Nat))] [(600,.row 77 2 (x.2.map vnP))]) (λx=>l.length-x.1) (0,[]) ⟨aag _,by simp[hT]⟩ ?_
 rintro⟨k,ac⟩ ⟨g1,g2⟩
 simp only at g1 g2 ⊢
 by_cases hk:k<l.length
 ·have hir:=p8 l[k].1 l[k].2
  have hlen:ac.length<=1000000000:=by
   have:=aaA List.length g2
   grind
  rw[List.drop_eq_getElem_cons hk,List.filter_cons]at g2
  cases hr:Zl l[k]with
  | false=>
   rw[show gc l[k].1 l[k].2=false from hr]at hir
   rw[hr]at g2
   clear hs hc1
   (refine oW hir ?_;repeat' first|apply aw|refine ah λhc=>?_)
   refine⟨(k+1,ac),⟨aL,by simpa using g2⟩,aL,?_⟩
   exact ab
  | true=>
   rw[show gc l[k].1 l[k].2=true from hr]at hir
   rw[hr]at g2
   clear hs hc1
   (refine oW hir ?_;repeat' first|apply aw|refine ah λhc=>?_)
   refine⟨(k+1,ac++[l[k]]),⟨aL,by simpa using g2⟩,aL,az (aU 600 601) (az (aU 601 600) ?_)⟩
   exact ab
 ·have hkl:k=l.length:=ae
  subst hkl
  rw[aba]at g2
  simp at g2
  subst g2
  (have km1:=(show fK [(1000,600)] _ _ _ _ _ _ from hs);have km2:=(show fK [(2000,600),(3000,700)] _ _ _ _ _ _ from hc1);refine rF ?_;(refine ah λhc=>?_);all_goals clear km2 km1)
  exact oo
theorem Fc (l:List It)(hr:l.all dA=true)(hl:l.length<=1000000):Fn prog 61 [eS l] (dE (jw l)):=by
 have hs:=Iw (l.map verOf) (by rw[aad];omega)
 have hf:(l.map verOf).filter Zl=l.map verOf:=by
  rw[List.filter_eq_self]
  intro v hv
  obtain⟨x,hx,rfl⟩:=List.mem_map.1 hv
  have:=aaH.1 hr x hx
  unfold dA at this
  simp only[aaC]at this
  exact this.1.2
 rw[hf]at hs
 have hb:jw l=decide (((n9 (oc (l.map verOf))).length:Int)=(l.length:Nat)):=by grind[jw,Fb]
 rw[hb]
 clear hf hr hb
 generalize n9 (oc (l.map verOf))=R at *
 refine fi func61 ntmps61 ?_
 (refine rF ?_)
 refine bw (bS 3 600 77 2 rfl rfl) ?_
 refine aj (X:=Nat) (λk=>k<=l.length)
  (λk=>aF [(0,eS l),(3,.row 600 0),(6,eS l),(7,iC .i64 (l.length:Nat)),(8,iC .i64 (k:Nat))] [(600,.row 77 2 (((l.take k).map verOf).map vnP))]) (λk=>l.length-k) 0 (aag _) ?_
 intro k hk
 by_cases hlt:k<l.length
 ·have hsn:(l.take (k+1)).map verOf=(l.take k).map verOf++[(l[k].rep,l[k].cnt)]:=by rw[bp l k hlt,List.map_append];rfl
  have hln:((l.take k).map verOf).length<=1000000:=bD
  clear hs
  generalize (l.take k).map verOf=A at *
  (refine rF ?_;refine ah λhc=>?_)
  refine⟨k+1,hlt,ae,az (aU 600 601) (az (aU 601 600) ?_)⟩
  rw[hsn]
  exact ab
 ·rw[aaj ae]
  (refine oW hs ?_;refine ah λhc=>?_)
  exact dz
