/- Lemmas, walks. -/
import Derived.Test.YtecdgdoledkdfaaGreatJ26
set_option maxRecDepth 10000
set_option maxHeartbeats 8000000
namespace Go.Proofs.YtecdgdoledkdfaaGreat
open Go.RowKit Go.Proofs.Tryz
variable {l:List UInt8}
section
variable {P:Program} {n t:Nat} {ops:Array Oper} {o:Oper} {S:St} {K E:TypeId}
theorem nN {ty:TypeId}{x k:Operand}{id vr m:Nat}{f:ByteArray->Int}{s:ByteArray}{z:Int}(hp:Pl n o t)(ho:o.op=.lookup ty x k false)(hK:P.underlying K=some .string)(hT:P.underlying ty=some (.map K E))(hE:P.underlying E=some (.int .i64))
 (hz:∀w:World,(zeroValue E).run P w=.ok (.int .i64 0) w) (hx:S.opd x=.row id vr) (hv:S.ver id=vr) (hb:S.blk id=.obj (CK P K E m f)) (hk:S.opd k=sC s) (hs:s.size<=maxLen) (hf:f s=z) :
 aB n P ops o ((2*id+1)::(aG x++aG k)) (iC .i64 z) [] S:=hf▸MB hp ho hK hT hE hz hx hv hb hk hs
theorem yL {ty:TypeId}{x k y:Operand}{id vr m:Nat}{f f':ByteArray->Int}{s:ByteArray}{z:Int}(hp:Gi o)(ho:o.op=.mapUpdate ty x k y)(hK:P.underlying K=some .string)(hT:P.underlying ty=some (.map K E))(hE:P.underlying E=some (.int .i64))
 (hx:S.opd x=.row id vr) (hv:S.ver id=vr) (hb:S.blk id=.obj (CK P K E m f)) (hk:S.opd k=sC s) (hs:s.size<=maxLen) (hy:S.opd y=iC .i64 z) (hw:(Lit.int .i64 z).wf=true) (hm:m<maxLen) (hf:(λu=>if u=s then z else f u)=f') :
 aB n P ops o ((2*id+1)::(aG x++aG k++aG y)) .any [(id,vr,.obj (CK P K E (m+1) f'))] S:=hf▸MC hp ho hK hT hE hx hv hb hk hs hy hw hm
end
theorem tv (w:World):(zeroValue 3).run prog w=.ok (.int .i64 0) w:=by
 have h:(prog.info? 3).bind (·.zero)=some (.int .i64 0):=by kernel_rfl
 cases hi:prog.info? 3 with
 | none=>rw[hi]at h;cases h
 | some i=>
  rw[hi]at h
  have h:i.zero=some (.int .i64 0):=h
  simp[zeroValue,typeInfo,hi,h]
theorem MD (l:List It)(hl:l.length<=1000000000)(hall:l.all dA=true):Fn prog 104 [eS l] (dE (Au l)):=by
 rw[aaH]at hall
 refine fi func104 ntmps104 ?_
 (refine w0 ?_;repeat' first|apply aw|refine ah λhc=>?_|((first|apply aH rfl|apply aJ rfl);(focus (try apply ag rfl rfl rfl rfl rfl);((exact Sa (K:=9) (E:=3) ⟨rfl,rfl,rfl⟩ rfl)));refine w0 ?_))
 refine ci (X:=Nat) (λi=>i<=l.length/\((l.take i).map It.key).Nodup)
  (λi=>aF [(3,.row 6 0),(7,eS l),(8,iC .i64 (l.length:Nat)),(9,iC .i64 (i:Nat))] [(6,.obj (CK prog 9 3 i (m9 l i)))]) (λi=>l.length-i) 0 ⟨aag _,aA⟩ ?_ ?_
 ·rw[IL]
  exact ab
 ·rintro i ⟨h1,h2⟩
  by_cases hi:i<l.length
  ·have hr:=hall _ (aar hi)
   have hk:=fQ hr
   have hkr:mj l[i].key=true:=by grind[dA]
   have c1:=z6 l[i].key
   rw[hkr]at c1
   have hks:l[i].key.size<=maxLen:=by unfold maxLen;omega
   have him:i<maxLen:=by unfold maxLen;omega
   by_cases hd:l[i].key∈(l.take i).map It.key
   ·have g0:m9 l i l[i].key=1:=FB hd
    have hu:Au l=false:=by
     rw[<-aaB,qo]
     grind[yH]
    obtain⟨F,hF⟩:∃F:ByteArray->Int,(λu=>if u=l[i].key then(2:Int)else m9 l i u)=F:=⟨_,rfl⟩
    have g1:F l[i].key=2:=by rw[<-hF];simp
    rw[hu]
    clear hk hall
    (refine cE (show(1:Int)+1=2 from rfl) c1 ?_;repeat' first|apply aw|refine ah λhc=>?_|((first|apply aH rfl|apply cB rfl|apply aJ rfl|apply cC rfl);(focus (try apply ag rfl rfl rfl rfl rfl);first|((exact nN ⟨rfl,rfl,rfl⟩ rfl underlying9 underlying261 underlying3 tv rfl rfl rfl rfl hks g0))|((exact nN ⟨rfl,rfl,rfl⟩ rfl underlying9 underlying261 underlying3 tv rfl rfl rfl rfl hks g1))|((exact yL ⟨rfl,rfl⟩ rfl underlying9 underlying261 underlying3 rfl rfl rfl rfl hks rfl bP him hF)));refine cE (show(1:Int)+1=2 from rfl) c1 ?_))
    exact dz
   ·have g0:m9 l i l[i].key=0:=FC hd
    have hF:=IM hi
    have g1:m9 l (i+1) l[i].key=1:=by rw[<-hF];simp
    have h2:=yG hi h2 hd
    clear hk hall
    (refine cE (show(0:Int)+1=1 from rfl) c1 ?_;repeat' first|apply aw|refine ah λhc=>?_|((first|apply aH rfl|apply cB rfl|apply aJ rfl|apply cC rfl);(focus (try apply ag rfl rfl rfl rfl rfl);first|((exact nN ⟨rfl,rfl,rfl⟩ rfl underlying9 underlying261 underlying3 tv rfl rfl rfl rfl hks g0))|((exact nN ⟨rfl,rfl,rfl⟩ rfl underlying9 underlying261 underlying3 tv rfl rfl rfl rfl hks g1))|((exact yL ⟨rfl,rfl⟩ rfl underlying9 underlying261 underlying3 rfl rfl rfl rfl hks rfl bP him hF)));refine cE (show(0:Int)+1=1 from rfl) c1 ?_))
    refine⟨i+1,⟨ae,h2⟩,ae,?_⟩
    exact ab
  ·rw[aaj ae]at h2
   have hu:Au l=true:=qo.2 ⟨aaH.2 hall,h2⟩
   rw[hu]
   clear hall
   (refine w0 ?_;refine ah λhc=>?_)
   exact dz
theorem CL (b:Bool):Fn prog 97 [bC b] (eA (jq b)):=by
 cases b with
 | false=>
  refine fi func97 ntmps97 ?_
  (refine w0 ?_;refine ah λhc=>?_)
  exact uZ
 | true=>
  refine fi func97 ntmps97 ?_
  (refine w0 ?_;refine ah λhc=>?_)
  exact uZ
theorem Yf (s:Nat):Fn prog 100 [iC .u64 (s:Nat)] (gN (C1 s)):=by
 rw[show C1 s=Gm 8 s from rfl]
 refine fi func100 ntmps100 ?_
 (repeat' (first|((first|apply aH rfl|apply cB rfl|apply aJ rfl|apply cC rfl);focus (first|((exact Ew (m:=8) ⟨rfl,rfl,rfl⟩ rfl aS aS rfl rfl rfl rfl ae ae))|(apply gR;(focus rfl);apply ag rfl rfl rfl rfl rfl;((exact Ew (m:=8) ⟨rfl,rfl,rfl⟩ rfl aS aS rfl rfl rfl rfl ae ae)))))|refine oq ?_|refine bW cI ?_|(refine dW rfl rfl ⟨λhc=>?_,λhc=>?_⟩<;>(repeat rw[aad]at hc)<;>(try exact cj hc))|((first|refine dX rfl rfl rfl ⟨λhc=>?_,λhc=>?_⟩|refine dY rfl rfl rfl ⟨λhc=>?_,λhc=>?_⟩)<;>(fail_if_success (have q:(true=true):=hc))<;>(fail_if_success (have q:(false=false):=hc))<;>(repeat rw[aad]at hc)<;>(try exact cj hc))|refine aQ rfl rfl (λhc=>?_) ?_))
 refine ci (X:=Nat) (λk=>k<=8) (λk=>aF [(0,iC .u64 (s:Nat)),(3,.row 5 0),(7,iC .i64 8),(8,iC .i64 (k:Nat))] [(5,.row 5 1 ((CJ 8 s k).map byteP))]) (λk=>8-k) 0 ae ?_ ?_
 ·rw[WG]
  exact ab
 ·intro k hk
  have hl:=Ko 8 s k hk
  by_cases hlt:k<8
  ·have hZ:=Ks (s:=s) (k:=k) (b:=IntKind.u64.bits) (by show 8*k<=64;omega)
   have hW:=mc (s / 256 ^ k)
   have HJ:((CJ 8 s k).map byteP)[k]?=some (byteP 0):=by rw[List.getElem?_map,Kp 8 s k hlt];rfl
   have HS:((CJ 8 s k).map byteP).set k (cN (byteP 0) 0 (byteP (UInt8.ofNat (s / 256 ^ k))))=(CJ 8 s (k+1)).map byteP:=by rw[<-Kr 8 s k hlt,List.map_set];rfl
   generalize s / 256 ^ k=q at *
   (repeat' (first|((first|apply aH rfl|apply cB rfl|apply aJ rfl|apply cC rfl);focus (first|((exact jX ⟨rfl,rfl,rfl⟩ rfl rfl rfl ae hZ))|(apply gR;(focus rfl);apply ag rfl rfl rfl rfl rfl;((exact jX ⟨rfl,rfl,rfl⟩ rfl rfl rfl ae hZ)))|((apply bn 10;(focus rfl);exact dR ⟨rfl,rfl,rfl⟩ rfl aS aS rfl hW))|(apply gR;(focus rfl);apply ag rfl rfl rfl rfl rfl;((apply bn 10;(focus rfl);exact dR ⟨rfl,rfl,rfl⟩ rfl aS aS rfl hW)))))|refine oq ?_|refine bW cI ?_|(refine dW rfl rfl ⟨λhc=>?_,λhc=>?_⟩<;>(repeat rw[aad]at hc)<;>(try exact cj hc))|((first|apply aH rfl|apply cB rfl|apply aJ rfl|apply cC rfl);focus (first|((apply bn 6;(focus rfl);exact aW ⟨rfl,rfl⟩ rfl aS rfl rfl rfl rfl HJ rfl (bd rfl rfl rfl) rfl HS))|(apply gR;(focus rfl);apply ag rfl rfl rfl rfl rfl;((apply bn 6;(focus rfl);exact aW ⟨rfl,rfl⟩ rfl aS rfl rfl rfl rfl HJ rfl (bd rfl rfl rfl) rfl HS)))))|((first|refine dX rfl rfl rfl ⟨λhc=>?_,λhc=>?_⟩|refine dY rfl rfl rfl ⟨λhc=>?_,λhc=>?_⟩)<;>(fail_if_success (have q:(true=true):=hc))<;>(fail_if_success (have q:(false=false):=hc))<;>(repeat rw[aad]at hc)<;>(try exact cj hc))|refine aQ rfl rfl (λhc=>?_) ?_))
   refine⟨k+1,ae,ae,?_⟩
   exact ab
  ·obtain rfl:k=8:=ae
   rw[WH]at *
   (refine w0 ?_;refine ah λhc=>?_)
   exact dr (cJ rfl rfl rfl rfl)
abbrev Zs (l:List Int):Ret:=.own 3 1 (l.map YN)
theorem IQ (m:Msg):Fn prog 44 [zw m] (Zs (da m)):=by
 unfold da
 by_cases c1:m.kind=1
 ·rw[aae c1]
  have h1:=CL m.wants
  refine fi func44 ntmps44 ?_
  (repeat' (first|((first|apply aH rfl|apply cB rfl|apply aJ rfl|apply cC rfl);focus (first|((apply bn 15;(focus rfl);solve|(apply b0<;>first|exact⟨rfl,rfl,rfl⟩|rfl|infer_instance|(repeat (first|exact bH.nil|(apply bH.cons;(focus (first|exact bd rfl rfl rfl|exact dc rfl|exact dd rfl))))))))|(apply gR;(focus rfl);apply ag rfl rfl rfl rfl rfl;((apply bn 15;(focus rfl);solve|(apply b0<;>first|exact⟨rfl,rfl,rfl⟩|rfl|infer_instance|(repeat (first|exact bH.nil|(apply bH.cons;(focus (first|exact bd rfl rfl rfl|exact dc rfl|exact dd rfl)))))))))))|refine oq ?_|refine bW cI ?_|(refine dW rfl rfl ⟨λhc=>?_,λhc=>?_⟩<;>(repeat rw[aad]at hc)<;>(try exact cj hc))|((first|apply aH rfl|apply cB rfl|apply aJ rfl|apply cC rfl);focus (first|exact nS (h1)))|((first|refine dX rfl rfl rfl ⟨λhc=>?_,λhc=>?_⟩|refine dY rfl rfl rfl ⟨λhc=>?_,λhc=>?_⟩)<;>(fail_if_success (have q:(true=true):=hc))<;>(fail_if_success (have q:(false=false):=hc))<;>(repeat rw[aad]at hc)<;>(try exact cj hc))|refine aQ rfl rfl (λhc=>?_) ?_))
  exact oo
 rw[aab c1]
 by_cases c2:m.kind=2
 ·rw[aae c2]
  have h1:=CL m.same
  refine fi func44 ntmps44 ?_
  (repeat' (first|((first|apply aH rfl|apply cB rfl|apply aJ rfl|apply cC rfl);focus (first|((apply bn 15;(focus rfl);solve|(apply b0<;>first|exact⟨rfl,rfl,rfl⟩|rfl|infer_instance|(repeat (first|exact bH.nil|(apply bH.cons;(focus (first|exact bd rfl rfl rfl|exact dc rfl|exact dd rfl))))))))|(apply gR;(focus rfl);apply ag rfl rfl rfl rfl rfl;((apply bn 15;(focus rfl);solve|(apply b0<;>first|exact⟨rfl,rfl,rfl⟩|rfl|infer_instance|(repeat (first|exact bH.nil|(apply bH.cons;(focus (first|exact bd rfl rfl rfl|exact dc rfl|exact dd rfl)))))))))))|refine oq ?_|refine bW cI ?_|(refine dW rfl rfl ⟨λhc=>?_,λhc=>?_⟩<;>(repeat rw[aad]at hc)<;>(try exact cj hc))|((first|apply aH rfl|apply cB rfl|apply aJ rfl|apply cC rfl);focus (first|exact nS (h1)))|((first|refine dX rfl rfl rfl ⟨λhc=>?_,λhc=>?_⟩|refine dY rfl rfl rfl ⟨λhc=>?_,λhc=>?_⟩)<;>(fail_if_success (have q:(true=true):=hc))<;>(fail_if_success (have q:(false=false):=hc))<;>(repeat rw[aad]at hc)<;>(try exact cj hc))|refine aQ rfl rfl (λhc=>?_) ?_))
  exact oo
 rw[aab c2]
 by_cases c3:m.kind=3
 ·rw[aae c3]
  refine fi func44 ntmps44 ?_
  (repeat' (first|((first|apply aH rfl|apply cB rfl|apply aJ rfl|apply cC rfl);focus (first|((apply bn 15;(focus rfl);solve|(apply b0<;>first|exact⟨rfl,rfl,rfl⟩|rfl|infer_instance|(repeat (first|exact bH.nil|(apply bH.cons;(focus (first|exact bd rfl rfl rfl|exact dc rfl|exact dd rfl))))))))|(apply gR;(focus rfl);apply ag rfl rfl rfl rfl rfl;((apply bn 15;(focus rfl);solve|(apply b0<;>first|exact⟨rfl,rfl,rfl⟩|rfl|infer_instance|(repeat (first|exact bH.nil|(apply bH.cons;(focus (first|exact bd rfl rfl rfl|exact dc rfl|exact dd rfl)))))))))))|refine oq ?_|refine bW cI ?_|(refine dW rfl rfl ⟨λhc=>?_,λhc=>?_⟩<;>(repeat rw[aad]at hc)<;>(try exact cj hc))|((first|refine dX rfl rfl rfl ⟨λhc=>?_,λhc=>?_⟩|refine dY rfl rfl rfl ⟨λhc=>?_,λhc=>?_⟩)<;>(fail_if_success (have q:(true=true):=hc))<;>(fail_if_success (have q:(false=false):=hc))<;>(repeat rw[aad]at hc)<;>(try exact cj hc))|refine aQ rfl rfl (λhc=>?_) ?_))
  exact oo
 rw[aab c3]
 by_cases c5:m.kind=5
 ·rw[aae c5]
  have h1:=CL m.last
  refine fi func44 ntmps44 ?_
  (repeat' (first|((first|apply aH rfl|apply cB rfl|apply aJ rfl|apply cC rfl);focus (first|((apply bn 15;(focus rfl);solve|(apply b0<;>first|exact⟨rfl,rfl,rfl⟩|rfl|infer_instance|(repeat (first|exact bH.nil|(apply bH.cons;(focus (first|exact bd rfl rfl rfl|exact dc rfl|exact dd rfl))))))))|(apply gR;(focus rfl);apply ag rfl rfl rfl rfl rfl;((apply bn 15;(focus rfl);solve|(apply b0<;>first|exact⟨rfl,rfl,rfl⟩|rfl|infer_instance|(repeat (first|exact bH.nil|(apply bH.cons;(focus (first|exact bd rfl rfl rfl|exact dc rfl|exact dd rfl)))))))))))|refine oq ?_|refine bW cI ?_|(refine dW rfl rfl ⟨λhc=>?_,λhc=>?_⟩<;>(repeat rw[aad]at hc)<;>(try exact cj hc))|((first|apply aH rfl|apply cB rfl|apply aJ rfl|apply cC rfl);focus (first|exact nS (h1)))|((first|refine dX rfl rfl rfl ⟨λhc=>?_,λhc=>?_⟩|refine dY rfl rfl rfl ⟨λhc=>?_,λhc=>?_⟩)<;>(fail_if_success (have q:(true=true):=hc))<;>(fail_if_success (have q:(false=false):=hc))<;>(repeat rw[aad]at hc)<;>(try exact cj hc))|refine aQ rfl rfl (λhc=>?_) ?_))
  exact oo
 rw[aab c5]
 by_cases c6:m.kind=6
 ·rw[aae c6]
  refine fi func44 ntmps44 ?_
  (repeat' (first|((first|apply aH rfl|apply cB rfl|apply aJ rfl|apply cC rfl);focus (first|((apply bn 15;(focus rfl);solve|(apply b0<;>first|exact⟨rfl,rfl,rfl⟩|rfl|infer_instance|(repeat (first|exact bH.nil|(apply bH.cons;(focus (first|exact bd rfl rfl rfl|exact dc rfl|exact dd rfl))))))))|(apply gR;(focus rfl);apply ag rfl rfl rfl rfl rfl;((apply bn 15;(focus rfl);solve|(apply b0<;>first|exact⟨rfl,rfl,rfl⟩|rfl|infer_instance|(repeat (first|exact bH.nil|(apply bH.cons;(focus (first|exact bd rfl rfl rfl|exact dc rfl|exact dd rfl)))))))))))|refine oq ?_|refine bW cI ?_|(refine dW rfl rfl ⟨λhc=>?_,λhc=>?_⟩<;>(repeat rw[aad]at hc)<;>(try exact cj hc))|((first|refine dX rfl rfl rfl ⟨λhc=>?_,λhc=>?_⟩|refine dY rfl rfl rfl ⟨λhc=>?_,λhc=>?_⟩)<;>(fail_if_success (have q:(true=true):=hc))<;>(fail_if_success (have q:(false=false):=hc))<;>(repeat rw[aad]at hc)<;>(try exact cj hc))|refine aQ rfl rfl (λhc=>?_) ?_))
  exact oo
 ·rw[aab c6]
  refine fi func44 ntmps44 ?_
  (repeat' (first|((first|apply aH rfl|apply cB rfl|apply aJ rfl|apply cC rfl);focus (first|((apply bn 15;(focus rfl);solve|(apply b0<;>first|exact⟨rfl,rfl,rfl⟩|rfl|infer_instance|(repeat (first|exact bH.nil|(apply bH.cons;(focus (first|exact bd rfl rfl rfl|exact dc rfl|exact dd rfl))))))))|(apply gR;(focus rfl);apply ag rfl rfl rfl rfl rfl;((apply bn 15;(focus rfl);solve|(apply b0<;>first|exact⟨rfl,rfl,rfl⟩|rfl|infer_instance|(repeat (first|exact bH.nil|(apply bH.cons;(focus (first|exact bd rfl rfl rfl|exact dc rfl|exact dd rfl)))))))))))|refine oq ?_|refine bW cI ?_|(refine dW rfl rfl ⟨λhc=>?_,λhc=>?_⟩<;>(repeat rw[aad]at hc)<;>(try exact cj hc))|((first|refine dX rfl rfl rfl ⟨λhc=>?_,λhc=>?_⟩|refine dY rfl rfl rfl ⟨λhc=>?_,λhc=>?_⟩)<;>(fail_if_success (have q:(true=true):=hc))<;>(fail_if_success (have q:(false=false):=hc))<;>(repeat rw[aad]at hc)<;>(try exact cj hc))|refine aQ rfl rfl (λhc=>?_) ?_))
  exact oo
theorem kO (p:List UInt8)(h:p.length<=300000000):(txB p).length<=p.length+9:=by
 unfold txB bi
 have hs:(⟨p.toArray⟩:ByteArray).size=p.length:=by simp[ByteArray.size]
 rw[hs,aai]
 have:=bv (p.length:Int) ae
 grind[aO]
theorem Yg (b:List UInt8)(ps:List (List UInt8))(hb:b.length<=1000000)(hn:ps.length<=100)(hs:∀p∈ps,p.length<=300000000):Fn prog 48 [.per (aK b),.bor 1 (ps.map oe)] (.per (aK (b++ps.flatMap txB))):=by
 generalize hR:b++ps.flatMap txB=R
 refine fi func48 ntmps48 ?_
 (refine w0 ?_)
 refine aj (X:=Nat×List UInt8) (λx=>x.1<=ps.length/\x.2.length<=1000000+300000009*x.1/\x.2++(ps.drop x.1).flatMap txB=R)
  (λx=>aF [(0,.per (aK x.2)),(7,.bor 1 (ps.map oe)),(8,iC .i64 (ps.length:Nat)),(9,iC .i64 (x.1:Nat))] []) (λx=>ps.length-x.1) (0,b) ⟨aag _,aL,hR⟩ ?_
 rintro⟨i,acc⟩ ⟨h1,h2,h3⟩
 simp only at h1 h2 h3 ⊢
 by_cases hi:i<ps.length
 ·rw[List.drop_eq_getElem_cons hi,List.flatMap_cons,<-aal]at h3
  have hp:=hs _ (aar hi)
  have hl:=kO ps[i] hp
  have e:[(⟨ps[i].toArray⟩:ByteArray)].flatMap bi=txB ps[i]:=by simp[txB]
  have c1:=(fx acc [⟨ps[i].toArray⟩] (by rw[e];omega)).frz
  rw[e]at c1
  clear e hs hR
  (refine au c1 ?_;refine ah λhc=>?_)
  refine⟨(i+1,acc++txB ps[i]),⟨aL,by grind,h3⟩,aL,?_⟩
  exact ab
 ·rw[aay ae,aaZ,aan]at h3
  subst h3
  clear hs
  (refine w0 ?_;refine ah λhc=>?_)
  exact Nj
structure uN (m:Msg):Prop where
 flt:m.flt.length<=4096
 ksz:fe m.know
 kfew:sq m.know
 kln:m.know.length<=4096
 thr:m.there.length<=1000000
 its:m.its.length<=4096
 prt:∀p∈(mB m).1,p.length<=300000000
theorem FG (m:Msg):(mB m).1.length<=3:=by grind[mB]
theorem Bb (m:Msg)(h:∀n∈da m,bF n):((da m).flatMap aO).length<=63:=by
 have h1:=yI m
 have key:∀l:List Int,(∀n∈l,bF n)->(l.flatMap aO).length<=9*l.length:=by
  intro l
  induction l<;>grind[jY]
 have:=key _ h
 omega
theorem wj {α:Type}(l:List α):decide (l=[])=decide ((l.length:Int)=0):=by cases l<;>grind
theorem Sb (m:Msg)(hB:uN m):Fn prog 45 [zw m] (.tup2 (.per (cn 1 ((mB m).1.map oe))) (dE (mB m).2)):=by
 obtain⟨b1,b2,b3,b4,b5,b6,b7⟩:=hB
 clear b7
 unfold mB
 by_cases c1:m.kind=1
 ·simp only[aae c1]
  have a1:=(sf m.flt b1 (decide (bT m.flt)) aA).frz
  have a2:=(JG m.know b2 b3 b4 (decide (aY m.know)) aA).frz
  clear b2 b3
  generalize decide (bT m.flt)=d1 at *
  generalize decide (aY m.know)=d2 at *
  cases d1<;>cases d2
  all_goals
   simp only[if_true,aaL,if_false,Bool.and_true,abs]at a1 a2 ⊢
   refine fi func45 ntmps45 ?_
   (refine bt a1 a2 ?_;repeat' first|apply aw|refine ah λhc=>?_)
   exact dV (cS rfl) (aP rfl rfl)
 simp only[aab c1]
 by_cases c4:m.kind=4
 ·simp only[aae c4]
  have a1:=(sf [m.rg] aA (decide (bT [m.rg])) aA).frz
  have a2:=(Yf m.sum).frz
  clear b2 b3
  generalize decide (bT [m.rg])=d1 at *
  cases d1
  all_goals
   simp only[if_true,aaL,if_false]at a1 ⊢
   refine fi func45 ntmps45 ?_
   (refine bt a1 a2 ?_;repeat' first|apply aw|refine ah λhc=>?_)
   exact dV (cS rfl) (aP rfl rfl)
 simp only[aab c4]
 by_cases c5:m.kind=5
 ·simp only[aae c5]
  have a1:=(Ef m.its b6).frz
  have a2:=(JG m.know b2 b3 b4 (decide (aY m.know)) aA).frz
  clear b2 b3
  generalize m.its.all dA=d1 at *
  generalize decide (aY m.know)=d2 at *
  cases d1<;>cases d2
  all_goals
   simp only[if_true,aaL,if_false,Bool.and_true,abs]at a1 a2 ⊢
   refine fi func45 ntmps45 ?_
   (refine bt a1 a2 ?_;repeat' first|apply aw|refine ah λhc=>?_)
   exact dV (cS rfl) (aP rfl rfl)
 simp only[aab c5]
 clear b2 b3
 refine fi func45 ntmps45 ?_
 (refine w0 ?_;repeat' first|apply aw|refine ah λhc=>?_)
 exact dV (eZ rfl) (aP rfl rfl)
theorem FH (m:Msg)(h1:m.there.length<=1000000)(h2:m.its.length<=4096):Fn prog 46 [zw m] (dE (CG m)):=by
 unfold CG
 by_cases c1:m.kind=1
 ·rw[aae c1,wj]
  obtain⟨q,hq⟩:∃q,mn m.there=q:=⟨_,rfl⟩
  obtain⟨x,e⟩:=q
  rw[hq]
  simp only
  by_cases he:e=0
  ·subst he
   obtain⟨bits,probes,row⟩:=x
   have a1:=(xE m.there h1 0 hq).2
   clear hq
   refine fi func46 ntmps46 ?_
   (refine au a1 ?_;repeat' first|apply aw|refine ah λhc=>?_)
   all_goals
    refine dr ?_
    refine aP rfl ?_
    first|(simp[*];done)|(simp[*];omega)|(rw[aav];simp[*];done)|(rw[aav];simp[*];omega)
  ·have a1:=Hs m.there h1 0 hq he
   clear hq
   refine fi func46 ntmps46 ?_
   (refine au a1 ?_;repeat' first|apply aw|refine ah λhc=>?_)
   all_goals
    refine dr ?_
    refine aP rfl ?_
    first|(simp[*];done)|(rw[show(e==0)=false by simpa using he,aap he,aap hc,Bool.or_self,abs])|(simp[*];omega)|(rw[aav];simp[*];done)|(rw[aav];simp[*];omega)
 rw[aab c1]
 by_cases c2:m.kind=2\/m.kind=3\/m.kind=4
 ·rw[aae c2]
  rcases c2 with c2|c2|c2
  all_goals
   refine fi func46 ntmps46 ?_
   (refine w0 ?_;repeat' first|apply aw|refine ah λhc=>?_)
   exact dz
 rw[aab c2]
 by_cases c5:m.kind=5
 ·rw[aae c5,wj]
  refine fi func46 ntmps46 ?_
  (refine w0 ?_;repeat' first|apply aw|refine ah λhc=>?_)
  refine aj (X:=Nat) (λi=>i<=m.its.length/\(m.its.take i).all dA=true)
   (λi=>aF [(1,.ptr 1 0 0),(37,.per (cX m.its)),(38,iC .i64 (m.its.length:Nat)),(39,iC .i64 (i:Nat))] [(1,.box 52 ((bR m).map Cnt.per))]) (λi=>m.its.length-i) 0 ⟨aag _,rfl⟩ ?_
  rintro i ⟨g1,g2⟩
  by_cases hi:i<m.its.length
  ·have a1:=dL m.its[i]
   cases hr:dA m.its[i]with
   | false=>
    rw[hr]at a1
    have hu:Au m.its=false:=by
     rw[<-aaB,qo,aaH]
     grind
    rw[hu,aa2]
    (refine au a1 ?_;repeat' first|apply aw|refine ah λhc=>?_)
    exact dz
   | true=>
    rw[hr]at a1
    have g3:(m.its.take (i+1)).all dA=true:=by rw[bp _ i hi,List.all_append,g2];simp[hr]
    clear g2
    (refine au a1 ?_;repeat' first|apply aw|refine ah λhc=>?_)
    refine⟨i+1,⟨ae,g3⟩,ae,?_⟩
    exact ab
  ·rw[aaj ae]at g2
   have a1:=MD m.its ae g2
   cases hu:Au m.its with
   | false=>
    rw[hu]at a1
    rw[aa2]
    (refine au a1 ?_;refine ah λhc=>?_)
    exact dz
   | true=>
    rw[hu]at a1
    rw[aaX]
    (refine au a1 ?_;repeat' first|apply aw|refine ah λhc=>?_)
    all_goals
     refine dr ?_
     refine aP rfl ?_
     first|(simp[*];done)|(simp[*];omega)|(rw[aav];simp[*];done)|(rw[aav];simp[*];omega)
 rw[aab c5]
 by_cases c6:m.kind=6
 ·rw[aao c6,aaX]
  refine fi func46 ntmps46 ?_
  (refine w0 ?_;repeat' first|apply aw|refine ah λhc=>?_)
  refine dr ?_
  exact aP rfl aA
 ·rw[aap c6,aa2]
  refine fi func46 ntmps46 ?_
  (refine w0 ?_;repeat' first|apply aw|refine ah λhc=>?_)
  exact dz
theorem IR (m:Msg)(hB:uN m):Fn prog 15 [zw m] (.tup2 (.per (aK (eV m).1)) (eA (eV m).2)):=by
 have a1:=IQ m
 have a2:=Sb m hB
 have a3:=FH m hB.thr hB.its
 have hI:=tu m hB.its
 have hl:=yI m
 unfold eV
 by_cases n1:(da m).all bU=true
 ·have ok:=CI.1 n1
  have a4:=(jL [] (da m) bD ok).frz
  rw[aaE]at a4
  rw[n1,aaX]at hI
  have hlen:=Bb m ok
  cases n2:(mB m).2 with
  | false=>
   rw[n2]at hI a2
   have hI:lK m=false:=hI
   rw[hI]
   simp only[aaL,if_false]
   clear hB hI ok
   refine fi func15 ntmps15 ?_
   (refine u0 a1 a2 a3 a4 ?_;refine ah λhc=>?_)
   all_goals refine dV ?_ ?_
   all_goals first|exact eZ rfl|exact aq rfl rfl
  | true=>
   rw[n2]at hI a2
   by_cases n3:1<=m.ses
   ·rw[aao n3]at hI
    have hI:lK m=CG m:=by simpa using hI
    rw[hI]
    cases n4:CG m with
    | false=>
     rw[n4]at a3
     simp only[aaL,if_false]
     clear hB hI ok
     refine fi func15 ntmps15 ?_
     (refine u0 a1 a2 a3 a4 ?_;repeat' first|apply aw|refine ah λhc=>?_)
     all_goals refine dV ?_ ?_
     all_goals first|exact eZ rfl|exact aq rfl rfl
    | true=>
     rw[n4]at a3
     simp only[if_true]
     have hp:=hB.prt
     have hpl:=FG m
     have a5:=Yg ((da m).flatMap aO) (mB m).1 ae ae hp
     have e:(da m).flatMap aO++(mB m).1.flatMap txB=gM m:=by rw[CH n2];rfl
     have hll:(gM m).length<=1000000000:=by
      rw[<-e,aai]
      have key:∀l:List (List UInt8),(∀p∈l,p.length<=300000000)->(l.flatMap txB).length<=300000009*l.length:=by
       intro l
       induction l<;>grind[kO]
      have:=key _ hp
      omega
     rw[e]at a5
     have a6:=(VC [gM m] aA (λp hp=>by rw[abI]at hp;subst hp;exact hll)).frz
     rw[show [gM m].flatten=gM m by simp]at a6
     clear hB hI ok e hp
     generalize gM m=L at *
     generalize (mB m).1=ps at *
     by_cases hL:L.length<=32768
     ·rw[aae hL,aae hL]at a6
      simp only[aae hL]
      refine fi func15 ntmps15 ?_
      (refine Wj a1 a2 a3 a4 a5 a6 ?_;repeat' first|apply aw|refine ah λhc=>?_)
      all_goals refine dV ?_ ?_
      all_goals first|exact lO rfl rfl|exact aq rfl rfl
     ·rw[aab hL,aab hL]at a6
      simp only[aab hL]
      refine fi func15 ntmps15 ?_
      (refine Wj a1 a2 a3 a4 a5 a6 ?_;repeat' first|apply aw|refine ah λhc=>?_)
      all_goals refine dV ?_ ?_
      all_goals first|exact lO rfl rfl|exact aq rfl rfl
   ·rw[aap n3]at hI
    have hI:lK m=false:=by simpa using hI
    rw[hI]
    simp only[aaL,if_false]
    clear hB hI ok
    refine fi func15 ntmps15 ?_
    (refine u0 a1 a2 a3 a4 ?_;repeat' first|apply aw|refine ah λhc=>?_)
    all_goals refine dV ?_ ?_
    all_goals first|exact eZ rfl|exact aq rfl rfl
 ·have ok:¬∀n∈da m,bF n:=λq=>n1 (CI.2 q)
  have a4:=(zv [] (da m) ok).frz
  have hI:lK m=false:=by rw[hI,Bool.eq_false_iff.2 n1];rfl
  rw[hI]
  simp only[aaL,if_false]
  clear hB hI ok
  refine fi func15 ntmps15 ?_
  (refine u0 a1 a2 a3 a4 ?_;refine ah λhc=>?_)
  all_goals refine dV ?_ ?_
  all_goals first|exact eZ rfl|exact aq rfl rfl
theorem gm (most:Int)(l:List UInt8)(e:Int):(bm most l e).1.length<=l.length:=by
 have h:=(bL most l e).length_le
 unfold bm
 split
 ·simp
 ·split
  ·simp
  ·simp only[aaK]
   have:=(aC 0 most l e).length_le
   omega
abbrev Yh (ps:List (List UInt8)):Cnt:=.per (cn 1 (ps.map oe))
abbrev Ku (m:Msg):Blk:=.box 52 ((bR m).map Cnt.per)
theorem yM (n:Nat)(hn:n<=10)(l:List UInt8)(e:Int)(hl:l.length<=1000000000):bZ prog 112 [.aggK mQ .aggN,iC .i64 (n:Nat)] [(1000,cw l e)] (Yh (gu n l e).1) [(1000,cw (gu n l e).2.1 (gu n l e).2.2)]:=by
 generalize hR:gu n l e=R
 refine cp func112 ntmps112 ?_
 (refine w0 ?_)
 refine bw (bS 5 600 35 1 rfl rfl) ?_
 refine aj (X:=Nat×List (List UInt8)×List UInt8×Int) (λx=>x.1<=n/\x.2.1.length=x.1/\x.2.2.1.length<=1000000000/\(x.2.1++(gu (n-x.1) x.2.2.1 x.2.2.2).1,(gu (n-x.1) x.2.2.1 x.2.2.2).2)=R)
  (λx=>aF [(2,.ptr 2 0 0),(5,.row 600 0),(6,iC .i64 (n:Nat)),(7,iC .i64 (x.1:Nat))] [(1000,cw x.2.2.1 x.2.2.2),(2,.box 104 [mQ]),(600,.row 35 1 (x.2.1.map oe))]) (λx=>n-x.1) (0,[],l,e) ⟨aag _,rfl,hl,hR⟩ ?_
 rintro⟨k,ps,l,e⟩ ⟨h1,h2,h3,h4⟩
 simp only at h1 h2 h3 h4 ⊢
 by_cases hk:k<n
 ·obtain⟨m,hm⟩:∃m,n-k=m+1:=⟨n-k-1,ae⟩
  rw[hm,gu]at h4
  dsimp only at h4
  have a1:=nA l e 281474976710656
  have hs:=(bL 281474976710656 l e).length_le
  have ht:=gm 281474976710656 l e
  generalize bm Hv l e=q at *
  obtain⟨x,l',e'⟩:=q
  simp only at a1 hs ht h4
  have hx:(⟨x.toArray⟩:ByteArray).size<=1000000000000:=by show x.toArray.size<=_;rw[aaV];omega
  clear hR
  (refine dK a1 ?_;repeat' first|apply aw|refine ah λhc=>?_|((first|apply aH rfl|apply aJ rfl);(focus (try apply ag rfl rfl rfl rfl rfl);((apply bn 10;(focus rfl);exact od ⟨rfl,rfl,rfl⟩ rfl aS aS aS rfl hx)));refine dK a1 ?_))
  refine⟨(k+1,ps++[x],l',e'),⟨aL,by simp[h2],aL,?_⟩,aL,?_⟩
  ·rw[<-h4,show n-(k+1)=m by omega];simp
  ·exact ab
 ·rw[show n-k=0 by omega]at h4
  have h4:(ps++[],l,e)=R:=h4
  rw[aan]at h4
  subst h4
  refine bw (iW 600 _ 35 1 rfl rfl) ?_
  (refine w0 ?_;refine ah λhc=>?_)
  refine kC ?_
  exact nd rfl rfl
def cY (l:List UInt8):Msg×List (List UInt8)×List UInt8×Int:=
 let a:=bM l
 let b:=d7 a.1 a.2.1 a.2.2
 let c:=gu (gv b.1.kind) b.2.1 b.2.2
 (b.1,c.1,c.2.1,c.2.2)
theorem j3 (c:UInt8):IntKind.u64.wrap (c.toNat:Int)=(c.toNat:Int):=by
 have:=c.toNat_lt
 rw[IntKind.wrap_u64];omega
def YJ:List UInt8->Nat->Int->Int
 | [],_,s=>s
 | c::l,i,s=>YJ l (i+1) (bits .or .u64 s (IntKind.u64.wrap ((c.toNat:Int)*2 ^ min (8*(i:Int)).toNat IntKind.u64.bits)))
theorem Yi:∀(l:List UInt8)(i:Nat)(s:Int),0<=s->0<=YJ l i s:=by
 intro l
 induction l with
 | nil=>intro i s h;exact h
 | cons c l ih=>intro i s h;exact ih _ _ (lm _)
theorem VG {i a:Nat}(h:i<8)(ha:a<256 ^ i)(c:UInt8):bits .or .u64 (a:Int) (IntKind.u64.wrap ((c.toNat:Int)*2 ^ min (8*(i:Int)).toNat IntKind.u64.bits))=((a+256 ^ i*c.toNat:Nat):Int):=by
 have hc:=c.toNat_lt
 have e:min (8*(i:Int)).toNat IntKind.u64.bits=8*i:=by
  show min (8*(i:Int)).toNat 64=8*i
  omega
 have e2:(2:Int) ^ (8*i)=((256 ^ i:Nat):Int):=by rw[show(256:Nat) ^ i=2 ^ (8*i)from(Nat.pow_mul 2 8 i).symm];simp
 have hp:256 ^ i*256<=256 ^ 8:=by rw[<-Nat.pow_succ];exact Nat.pow_le_pow_right bP h
 have h8:(256:Nat) ^ 8=18446744073709551616:=bP
 have hm:256 ^ i*c.toNat<=256 ^ i*255:=Nat.mul_le_mul_left _ ae
 have hm2:256 ^ i*256=256 ^ i*255+256 ^ i:=ae
 rw[e,e2]
 have e3:IntKind.u64.wrap ((c.toNat:Int)*((256 ^ i:Nat):Int))=((256 ^ i*c.toNat:Nat):Int):=by
  rw[<-Int.natCast_mul,Nat.mul_comm c.toNat,IntKind.wrap_u64]
  generalize 256 ^ i*c.toNat=q at *
  omega
 rw[e3,u64_or_nat _ _ ae ae]
 have:=Nat.two_pow_add_eq_or_of_lt (i:=8*i) (b:=a) (by rw[Nat.pow_mul];exact ha) c.toNat
 rw[Nat.pow_mul]at this
 have this:256 ^ i*c.toNat+a=256 ^ i*c.toNat ||| a:=this
 rw[Nat.or_comm,<-this,Nat.add_comm]
theorem MF {i:Nat}(h:i<l.length):gj (l.take (i+1))=gj (l.take i)+256 ^ i*l[i].toNat:=by
 rw[List.take_add_one,aaa h,Option.toList_some,PT,aaK,show min i l.length=i by omega,Nat.pow_mul]
 simp[gj]
theorem IU (l:List UInt8)(hl:l.length<=1000000000):bZ prog 51 [.aggK mQ .aggN] [(1000,cw l 0)] (.tup2 (zw (cY l).1) (Yh (cY l).2.1)) [(1000,cw (cY l).2.2.1 (cY l).2.2.2)]:=by
 generalize hR:cY l=R
 dsimp only [cY,bM]at hR
 have a1:=dq l 0 1 6
 have s1:=(aC 1 6 l 0).length_le
 generalize af 1 6 l 0=q1 at *
 obtain⟨k,l1,e1⟩:=q1
 dsimp only at a1 s1 hR
 have a2:=dq l1 e1 1 281474976710656
 have s2:=(aC 1 281474976710656 l1 e1).length_le
 generalize af 1 281474976710656 l1 e1=q2 at *
 obtain⟨s,l2,e2⟩:=q2
 dsimp only at a2 s2 hR
 have a3:=iy l2 e2
 have s3:=(cQ l2 e2).length_le
 generalize bI l2 e2=q3 at *
 obtain⟨n,l3,e3⟩:=q3
 dsimp only at a3 s3 hR
 dsimp only [d7]at hR
 by_cases c1:k=1
 ·subst c1
  simp only[if_true]at hR
  have a4:=iy l3 e3
  have s4:=(cQ l3 e3).length_le
  generalize bI l3 e3=q4 at *
  obtain⟨n4,l4,e4⟩:=q4
  dsimp only at a4 s4 hR
  have a5:=iy l4 e4
  have s5:=(cQ l4 e4).length_le
  generalize bI l4 e4=q5 at *
  obtain⟨n5,l5,e5⟩:=q5
  dsimp only at a5 s5 hR
  have a6:=dq l5 e5 0 64
  have s6:=(aC 0 64 l5 e5).length_le
  generalize af 0 64 l5 e5=q6 at *
  obtain⟨n6,l6,e6⟩:=q6
  dsimp only at a6 s6 hR
  have a7:=ug l6 e6
  have s7:=(aC 0 1 l6 e6).length_le
  generalize af 0 1 l6 e6=q7 at *
  obtain⟨n7,l7,e7⟩:=q7
  dsimp only at a7 s7 hR
  have a8:bZ prog 112 [.aggK mQ .aggN,iC .i64 3] _ _ _:=yM 3 bP l7 e7 ae
  rw[show gv 1=3 from rfl]at hR
  generalize gu 3 l7 e7=q8 at *
  obtain⟨ps,l8,e8⟩:=q8
  dsimp only at a8 hR
  subst hR
  dsimp only
  clear s1 s2 s3 s4 s5 s6 s7
  refine cp func51 ntmps51 ?_
  (have kr1:=a1;have kr2:=a2;have kr3:=a3;have kr4:=a4;have kr5:=a5;have kr6:=a6;have kr7:=a7;have km1:=(show fK [(1000,1000)] _ _ _ _ _ _ from a8);refine w0 ?_;(refine ah λhc=>?_);all_goals clear km1 kr7 kr6 kr5 kr4 kr3 kr2 kr1)
  refine Tf ?_ ?_
  ·exact fW C0 aI
  ·exact nd rfl rfl
 rw[aab c1]at hR
 by_cases c2:k=2
 ·subst c2
  simp only[if_true]at hR
  have a4:=ug l3 e3
  generalize af 0 1 l3 e3=q4 at *
  obtain⟨n4,l4,e4⟩:=q4
  dsimp only at a4 hR
  rw[show gv 2=0 from rfl]at hR
  subst hR
  clear s1 s2 s3
  refine cp func51 ntmps51 ?_
  (refine nU a1 a2 a3 a4 ?_;repeat' first|apply aw|refine ah λhc=>?_)
  refine Tf ?_ ?_
  ·exact fW C0 aI
  ·exact fW (A:=ai (.slice none 0 0)) (nd rfl rfl) ct
 rw[aab c2]at hR
 by_cases c3:k=3
 ·subst c3
  simp only[if_true]at hR
  have a4:=iy l3 e3
  generalize bI l3 e3=q4 at *
  obtain⟨n4,l4,e4⟩:=q4
  dsimp only at a4 hR
  rw[show gv 3=0 from rfl]at hR
  subst hR
  clear s1 s2 s3
  refine cp func51 ntmps51 ?_
  (refine nU a1 a2 a3 a4 ?_;repeat' first|apply aw|refine ah λhc=>?_)
  refine Tf ?_ ?_
  ·exact fW C0 aI
  ·exact fW (A:=ai (.slice none 0 0)) (nd rfl rfl) ct
 rw[aab c3]at hR
 by_cases c5:k=5
 ·subst c5
  simp only[if_true]at hR
  have a4:=iy l3 e3
  have s4:=(cQ l3 e3).length_le
  generalize bI l3 e3=q4 at *
  obtain⟨n4,l4,e4⟩:=q4
  dsimp only at a4 s4 hR
  have a7:=ug l4 e4
  have s7:=(aC 0 1 l4 e4).length_le
  generalize af 0 1 l4 e4=q7 at *
  obtain⟨n7,l7,e7⟩:=q7
  dsimp only at a7 s7 hR
  have a8:bZ prog 112 [.aggK mQ .aggN,iC .i64 2] _ _ _:=yM 2 bP l7 e7 ae
  rw[show gv 5=2 from rfl]at hR
  generalize gu 2 l7 e7=q8 at *
  obtain⟨ps,l8,e8⟩:=q8
  dsimp only at a8 hR
  subst hR
  dsimp only
  clear s1 s2 s3 s4 s7
  refine cp func51 ntmps51 ?_
  (have kr1:=a1;have kr2:=a2;have kr3:=a3;have kr4:=a4;have kr5:=a7;have km1:=(show fK [(1000,1000)] _ _ _ _ _ _ from a8);refine w0 ?_;(repeat' first|apply aw|refine ah λhc=>?_);all_goals clear km1 kr5 kr4 kr3 kr2 kr1)
  refine Tf ?_ ?_
  ·exact fW C0 aI
  ·exact nd rfl rfl
 rw[aab c5]at hR
 by_cases c6:k=6
 ·subst c6
  simp only[if_true]at hR
  have a4:=dq l3 e3 1 281474976710656
  generalize af 1 281474976710656 l3 e3=q4 at *
  obtain⟨n4,l4,e4⟩:=q4
  dsimp only at a4 hR
  rw[show gv 6=0 from rfl]at hR
  subst hR
  clear s1 s2 s3
  refine cp func51 ntmps51 ?_
  (refine nU a1 a2 a3 a4 ?_;repeat' first|apply aw|refine ah λhc=>?_)
  refine Tf ?_ ?_
  ·exact fW C0 aI
  ·exact fW (A:=ai (.slice none 0 0)) (nd rfl rfl) ct
 rw[aab c6]at hR
 by_cases c4:k=4
 ·subst c4
  have a8:bZ prog 112 [.aggK mQ .aggN,iC .i64 2] _ _ _:=yM 2 bP l3 e3 ae
  rw[show gv 4=2 from rfl]at hR
  generalize gu 2 l3 e3=q8 at *
  obtain⟨ps,l8,e8⟩:=q8
  dsimp only at a8 hR
  subst hR
  dsimp only
  clear s1 s2 s3
  refine cp func51 ntmps51 ?_
  (refine D0 a1 a2 a3 (im a8) ?_;repeat' first|apply aw|refine ah λhc=>?_)
  refine Tf ?_ ?_
  ·exact fW C0 aI
  ·exact nd rfl rfl
 ·rw[show gv k=0 by unfold gv;rw[aab c1,aab (λq=>q.elim c4 c5)]]at hR
  subst hR
  clear s1 s2 s3
  refine cp func51 ntmps51 ?_
  (refine dQ a1 a2 a3 ?_;repeat' first|apply aw|refine ah λhc=>?_)
  refine Tf ?_ ?_
  ·exact fW C0 aI
  ·exact fW (A:=ai (.slice none 0 0)) (nd rfl rfl) ct
theorem VH (m:Msg)(ps:List (List UInt8))(hp:ps.length=gv m.kind)(hs:∀p∈ps,p.length<=1000000000)(h0:m.sum=0) :
 ∃m',bZ prog 53 [.ptr 1000 0 0,Yh ps] [(1000,Ku m)] (iC .i64 (dx m ps).2) [(1000,Ku m')]/\((dx m ps).2=0->m'=(dx m ps).1):=by
 by_cases c1:m.kind=1
 ·rw[gv,aae c1]at hp
  obtain⟨x,y,z,rfl⟩:∃x y z,ps=[x,y,z]:=by
   match ps,hp with
   | [x,y,z],_=>grind
  have a1:=(mS x (hs x aA)).frz
  have a2:=(vd y (hs y aA)).frz
  clear hs hp
  unfold dx
  simp only[aae c1,abA,List.getD_cons_succ]
  generalize dM x=f at *
  generalize dI y=g at *
  obtain⟨f1,f2⟩:=f
  obtain⟨g1,g2⟩:=g
  by_cases hf:f2=0
  ·subst hf
   refine⟨{ m with flt:=f1,know:=g1,there:=z },?_,λh=>?_⟩
   ·have e:(if(0:Int)≠0 then((m,(0:Int)):Msg×Int)else if g2≠0 then(m,g2)else({ m with flt:=f1,know:=g1,there:=z },0)).2=g2:=by
     rw[aab aA]
     by_cases hg:g2=0
     all_goals grind
    simp only at e ⊢
    rw[e]
    clear e h0
    refine cp func53 ntmps53 ?_
    (refine bt a1 a2 ?_;repeat' first|apply aw|refine ah λhc=>?_)
    refine kC ?_
    exact bh rfl rfl
   grind
  ·refine⟨{ m with flt:=f1,there:=z },?_,λh=>?_⟩
   ·simp only
    rw[aae hf]
    clear h0
    refine cp func53 ntmps53 ?_
    (refine bt a1 a2 ?_;repeat' first|apply aw|refine ah λhc=>?_)
    refine kC ?_
    exact bh rfl rfl
   grind
 by_cases c4:m.kind=4
 ·rw[gv,aab c1,aae (.inl c4)]at hp
  obtain⟨x,y,rfl⟩:∃x y,ps=[x,y]:=by
   match ps,hp with
   | [x,y],_=>exact⟨x,y,rfl⟩
  have a1:=(mS x (hs x aA)).frz
  have hy:=hs y aA
  clear hs hp
  unfold dx
  simp only[aab c1,aae c4,abA,List.getD_cons_succ]
  generalize dM x=f at *
  obtain⟨f1,f2⟩:=f
  by_cases hf:f2=0
  ·subst hf
   simp only
   rw[aab aA]
   by_cases hb:f1.length=1/\y.length=8
   ·rw[aae hb]
    obtain⟨b1,b2⟩:=hb
    obtain⟨r,rfl⟩:∃r,f1=[r]:=by
     match f1,b1 with
     | [r],_=>exact⟨r,rfl⟩
    refine⟨{ m with rg:=r,sum:=gj y },?_,λ_=>rfl⟩
    simp only
    refine cp func53 ntmps53 ?_
    (refine au a1 ?_;repeat' first|apply aw|refine ah λhc=>?_)
    refine ci (X:=Nat) (λi=>i<=8) (λi=>aF [(0,.ptr 1000 0 0),(5,iC .i64 0),(76,.per (aK y)),(77,iC .i64 (y.length:Nat)),(78,iC .i64 (i:Nat))] [(1000,Ku { m with rg:=r,sum:=gj (y.take i) })]) (λi=>8-i) 0 ae ?_ ?_
    ·rw[show gj (y.take 0)=m.sum by rw[h0];rfl]
     exact ab
    ·intro i hi
     by_cases hlt:i<8
     ·have hil:i<y.length:=ae
      have hS:=MF hil
      have hlo:=vU (y.take i)
      rw[aaK,show min i y.length=i by omega]at hlo
      have hz:=VG hlt hlo y[i]
      rw[<-hS]at hz
      have hw:=j3 y[i]
      have hz1:IntKind.u64.wrap (IntKind.u64.wrap (y[i].toNat:Int)*2 ^ min (8*(i:Int)).toNat IntKind.u64.bits)=IntKind.u64.wrap ((y[i].toNat:Int)*2 ^ min (8*(i:Int)).toNat IntKind.u64.bits):=by rw[j3]
      generalize IntKind.u64.wrap ((y[i].toNat:Int)*2 ^ min (8*(i:Int)).toNat IntKind.u64.bits)=Z at *
      generalize gj (y.take i)=s at *
      generalize hs':gj (y.take (i+1))=s' at *
      clear hS hlo a1
      (refine w0 ?_;repeat' first|apply aw|refine ah λhc=>?_|((first|apply aH rfl|apply aJ rfl);(focus (try apply ag rfl rfl rfl rfl rfl);first|((exact B5 ⟨rfl,rfl,rfl⟩ rfl rfl rfl ae hz1))|((exact Wu ⟨rfl,rfl,rfl⟩ rfl rfl rfl hz)));refine w0 ?_))
      refine⟨i+1,ae,ae,?_⟩
      rw[hs']
      exact ab
     ·rw[aaj ae]
      clear a1
      (refine w0 ?_;refine ah λhc=>?_)
      refine kC ?_
      exact bh rfl rfl
   ·rw[aab hb]
    refine⟨m,?_,λh=>absurd h aA⟩
    clear h0
    refine cp func53 ntmps53 ?_
    (refine au a1 ?_;repeat' first|apply aw|refine ah λhc=>?_)
    all_goals first|(exfalso;apply hb;constructor<;>first|omega|(simp only[List.getElem_cons_succ,List.getElem_cons_zero]at *;omega))|skip
    all_goals refine kC ?_
    all_goals exact bh rfl rfl
  ·simp only
   rw[aae hf]
   refine⟨{ m with sum:=(YJ y 0 0).toNat },?_,λh=>absurd h hf⟩
   have hF:=Yi y 0 0 (aby 0)
   generalize hFe:YJ y 0 0=F at *
   refine cp func53 ntmps53 ?_
   (refine au a1 ?_;repeat' first|apply aw|refine ah λhc=>?_)
   refine ci (X:=Nat×Nat) (λx=>x.1<=y.length/\YJ (y.drop x.1) x.1 (x.2:Int)=F) (λx=>aF [(0,.ptr 1000 0 0),(5,iC .i64 f2),(76,.per (aK y)),(77,iC .i64 (y.length:Nat)),(78,iC .i64 (x.1:Nat))] [(1000,Ku { m with sum:=x.2 })]) (λx=>y.length-x.1) (0,0) ⟨aag _,hFe⟩ ?_ ?_
   ·rw[show(((0,0):Nat×Nat)).2=m.sum from h0.symm]
    exact ab
   ·rintro⟨i,s⟩ ⟨g1,g2⟩
    simp only at g1 g2 ⊢
    by_cases hil:i<y.length
    ·rw[List.drop_eq_getElem_cons hil,YJ]at g2
     have hz1:IntKind.u64.wrap (IntKind.u64.wrap (y[i].toNat:Int)*2 ^ min (8*(i:Int)).toNat IntKind.u64.bits)=IntKind.u64.wrap ((y[i].toNat:Int)*2 ^ min (8*(i:Int)).toNat IntKind.u64.bits):=by rw[j3]
     generalize IntKind.u64.wrap ((y[i].toNat:Int)*2 ^ min (8*(i:Int)).toNat IntKind.u64.bits)=Z at *
     obtain⟨s',hz⟩:∃s':Nat,bits .or .u64 (s:Int) Z=(s':Int):=⟨_,(Int.toNat_of_nonneg (lm _)).symm⟩
     rw[hz]at g2
     clear a1 hFe hF
     (refine w0 ?_;repeat' first|apply aw|refine ah λhc=>?_|((first|apply aH rfl|apply aJ rfl);(focus (try apply ag rfl rfl rfl rfl rfl);first|((exact B5 ⟨rfl,rfl,rfl⟩ rfl rfl rfl ae hz1))|((exact Wu ⟨rfl,rfl,rfl⟩ rfl rfl rfl hz)));refine w0 ?_))
     refine⟨(i+1,s'),⟨aL,g2⟩,aL,?_⟩
     exact ab
    ·rw[aay ae]at g2
     have g2:(s:Int)=F:=g2
     have e:F.toNat=s:=ae
     rw[e]
     clear a1 hFe hF g2
     (refine w0 ?_;refine ah λhc=>?_)
     refine kC ?_
     exact bh rfl rfl
 by_cases c5:m.kind=5
 ·rw[gv,aab c1,aae (.inr c5)]at hp
  obtain⟨x,y,rfl⟩:∃x y,ps=[x,y]:=by
   match ps,hp with
   | [x,y],_=>exact⟨x,y,rfl⟩
  have a1:=(vu x (hs x aA)).frz
  have a2:=(vd y (hs y aA)).frz
  clear hs hp
  unfold dx
  simp only[aab c1,aab c4,aae c5,abA,List.getD_cons_succ]
  generalize dF x=f at *
  generalize dI y=g at *
  obtain⟨f1,f2⟩:=f
  obtain⟨g1,g2⟩:=g
  by_cases hf:f2=0
  ·subst hf
   refine⟨{ m with its:=f1,know:=g1 },?_,λh=>?_⟩
   ·have e:(if(0:Int)≠0 then((m,(0:Int)):Msg×Int)else if g2≠0 then(m,g2)else({ m with its:=f1,know:=g1 },0)).2=g2:=by
     rw[aab aA]
     by_cases hg:g2=0
     all_goals grind
    simp only at e ⊢
    rw[e]
    clear e h0
    refine cp func53 ntmps53 ?_
    (refine bt a1 a2 ?_;repeat' first|apply aw|refine ah λhc=>?_)
    refine kC ?_
    exact bh rfl rfl
   grind
  ·refine⟨{ m with its:=f1 },?_,λh=>?_⟩
   ·simp only
    rw[aae hf]
    clear h0
    refine cp func53 ntmps53 ?_
    (refine bt a1 a2 ?_;repeat' first|apply aw|refine ah λhc=>?_)
    refine kC ?_
    exact bh rfl rfl
   grind
 ·unfold dx
  simp only[aab c1,aab c4,aab c5]
  refine⟨m,?_,λ_=>rfl⟩
  clear hs hp h0
  refine cp func53 ntmps53 ?_
  (refine w0 ?_;repeat' first|apply aw|refine ah λhc=>?_)
  refine kC ?_
  exact bh rfl rfl
theorem Zt (h:(bM l).2.2=0):1<=(bM l).1.kind/\(bM l).1.kind<=6/\1<=(bM l).1.ses/\bU (bM l).1.ses=true/\bU (bM l).1.num=true:=by grind[bM,fS,bN,ks]
theorem Zu {m:Msg}{e:Int}(h:(d7 m l e).2.2=0)(h1:bU m.kind=true)(h2:bU m.ses=true)(h3:bU m.num=true):(da (d7 m l e).1).all bU=true:=by
 unfold d7 at h ⊢
 unfold da
 by_cases c1:m.kind=1
 ·grind[bN,fS,ks,kZ]
 simp only[aab c1]at h ⊢
 by_cases c2:m.kind=2
 ·grind[kZ]
 simp only[aab c2]at h ⊢
 by_cases c3:m.kind=3
 ·grind[fS,ks]
 simp only[aab c3]at h ⊢
 by_cases c5:m.kind=5
 ·grind[bN,fS,ks,kZ]
 simp only[aab c5]at h ⊢
 by_cases c6:m.kind=6
 all_goals grind[bN,ks]
theorem CM (m:Msg)(l:List UInt8)(e:Int):(d7 m l e).1.kind=m.kind/\(d7 m l e).1.ses=m.ses/\(d7 m l e).1.its=m.its/\(d7 m l e).1.flt=m.flt/\(d7 m l e).1.know=m.know/\(d7 m l e).1.there=m.there/\(d7 m l e).1.sum=m.sum/\(d7 m l e).1.rg=m.rg:=by
 unfold d7
 grind
theorem Zv {m:Msg}{p:List (List UInt8)}(h0:m.its=[])(h:(dx m p).2=0):(mB (dx m p).1).2=true/\(dx m p).1.ses=m.ses/\(dx m p).1.its.length<=4096:=by
 unfold dx at h ⊢
 unfold mB
 by_cases c1:m.kind=1
 ·grind[jM,i7]
 simp only[aab c1]at h ⊢
 by_cases c4:m.kind=4
 ·simp only[aae c4]at h ⊢
  by_cases a:(dM (p.getD 0 [])).2≠0
  ·rw[aae a]at h;exact absurd h a
  simp only[aab a]at h ⊢
  by_cases b:(dM (p.getD 0 [])).1.length=1/\(p.getD 1 []).length=8
  ·simp only[aae b]at h ⊢
   have q1:=(jM (aaG.1 a)).1
   obtain⟨r,hr⟩:∃r,(dM (p.getD 0 [])).1=[r]:=by
    match(dM (p.getD 0 [])).1,b.1 with
    | [r],_=>exact⟨r,rfl⟩
   rw[hr]at q1
   grind
  grind
 simp only[aab c4]at h ⊢
 by_cases c5:m.kind=5
 all_goals grind[jz,i7]
theorem Sc (h1:dg (gu (gv (d7 (bM l).1 (bM l).2.1 (bM l).2.2).1.kind) (d7 (bM l).1 (bM l).2.1 (bM l).2.2).2.1 (d7 (bM l).1 (bM l).2.1 (bM l).2.2).2.2).2.1 (gu (gv (d7 (bM l).1 (bM l).2.1 (bM l).2.2).1.kind) (d7 (bM l).1 (bM l).2.1 (bM l).2.2).2.1 (d7 (bM l).1 (bM l).2.1 (bM l).2.2).2.2).2.2=0)
 (h2:(dx (d7 (bM l).1 (bM l).2.1 (bM l).2.2).1 (gu (gv (d7 (bM l).1 (bM l).2.1 (bM l).2.2).1.kind) (d7 (bM l).1 (bM l).2.1 (bM l).2.2).2.1 (d7 (bM l).1 (bM l).2.1 (bM l).2.2).2.2).1).2=0) :
 lK (dx (d7 (bM l).1 (bM l).2.1 (bM l).2.2).1 (gu (gv (d7 (bM l).1 (bM l).2.1 (bM l).2.2).1.kind) (d7 (bM l).1 (bM l).2.1 (bM l).2.2).2.1 (d7 (bM l).1 (bM l).2.1 (bM l).2.2).2.2).1).1
 = CG (dx (d7 (bM l).1 (bM l).2.1 (bM l).2.2).1 (gu (gv (d7 (bM l).1 (bM l).2.1 (bM l).2.2).1.kind) (d7 (bM l).1 (bM l).2.1 (bM l).2.2).2.1 (d7 (bM l).1 (bM l).2.1 (bM l).2.2).2.2).1).1:=by
 have Nr:(bM l).1.its=[]:=rfl
 generalize ha:bM l=a at *
 have hns:=CM a.1 a.2.1 a.2.2
 generalize hb:d7 a.1 a.2.1 a.2.2=b at *
 generalize hc:gu (gv b.1.kind) b.2.1 b.2.2=c at *
 obtain⟨e1,e2⟩:=si h1
 have t:=Kl (gv b.1.kind) b.2.1 b.2.2 (by rw[hc];exact e2)
 rw[hc]at t
 obtain⟨t1,t2,t3⟩:=t
 have n:=Kk (m:=a.1) (l:=a.2.1) (e:=a.2.2) (by rw[hb];exact t1)
 rw[hb]at n
 obtain⟨n1,_⟩:=n
 have g:=Zt (l:=l) (by rw[ha];exact n1)
 rw[ha]at g
 obtain⟨g1,g2,g3,g4,g5⟩:=g
 have hno:=Zu (m:=a.1) (l:=a.2.1) (e:=a.2.2) (by rw[hb];exact t1) (ks ⟨ae,ae⟩) g4 g5
 rw[hb]at hno
 grind[Zv,Km,tu]
theorem uO (b:List UInt8):(iA b).1.length<=b.length:=by grind[iz,iA]
theorem yN:∀(n:Nat)(l:List UInt8)(e:Int),(gu n l e).1.length=n/\(∀p∈(gu n l e).1,p.length<=l.length)/\(gu n l e).2.1.length<=l.length:=by
 intro n
 induction n<;>grind[gu,gm,bL]
theorem FJ (l:List UInt8):(bM l).2.1.length<=l.length:=by grind[bM,af,cQ]
theorem FK (m:Msg)(l:List UInt8)(e:Int):(d7 m l e).2.1.length<=l.length:=by grind[d7,bI,aC]
theorem FL (m:Msg)(p:List (List UInt8))(n:Nat)(h0:m.there.length<=n)(hp:∀q∈p,q.length<=n)(h0':m.its.length<=4096):(dx m p).1.there.length<=n/\(dx m p).1.its.length<=4096:=by
 have hg:∀i,(p.getD i []).length<=n:=λi=>by
  rw[List.getD_eq_getElem?_getD]
  grind
 grind[dx,jz]
theorem IV (l:List UInt8):vW l=(if dg (cY l).2.2.1 (cY l).2.2.2≠0 then({},dg (cY l).2.2.1 (cY l).2.2.2)else if(dx (cY l).1 (cY l).2.1).2≠0 then({},(dx (cY l).1 (cY l).2.1).2)else if lK (dx (cY l).1 (cY l).2.1).1 then((dx (cY l).1 (cY l).2.1).1,0)else({},11)):=rfl
theorem Kv (b:List UInt8)(hb:b.length<=1000000):Fn prog 16 [.per (aK b)] (.tup2 (.per (MA (lW b).1)) (eA (lW b).2)):=by
 have a1:=VE b ae
 have hL:=uO b
 unfold lW
 generalize iA b=q at *
 obtain⟨L,e⟩:=q
 simp only at a1 hL ⊢
 by_cases he:e≠0
 ·rw[aae he]
  refine fi func16 ntmps16 ?_
  (refine au a1 ?_;refine ah λhc=>?_)
  refine dV ?_ ?_
  ·exact m5
  ·exact aq rfl rfl
 rw[aab he]
 have he:e=0:=aaG.1 he
 subst he
 have a2:=mR L ae
 have a3:=IU L ae
 have a4:=Ad (cY L).2.2.1 (cY L).2.2.2
 rw[IV]
 have hps:(cY L).2.1.length=gv (cY L).1.kind:=(yN _ _ _).1
 have hn:=CM (bM L).1 (bM L).2.1 (bM L).2.2
 have hpl:∀p∈(cY L).2.1,p.length<=1000000:=λp hp=>by
  have h1:=(yN _ _ _).2.1 p hp
  have h2:=FK (bM L).1 (bM L).2.1 (bM L).2.2
  have h3:=FJ L
  omega
 have hit:(cY L).1.its.length<=4096:=by
  show(d7 (bM L).1 (bM L).2.1 (bM L).2.2).1.its.length<=4096
  rw[hn.2.2.1];exact aag _
 have hth:(cY L).1.there.length<=1000000:=by
  show(d7 (bM L).1 (bM L).2.1 (bM L).2.2).1.there.length<=1000000
  rw[hn.2.2.2.2.2.1];exact aag _
 have hsm:(cY L).1.sum=0:=hn.2.2.2.2.2.2.1
 have hrr:dg (cY L).2.2.1 (cY L).2.2.2=0->(dx (cY L).1 (cY L).2.1).2=0->lK (dx (cY L).1 (cY L).2.1).1=CG (dx (cY L).1 (cY L).2.1).1:=Sc
 obtain⟨m',a5,hm'⟩:=VH (cY L).1 (cY L).2.1 hps (λp hp=>by have:=hpl p hp;omega) hsm
 have hB:=FL (cY L).1 (cY L).2.1 1000000 hth hpl hit
 clear hps hn hpl hit hth hsm
 generalize cY L=H at *
 obtain⟨m,ps,l',e'⟩:=H
 simp only at a3 a4 a5 hm' hrr hB ⊢
 generalize dg l' e'=v at *
 generalize dx m ps=D at *
 obtain⟨d,f⟩:=D
 simp only at a5 hm' hrr hB ⊢
 by_cases hv:v≠0
 ·rw[aae hv]
  clear hrr hm' hB
  refine fi func16 ntmps16 ?_
  (refine oU a1 a4 a2 (gn [(1000,19)] a3) (gn [(1000,7)] a5) ?_;repeat' first|apply aw|refine ah λhc=>?_)
  refine dV ?_ ?_
  ·exact m5
  ·exact aq rfl rfl
 rw[aab hv]
 have hv:v=0:=aaG.1 hv
 subst hv
 by_cases hf:f≠0
 ·rw[aae hf]
  clear hrr hm' hB
  refine fi func16 ntmps16 ?_
  (refine oU a1 a4 a2 (gn [(1000,19)] a3) (gn [(1000,7)] a5) ?_;repeat' first|apply aw|refine ah λhc=>?_)
  refine dV ?_ ?_
  ·exact m5
  ·exact aq rfl rfl
 rw[aab hf]
 have hf:f=0:=aaG.1 hf
 subst hf
 obtain rfl:=hm' rfl
 rw[hrr rfl rfl]
 obtain⟨b1,b2⟩:=hB
 have a6:=FH m' b1 b2
 clear hrr hm' b1 b2
 cases hr:CG m' with
 | false=>
  rw[hr]at a6
  rw[aab aA]
  refine fi func16 ntmps16 ?_
  (refine oV a1 a6 a4 a2 (gn [(1000,19)] a3) (gn [(1000,7)] a5) ?_;repeat' first|apply aw|refine ah λhc=>?_)
  refine dV ?_ ?_
  ·exact m5
  ·exact aq rfl rfl
 | true=>
  rw[hr]at a6
  rw[aae rfl]
  refine fi func16 ntmps16 ?_
  (refine oV a1 a6 a4 a2 (gn [(1000,19)] a3) (gn [(1000,7)] a5) ?_;repeat' first|apply aw|refine ah λhc=>?_)
  refine dV ?_ ?_
  ·exact m5
  ·exact aq rfl rfl
theorem CN (b:Bool):[[ai (.int .u8 (jq b))]]=(aO (jq b)).map byteP:=by
 cases b
 ·exact G3.symm
 ·exact G4.symm
theorem qq (n:Int):Fn prog 158 [iC .i64 n] (dE (bU n)):=by
 unfold bU
 refine fi func158 ntmps158 ?_
 (refine w0 ?_;repeat' first|apply aw|refine ah λhc=>?_)
 all_goals
  refine dr ?_
  refine aP rfl ?_
  first|(simp[*];done)|(rw[aav];simp[*];done)|(rw[aav];simp[*];omega)
theorem IW (b:Bool):Fn prog 161 [bC b] (.per (ai (.int .u8 (jq b)))):=by
 cases b with
 | false=>
  refine fi func161 ntmps161 ?_
  (refine w0 ?_;refine ah λhc=>?_)
  exact uZ
 | true=>
  refine fi func161 ntmps161 ?_
  (refine w0 ?_;refine ah λhc=>?_)
  exact uZ
theorem qr (l:List UInt8)(hl:l.length<=300000000):Fn prog 162 [dw l] (gN (txB l)):=by
 have a1:=jj ⟨l.toArray⟩ (by show l.toArray.size<=_;rw[aaV];omega)
 unfold txB
 refine fi func162 ntmps162 ?_
 (refine au a1 ?_)
 exact oo
theorem MG (l:List It)(hl:l.length<=1000000000):Fn prog 159 [eS l] (dE (Au l)):=by
 refine fi func159 ntmps159 ?_
 (refine w0 ?_)
 refine aj (X:=Nat) (λi=>i<=l.length/\(l.take i).all dA=true/\((l.take i).map It.key).Nodup) (λi=>aF [(0,eS l),(3,iC .i64 (i:Nat))] []) (λi=>l.length-i) 0 ⟨aag _,rfl,aA⟩ ?_
 rintro i ⟨h1,h2,h3⟩
 by_cases hi:i<l.length
 ·have a1:=fy l[i]
  cases hr:dA l[i]with
  | false=>
   rw[hr]at a1
   have hu:Au l=false:=by
    rw[<-aaB,qo,aaH]
    grind
   rw[hu]
   (refine au a1 ?_;repeat' first|apply aw|refine ah λhc=>?_)
   exact dz
  | true=>
   rw[hr]at a1
   have h2:(l.take (i+1)).all dA=true:=by rw[bp _ i hi,List.all_append,h2];simp[hr]
   (refine au a1 ?_;repeat' first|apply aw|refine ah λhc=>?_)
   refine aj (X:=Nat) (λk=>k<=i/\l[i].key∉(l.take k).map It.key) (λk=>aF [(0,eS l),(3,iC .i64 (i:Nat)),(4,iC .i64 (k:Nat))] []) (λk=>i-k) 0 ⟨aag _,aA⟩ ?_
   rintro k ⟨g1,g2⟩
   by_cases hk:k<i
   ·have hkl:k<l.length:=ae
    by_cases e:l[k].key=l[i].key
    ·have e':=(iw _ _).2 e
     have hu:Au l=false:=by
      rw[<-aaB,qo]
      grind[yH,List.mem_take_iff_getElem]
     rw[hu]
     clear a1 h2
     (refine w0 ?_;repeat' first|apply aw|refine ah λhc=>?_)
     exact dz
    ·have g3:l[i].key∉(l.take (k+1)).map It.key:=by
      rw[tt hkl,aaS,abI]
      grind
     have e':=λq=>e ((iw _ _).1 q)
     clear a1 h2
     (refine w0 ?_;repeat' first|apply aw|refine ah λhc=>?_)
     refine⟨k+1,⟨ae,g3⟩,ae,?_⟩
     exact ab
   ·obtain rfl:k=i:=ae
    have h3:=yG hi h3 g2
    clear a1
    (refine w0 ?_;refine ah λhc=>?_)
    refine⟨k+1,⟨ae,h2,h3⟩,ae,?_⟩
    exact ab
 ·rw[aaj ae]at h2 h3
  rw[qo.2 ⟨h2,h3⟩]
  clear h2
  (refine w0 ?_;refine ah λhc=>?_)
  exact dz
theorem kt (m:Msg)(h1:m.flt.length<=1000000)(h2:fe m.know)(h3:m.there.length<=1000000)(h4:m.its.length<=1000000):Fn prog 81 [zw m] (dE (lK m)):=by
 have a1:=nx m.flt ae (decide (bT m.flt)) aA
 have a2:=lV m.know h2 (decide (aY m.know)) aA
 have a3:=kg m.rg
 have a4:=MG m.its ae
 have a5:=JN m.there h3 0
 have hS:decide (1<=m.ses)=!decide (m.ses<1):=by rw[aav];simp
 unfold lK
 rw[hS,wj,wj]
 clear hS h2
 generalize decide (bT m.flt)=d1 at *
 generalize decide (aY m.know)=d2 at *
 generalize gg m.rg=d3 at *
 generalize Au m.its=d4 at *
 by_cases c1:m.kind=1
 ·rw[aae c1]
  obtain⟨q,hq⟩:∃q,mn m.there=q:=⟨_,rfl⟩
  obtain⟨x,e⟩:=q
  rw[hq]at a5 ⊢
  clear hq
  unfold YH at a5
  simp only at a5 ⊢
  by_cases he:e=0
  ·rw[aae he]at a5
   refine fi func81 ntmps81 ?_
   (refine fF a1 a2 a5 ?_;repeat' first|apply aw|refine ah λhc=>?_|((first|apply aH rfl|apply aJ rfl);(focus (try apply ag rfl rfl rfl rfl rfl);exact nS (qq _));refine fF a1 a2 a5 ?_))
   all_goals
    refine dr ?_
    refine aP rfl ?_
    first|(simp[*];done)|(rw[aav];simp[*];done)|(rw[aav];simp[*];omega)
  ·rw[aab he]at a5
   refine fi func81 ntmps81 ?_
   (refine fF a1 a2 a5 ?_;repeat' first|apply aw|refine ah λhc=>?_|((first|apply aH rfl|apply aJ rfl);(focus (try apply ag rfl rfl rfl rfl rfl);exact nS (qq _));refine fF a1 a2 a5 ?_))
   all_goals
    refine dr ?_
    refine aP rfl ?_
    first|(simp[*];done)|(rw[aav];simp[*];done)|(rw[aav];simp[*];omega)|(rw[show(e==0)=false by simpa using he,aap he,aap hc,Bool.or_self,abs,abs])
 rw[aab c1]
 by_cases c3:m.kind=3
 ·rw[aae c3]
  refine fi func81 ntmps81 ?_
  (refine w0 ?_;repeat' first|apply aw|refine ah λhc=>?_|((first|apply aH rfl|apply aJ rfl);(focus (try apply ag rfl rfl rfl rfl rfl);exact nS (qq _));refine w0 ?_))
  all_goals
   refine dr ?_
   refine aP rfl ?_
   first|(simp[*];done)|(rw[aav];simp[*];done)|(rw[aav];simp[*];omega)
 rw[aab c3]
 by_cases c4:m.kind=4
 ·rw[aae c4]
  refine fi func81 ntmps81 ?_
  (refine au a3 ?_;repeat' first|apply aw|refine ah λhc=>?_|((first|apply aH rfl|apply aJ rfl);(focus (try apply ag rfl rfl rfl rfl rfl);exact nS (qq _));refine au a3 ?_))
  all_goals
   refine dr ?_
   refine aP rfl ?_
   first|(simp[*];done)|(rw[aav];simp[*];done)|(rw[aav];simp[*];omega)
 rw[aab c4]
 by_cases c5:m.kind=5
 ·rw[aae c5]
  refine fi func81 ntmps81 ?_
  (refine bt a4 a2 ?_;repeat' first|apply aw|refine ah λhc=>?_|((first|apply aH rfl|apply aJ rfl);(focus (try apply ag rfl rfl rfl rfl rfl);exact nS (qq _));refine bt a4 a2 ?_))
  all_goals
   refine dr ?_
   refine aP rfl ?_
   first|(simp[*];done)|(rw[aav];simp[*];done)|(rw[aav];simp[*];omega)
 rw[aab c5]
 refine fi func81 ntmps81 ?_
 (refine w0 ?_;repeat' first|apply aw|refine ah λhc=>?_|((first|apply aH rfl|apply aJ rfl);(focus (try apply ag rfl rfl rfl rfl rfl);exact nS (qq _));refine w0 ?_))
 all_goals
  refine dr ?_
  refine aP rfl ?_
  first|(simp[*];done)|(rw[aav];simp[*];done)|(rw[aav];simp[*];omega)
