/- Texts joined: FrW FrR MsC Map MsW. -/
import Derived.Test.YtaclhhkblbacgaaGreatJ41
import Derived.Test.YtaclhhkblbacgaaGreatJ29
import Derived.Maps.OwnOps
import Derived.Maps.Views
set_option maxRecDepth 10000
set_option maxHeartbeats 8000000
namespace Go.Proofs.YtaclhhkblbacgaaGreat
open Go.RowKit Go.Proofs.Tryz
theorem De {b:List UInt8}{m:Nat}(h:m+4≤b.length):RV (b.take (m+4))=decide ((b.drop m).take 4=gb (jW (b.take m))):=by
 rw[wc (n:=m) (by rw[WA];omega),List.drop_take,List.take_take,show m+4-m=4 by omega,show min m (m+4)=m by omega]
theorem JE {b:List UInt8}(k N:Nat):(b.take (k+N)).drop k=(b.drop k).take N:=by rw[List.drop_take,show k+N-k=N by omega]
theorem FA {ls:List (List UInt8)}{i:Nat}(h:i<ls.length):(ls.take (i+1)).flatten=(ls.take i).flatten++ls[i]:=by
 rw[List.take_add_one,V4 h,Option.toList_some,List.flatten_append];simp
theorem Rb (ls:List (List UInt8))(hl:ls.length≤1000000000)(hs:∀p∈ls,p.length≤1000000000) :
 Fn prog 63 [.bor 1 (ls.map m6)] (.tup2 (gz (if ls.flatten.length≤32768 then RI ls.flatten else [])) (el (if ls.flatten.length≤32768 then 0 else 12))):=by
 refine fi func63 ntmps63 ?_
 (refine w0 ?_)
 refine aj (X:=Nat) (fun i=>i≤ls.length∧(ls.take i).flatten.length≤32768) (fun i=>ay [(0,.bor 1 (ls.map m6)),(4,iC .i64 ((ls.take i).flatten.length:Nat)),(11,.bor 1 (ls.map m6)),(12,iC .i64 (ls.length:Nat)),(13,iC .i64 (i:Nat))] []) (fun i=>ls.length-i) 0 ⟨Wa _,au⟩ ?_
 rintro i ⟨h1,h2⟩
 by_cases hi:i<ls.length
 ·have hp:=hs _ (Wk hi)
  have hf:=FA hi
  have hlen:(ls.take (i+1)).flatten.length=(ls.take i).flatten.length+ls[i].length:=by rw[hf,V5]
  have hle:(ls.take (i+1)).flatten.length≤ls.flatten.length:=by
   have:=Wx (fun l=>(List.flatten l).length) (WL (i+1) ls)
   simp only[List.flatten_append,V5]at this
   omega
  generalize (ls.take i).flatten.length=a at *
  generalize hA:(ls.take (i+1)).flatten.length=a' at *
  clear hf hs
  (refine w0 ?_;repeat' first|apply ah|refine ai fun hc=>?_)
  ·rw[V3 ab,V3 ab]
   exact d9 (dv rfl) (al rfl rfl)
  ·refine⟨i+1,⟨ab,by rw[hA];omega⟩,ab,?_⟩
   rw[hA]
   exact ae
 ·obtain rfl:i=ls.length:=ab
  rw[WX]at h2
  rw[V6 h2,V6 h2]
  generalize hL:ls.flatten=L at *
  have c1:=ju [] [(L.length:Int)] au (fun n hn=>by simp at hn;subst hn;unfold bL;omega)
  rw[Wu,show [(L.length:Int)].flatMap aJ=aJ (L.length:Nat)by simp]at c1
  have hn9:=bf (L.length:Int) ab
  rw[WX,hL]
  (refine aq c1 ?_;repeat' first|apply ah|refine ai fun hc=>?_)
  refine bQ (aN 30 600) ?_
  refine aj (X:=Nat×List UInt8) (fun x=>x.1≤ls.length∧x.2.length≤32768+9∧x.2++(ls.drop x.1).flatten=xQ L)
   (fun x=>ay [(7,.row 600 0),(36,.bor 1 (ls.map m6)),(37,iC .i64 (ls.length:Nat)),(38,iC .i64 (x.1:Nat))] [(600,.row 5 1 (x.2.map byteP))]) (fun x=>ls.length-x.1) (0,aJ (L.length:Nat)) ⟨Wa _,aA,by simp only[Xw];rw[hL];rfl⟩ ?_
  rintro⟨i,acc⟩ ⟨g1,g2,g3⟩
  simp only at g1 g2 g3 ⊢
  by_cases hi:i<ls.length
  ·rw[List.drop_eq_getElem_cons hi,Xn,←V9]at g3
   have hb:(acc++ls[i]).length≤32768+9:=by
    have:=Wx List.length g3
    rw[V5,tE]at this
    omega
   rw[V5]at hb
   clear c1 hs
   (refine w0 ?_;repeat' first|apply ah|refine ai fun hc=>?_)
   refine⟨(i+1,acc++ls[i]),⟨aA,by simp only[V5];omega,g3⟩,aA,?_⟩
   exact ae
  ·rw[Wv ab,List.flatten_nil,Wg]at g3
   subst g3
   have c2:=Hf [xQ L] au (fun p hp=>by rw[Xl]at hp;subst hp;omega)
   rw[show [xQ L].flatten=xQ L by simp]at c2
   have c3:=Dd _ (tD (xQ L))
   have hT:(gb (jW (xQ L))).length=4:=rfl
   have g2:(xQ L).length≤32768+9:=g2
   clear c1 hs
   (refine aq c3 ?_;repeat' first|apply ah|refine ai fun hc=>?_|((first|apply aB rfl|apply aC rfl|apply aD rfl|apply aF rfl);(focus ((try (apply bI;(focus rfl);apply ag rfl rfl rfl rfl rfl));first|((apply aZ 15;(focus rfl);exact JC ⟨rfl,rfl,rfl⟩ rfl inferInstance inferInstance rfl rfl (fa rfl rfl)))|((refine VP (ids:=[600]) (c2) (hg:=?_);(refine RH.cons ?_ RH.nil;exact Oo rfl rfl rfl (zm.row rfl rfl rfl))))));refine aq c3 ?_))
   refine d9 ?_ ?_
   ·refine fT rfl rfl ?_
    show _=Blk.row _ _ ((xQ L++_).map byteP)
    rw[List.map_append];rfl
   ·exact al rfl rfl
theorem Rc (b:List UInt8)(hb:b.length≤1000000000):Fn prog 125 [.per (aK b)] (.tup3 (.per (aK (jl b).1)) (el ((jl b).2.1:Nat)) (el (jl b).2.2)):=by
 unfold jl
 by_cases he:(bv b).2.2≠0
 ·rw[V6 he]
  have hN:aO b 0=(0,b,(bv b).2.2):=by unfold aO;rw[V3 au,V6 he]
  have h1:=hY b 0
  rw[hN]at h1
  have h2:=m1 b (bv b).2.2
  have h3:=uG b (bv b).2.2
  generalize (bv b).2.2=e at *
  refine fi func125 ntmps125 ?_
  (refine uu h1 h2 h3 (lO b hb) ?_;repeat' first|apply ah|refine ai fun hc=>?_)
  refine⟨.inl rfl,lr rfl ?_ ?_ ?_⟩
  ·exact eL rfl
  ·exact al rfl rfl
  ·exact al rfl rfl
 rw[V3 he]
 have he:(bv b).2.2=0:=WB.1 he
 obtain⟨_,_,hk,hn⟩:=Ej he
 have hN:aO b 0=(((bv b).1:Int),b.drop (bv b).2.1,0):=by unfold aO;rw[V3 au,V3 (by simp[he])]
 have h1:=hY b 0
 rw[hN]at h1
 simp only at h1
 generalize (bv b).1=n at *
 generalize (bv b).2.1=k at *
 have h2:=m1 (b.drop k) 0
 have h3:=uG (b.drop k) 0
 have hl:(b.drop k).length=b.length-k:=Xb
 generalize hd:b.drop k=d at *
 clear hN he
 by_cases hm:32768<n
 ·rw[V6 hm]
  clear hd
  refine fi func125 ntmps125 ?_
  (refine uu h1 h2 h3 (lO b hb) ?_;repeat' first|apply ah|refine ai fun hc=>?_)
  refine⟨.inl rfl,lr rfl ?_ ?_ ?_⟩
  ·exact eL rfl
  ·exact al rfl rfl
  ·exact al rfl rfl
 rw[V3 hm]
 by_cases hs:b.length<k+n+4
 ·rw[V6 hs]
  clear hd
  refine fi func125 ntmps125 ?_
  (refine uu h1 h2 h3 (lO b hb) ?_;repeat' first|apply ah|refine ai fun hc=>?_)
  refine⟨.inl rfl,lr rfl ?_ ?_ ?_⟩
  ·exact eL rfl
  ·exact al rfl rfl
  ·exact al rfl rfl
 rw[V3 hs]
 have e1:((b.length:Nat):Int)-((d.length:Nat):Int)=(k:Int):=ab
 have e2:(k:Int)+(n:Int)+4=((k+n+4:Nat):Int):=ab
 have h4:=(JD (b.take (k+n+4)) (by rw[WA];omega)).frz
 rw[De ab]at h4
 have hlt:(b.take (k+n+4)).length-4=k+n:=by rw[WA];omega
 rw[hlt,List.take_take,show min (k+n) (k+n+4)=k+n by omega]at h4
 by_cases hc4:(b.drop (k+n)).take 4=gb (jW (b.take (k+n)))
 ·rw[V6 hc4]
  rw[Wb hc4,V6 rfl]at h4
  have hT:=JE (b:=b) k n
  rw[hd]at hT
  have hTl:(b.take (k+n)).length=k+n:=by rw[WA];omega
  generalize b.take (k+n)=T at *
  clear hd hc4 hlt
  refine fi func125 ntmps125 ?_
  (refine m0 e1 e2 h4 h1 h2 h3 (lO b hb) ?_;repeat' first|apply ah|refine ai fun hc=>?_)
  refine⟨.inl rfl,lr rfl ?_ ?_ ?_⟩
  ·exact k9 rfl hT
  ·exact al rfl rfl
  ·exact al rfl rfl
 ·rw[V3 hc4]
  rw[Wj hc4,V3 au]at h4
  clear hd hc4 hlt
  refine fi func125 ntmps125 ?_
  (refine m0 e1 e2 h4 h1 h2 h3 (lO b hb) ?_;repeat' first|apply ah|refine ai fun hc=>?_)
  refine⟨.inl rfl,lr rfl ?_ ?_ ?_⟩
  ·exact eL rfl
  ·exact al rfl rfl
  ·exact al rfl rfl
theorem Re (b:List UInt8)(hb:b.length≤1000000000):Fn prog 65 [.per (aK b)] (.tup2 (.per (aK (kM b).1)) (el (kM b).2)):=by
 have h1:=Rc b hb
 unfold kM
 generalize jl b=q at *
 obtain⟨x,n,e⟩:=q
 simp only at h1 ⊢
 by_cases c:e=0∧n<b.length
 ·rw[V6 c]
  obtain⟨rfl,c⟩:=c
  refine fi func65 ntmps65 ?_
  (refine aq h1 ?_;repeat' first|apply ah|refine ai fun hc=>?_)
  exact d9 (eL rfl) (al rfl rfl)
 ·rw[V3 c]
  refine fi func65 ntmps65 ?_
  (refine aq h1 ?_;repeat' first|apply ah|refine ai fun hc=>?_)
  all_goals first|(exfalso;exact c ⟨ab,ab⟩)|skip
  all_goals refine d9 ?_ ?_
  all_goals first|exact dA rfl|exact al rfl rfl
theorem Df (l:List UInt8)(hl:l.length≤1000000000000):Fn prog 101 [dS l] (.per (ak (.int .u32 (jW l:Nat)))):=by
 unfold jW
 generalize hF:vd 4294967295 l=F at *
 refine fi func101 ntmps101 ?_
 (refine w0 ?_)
 refine aj (X:=Nat×Nat) (fun x=>x.1≤l.length∧x.2<4294967296∧vd x.2 (l.drop x.1)=F)
  (fun x=>ay [(0,dS l),(3,iC .u32 (x.2:Nat)),(4,iC .i64 (x.1:Nat))] []) (fun x=>l.length-x.1) (0,4294967295) ⟨Wa _,bz,hF⟩ ?_
 rintro⟨i,s⟩ ⟨h1,h2,h3⟩
 simp only at h1 h2 h3 ⊢
 by_cases hi:i<l.length
 ·rw[List.drop_eq_getElem_cons hi,yx]at h3
  have hc8:=l[i].toNat_lt
  have hx:=u32_xor_nat s l[i].toNat h2 ab
  have hw:=pw l[i]
  have hlt:s ^^^ l[i].toNat<4294967296:=Nat.xor_lt_two_pow (n:=32) ab ab
  have hb0:EJ s l[i]=Qi 8 (s ^^^ l[i].toNat):=rfl
  rw[hb0]at h3
  clear hb0
  generalize s ^^^ l[i].toNat=s0 at *
  clear hF
  (repeat' (first|refine ck ?_|refine bi ?_|refine bA ?_|refine bB ?_|refine cn ?_|refine aU ?_|refine bV cI ?_|refine ci ?_|refine cj (by kernel_rfl) ?_|(refine dL rfl rfl ⟨fun hc=>?_,fun hc=>?_⟩<;>(repeat rw[V7]at hc)<;>(try exact ce hc))|((first|apply aB rfl|apply aC rfl|apply aD rfl|apply aF rfl);focus (first|((apply aZ 10;(focus rfl);exact d8 ⟨rfl,rfl,rfl⟩ rfl inferInstance inferInstance rfl hw))|(apply bI;(focus rfl);apply ag rfl rfl rfl rfl rfl;((apply aZ 10;(focus rfl);exact d8 ⟨rfl,rfl,rfl⟩ rfl inferInstance inferInstance rfl hw)))|((exact nU ⟨rfl,rfl,rfl⟩ rfl rfl rfl hx))|(apply bI;(focus rfl);apply ag rfl rfl rfl rfl rfl;((exact nU ⟨rfl,rfl,rfl⟩ rfl rfl rfl hx)))|exact cz|fail))|refine bD ?_|refine bF ?_|refine bG ?_|refine de ?_|refine dg ?_|refine bH ?_|refine bj rfl ?_|((first|refine dM rfl rfl rfl ⟨fun hc=>?_,fun hc=>?_⟩|refine dN rfl rfl rfl ⟨fun hc=>?_,fun hc=>?_⟩)<;>(fail_if_success (have q:(true=true):=hc))<;>(fail_if_success (have q:(false=false):=hc))<;>(repeat rw[V7]at hc)<;>(try exact ce hc))|refine aH rfl rfl (fun hc=>?_) ?_))
  refine aj (X:=Nat×Nat) (fun x=>x.1≤8∧x.2<4294967296∧vd (Qi (8-x.1) x.2) (l.drop (i+1))=F)
   (fun x=>ay [(0,dS l),(3,iC .u32 (x.2:Nat)),(4,iC .i64 (i:Nat)),(5,iC .i64 (x.1:Nat))] []) (fun x=>8-x.1) (0,s0) ⟨ab,hlt,h3⟩ ?_
  clear hx hw hlt h3 h2 hc8
  rintro⟨k,s⟩ ⟨h1,h2,h3⟩
  simp only at h1 h2 h3 ⊢
  by_cases hk:k<8
  ·have hX:bits .xor .u32 ((s:Int) / 2) 3988292384=((s / 2 ^^^ 3988292384:Nat):Int):=u32_xor_nat (s / 2) 3988292384 ab ab
   have hq:IntKind.u32.wrap ((s:Int).tdiv 2)=(s:Int) / 2:=by
    rw[Xy ab,IntKind.wrap_u32'];omega
   have hlt:=zq h2
   obtain⟨m,hm⟩:∃m,8-k=m+1:=⟨7-k,ab⟩
   rw[hm,Qi]at h3
   by_cases hb:s % 2=1
   ·have e:vc s=s / 2 ^^^ 3988292384:=by unfold vc;rw[V6 hb]
    rw[e]at h3 hlt
    (repeat' (first|refine ck ?_|refine bi ?_|refine bA ?_|refine bB ?_|refine cn ?_|refine aU ?_|refine bV cI ?_|refine ci ?_|refine cj (by kernel_rfl) ?_|(refine dL rfl rfl ⟨fun hc=>?_,fun hc=>?_⟩<;>(repeat rw[V7]at hc)<;>(try exact ce hc))|((first|apply aB rfl|apply aC rfl|apply aD rfl|apply aF rfl);focus (first|((exact lq ⟨rfl,rfl,rfl⟩ rfl rfl rfl bz hq))|(apply bI;(focus rfl);apply ag rfl rfl rfl rfl rfl;((exact lq ⟨rfl,rfl,rfl⟩ rfl rfl rfl bz hq)))|exact cz|((exact nU ⟨rfl,rfl,rfl⟩ rfl rfl rfl hX))|(apply bI;(focus rfl);apply ag rfl rfl rfl rfl rfl;((exact nU ⟨rfl,rfl,rfl⟩ rfl rfl rfl hX)))|fail))|refine bD ?_|refine bF ?_|refine bG ?_|refine de ?_|refine dg ?_|refine bH ?_|refine bj rfl ?_|((first|refine dM rfl rfl rfl ⟨fun hc=>?_,fun hc=>?_⟩|refine dN rfl rfl rfl ⟨fun hc=>?_,fun hc=>?_⟩)<;>(fail_if_success (have q:(true=true):=hc))<;>(fail_if_success (have q:(false=false):=hc))<;>(repeat rw[V7]at hc)<;>(try exact ce hc))|refine aH rfl rfl (fun hc=>?_) ?_))
    refine⟨(k+1,s / 2 ^^^ 3988292384),⟨aA,hlt,by simp only;rw[show 8-(k+1)=m by omega];exact h3⟩,aA,?_⟩
    exact ae
   ·have e:vc s=s / 2:=by unfold vc;rw[V3 hb]
    rw[e]at h3 hlt
    clear hX
    (repeat' (first|refine ck ?_|refine bi ?_|refine bA ?_|refine bB ?_|refine cn ?_|refine aU ?_|refine bV cI ?_|refine ci ?_|refine cj (by kernel_rfl) ?_|(refine dL rfl rfl ⟨fun hc=>?_,fun hc=>?_⟩<;>(repeat rw[V7]at hc)<;>(try exact ce hc))|((first|apply aB rfl|apply aC rfl|apply aD rfl|apply aF rfl);focus (first|((exact lq ⟨rfl,rfl,rfl⟩ rfl rfl rfl bz hq))|(apply bI;(focus rfl);apply ag rfl rfl rfl rfl rfl;((exact lq ⟨rfl,rfl,rfl⟩ rfl rfl rfl bz hq)))|exact cz|fail))|refine bD ?_|refine bF ?_|refine bG ?_|refine de ?_|refine dg ?_|refine bH ?_|refine bj rfl ?_|((first|refine dM rfl rfl rfl ⟨fun hc=>?_,fun hc=>?_⟩|refine dN rfl rfl rfl ⟨fun hc=>?_,fun hc=>?_⟩)<;>(fail_if_success (have q:(true=true):=hc))<;>(fail_if_success (have q:(false=false):=hc))<;>(repeat rw[V7]at hc)<;>(try exact ce hc))|refine aH rfl rfl (fun hc=>?_) ?_))
    refine⟨(k+1,s / 2),⟨aA,hlt,by simp only;rw[show 8-(k+1)=m by omega];exact h3⟩,aA,?_⟩
    exact ae
  ·have hk:k=8:=ab
   subst hk
   have h3:vd s (l.drop (i+1))=F:=h3
   (refine w0 ?_;repeat' first|apply ah|refine ai fun hc=>?_)
   refine⟨(i+1,s),⟨aA,h2,h3⟩,aA,?_⟩
   exact ae
 ·rw[Wv ab]at h3
  have h3:s=F:=h3
  subst h3
  have hX:bits .xor .u32 (s:Int) 4294967295=((s ^^^ 4294967295:Nat):Int):=u32_xor_nat s 4294967295 h2 bz
  clear hF
  (refine w0 ?_;repeat' first|apply ah|refine ai fun hc=>?_|((first|apply aB rfl|apply aC rfl|apply aD rfl|apply aF rfl);(focus ((try (apply bI;(focus rfl);apply ag rfl rfl rfl rfl rfl));first|((exact nU ⟨rfl,rfl,rfl⟩ rfl rfl rfl hX))));refine w0 ?_))
  exact wo
theorem yA (s:Nat)(hs:s<4294967296):Fn prog 100 [iC .u32 (s:Nat)] (gz (gb s)):=by
 rw[←RS]
 refine fi func100 ntmps100 ?_
 (refine w0 ?_)
 refine bQ (bU 3 600 5 1 rfl rfl) ?_
 refine aj (X:=Nat) (fun k=>k≤4) (fun k=>ay [(0,iC .u32 (s / 256 ^ k:Nat)),(3,.row 600 0),(4,iC .i64 (k:Nat))] [(600,.row 5 1 ((DA k s).map byteP))]) (fun k=>4-k) 0 ab ?_
 intro k hk
 by_cases hlt:k<4
 ·have hS:=wb k s
  have hl:=mU k s
  have hp:s / 256 ^ (k+1)=s / 256 ^ k / 256:=by rw[Nat.pow_succ,Nat.div_div_eq_div_mul]
  have hb:s / 256 ^ k<4294967296:=Nat.lt_of_le_of_lt (Nat.div_le_self _ _) hs
  generalize s / 256 ^ k=q at *
  generalize hq':s / 256 ^ (k+1)=q' at *
  have hW:IntKind.u8.wrap ((q:Int) % 256)=((UInt8.ofNat q).toNat:Int):=by rw[←ln,IntKind.wrap_u8',IntKind.wrap_u8'];omega
  have hq:IntKind.u32.wrap ((q:Int).tdiv 256)=(q':Int):=by
   rw[Xy ab,IntKind.wrap_u32'];omega
  (repeat' (first|refine ck ?_|refine bi ?_|refine bA ?_|refine bB ?_|refine cn ?_|refine aU ?_|refine bV cI ?_|refine ci ?_|refine cj (by kernel_rfl) ?_|(refine dL rfl rfl ⟨fun hc=>?_,fun hc=>?_⟩<;>(repeat rw[V7]at hc)<;>(try exact ce hc))|((first|apply aB rfl|apply aC rfl|apply aD rfl|apply aF rfl);focus (first|((apply aZ 10;(focus rfl);exact d8 ⟨rfl,rfl,rfl⟩ rfl inferInstance inferInstance rfl hW))|(apply bI;(focus rfl);apply ag rfl rfl rfl rfl rfl;((apply aZ 10;(focus rfl);exact d8 ⟨rfl,rfl,rfl⟩ rfl inferInstance inferInstance rfl hW)))|((exact lq ⟨rfl,rfl,rfl⟩ rfl rfl rfl bz hq))|(apply bI;(focus rfl);apply ag rfl rfl rfl rfl rfl;((exact lq ⟨rfl,rfl,rfl⟩ rfl rfl rfl bz hq)))|exact cz|fail))|refine bD ?_|refine bF ?_|refine bG ?_|refine de ?_|refine dg ?_|refine bH ?_|refine bj rfl ?_|((first|refine dM rfl rfl rfl ⟨fun hc=>?_,fun hc=>?_⟩|refine dN rfl rfl rfl ⟨fun hc=>?_,fun hc=>?_⟩)<;>(fail_if_success (have q:(true=true):=hc))<;>(fail_if_success (have q:(false=false):=hc))<;>(repeat rw[V7]at hc)<;>(try exact ce hc))|refine aH rfl rfl (fun hc=>?_) ?_))
  refine⟨k+1,ab,ab,?_⟩
  rw[hS,hq']
  exact ae
 ·obtain rfl:k=4:=ab
  (refine w0 ?_;repeat' first|apply ah|refine ai fun hc=>?_)
  exact dw (cJ rfl rfl rfl rfl)
theorem FB (b:List UInt8)(hb:b.length≤1000000000):Fn prog 185 [dS b] (el (if RV b then((b.length-4:Nat):Int)else -1)):=by
 by_cases h4:b.length<4
 ·rw[yz h4]
  refine fi func185 ntmps185 ?_
  (refine w0 ?_;repeat' first|apply ah|refine ai fun hc=>?_)
  exact wo
 obtain⟨n,hn⟩:∃n,b.length=n+4:=⟨b.length-4,ab⟩
 rw[wc hn,show b.length-4=n by omega]
 have h1:=Df (b.take n) (by rw[WA];omega)
 have h2:=(yA _ (tD (b.take n))).frz
 have hT:(gb (jW (b.take n))).length=4:=rfl
 generalize gb (jW (b.take n))=T at *
 have hN:((b.length:Nat):Int)-4=(n:Int):=ab
 generalize hD:b.drop n=D
 have hDl:D.length=4:=by rw[←hD,Xb];omega
 have hDg:∀(k:Nat)(h:k<D.length),b[n+k]'(ab)=D[k]:=fun k h=>by subst hD;rw[List.getElem_drop]
 refine fi func185 ntmps185 ?_
 (refine bp hN h1 h2 ?_;repeat' first|apply ah|refine ai fun hc=>?_)
 refine aj (X:=Nat) (fun k=>k≤4∧D.take k=T.take k) (fun k=>ay [(0,dS b),(3,iC .i64 (n:Nat)),(4,.per (aK T)),(5,iC .i64 (k:Nat))] []) (fun k=>4-k) 0 ⟨ab,rfl⟩ ?_
 rintro k ⟨hk,hE⟩
 by_cases hlt:k<4
 ·have hI:(n:Int)+(k:Int)=((n+k:Nat):Int):=ab
  have hg:=hDg k ab
  clear h1 h2 hN
  (refine eT hI ?_;repeat' first|apply ah|refine ai fun hc=>?_)
  ·have hne:¬D=T:=fun e=>by
    subst e
    rw[hg]at hc
    exact hc rfl
   rw[Wj hne]
   exact wo
  ·have e:D[k]'(ab)=T[k]'(ab):=by
    rw[←hg];exact Xj.1 ab
   refine⟨k+1,⟨ab,RX hE ab ab e⟩,ab,?_⟩
   exact ae
 ·obtain rfl:k=4:=ab
  have e:D=T:=by
   rw[←hDl,WX,hDl,←hT,WX]at hE;exact hE
  rw[Wb e,V6 rfl]
  clear h1 h2
  (refine w0 ?_;repeat' first|apply ah|refine ai fun hc=>?_)
  exact wo
theorem Ou (l:List UInt8)(hl:l.length≤1000000000):Fn prog 41 [dS l] (gz (RI l)):=by
 have hn9:=bf (l.length:Int) ab
 have h1:=iB (l.length:Int) (by unfold bL;omega)
 have h2:=Df (xQ l) (by rw[tE];omega)
 have h3:=yA _ (tD (xQ l))
 have hlen:=tE l
 have hT:(gb (jW (xQ l))).length=4:=rfl
 have e:RI l=aJ (l.length:Nat)++l++gb (jW (xQ l)):=rfl
 rw[e]
 clear e
 have e2:xQ l=aJ (l.length:Nat)++l:=rfl
 rw[e2]at h2 h3 hT ⊢
 generalize gb (jW (aJ (l.length:Nat)++l))=T at *
 generalize aJ (l.length:Nat)=N at *
 replace h2:Fn prog 101 [.bor 1 (N.map byteP++l.map byteP)] (.per (ak (.int .u32 (jW (N++l):Nat)))):=by rw[←List.map_append];exact h2
 refine fi func41 ntmps41 ?_
 (refine fO h1 h2 h3 ?_)
 refine dw ?_
 refine fT rfl rfl ?_
 show _=Blk.row _ _ ((N++l++T).map byteP)
 rw[List.map_append,List.map_append];rfl
theorem Ov (b:List UInt8)(hb:b.length≤1000000000):Fn prog 109 [.per (aK b)] (.tup3 (.per (aK (jl b).1)) (el ((jl b).2.1:Nat)) (el (jl b).2.2)):=by
 unfold jl
 have h1:=LL b
 by_cases he:(bv b).2.2≠0
 ·rw[V6 he]
  generalize (bv b).2.2=e at *
  refine fi func109 ntmps109 ?_
  (refine aq h1 ?_;repeat' first|apply ah|refine ai fun hc=>?_)
  refine⟨.inl rfl,lr rfl ?_ ?_ ?_⟩
  ·exact eL rfl
  ·exact al rfl rfl
  ·exact al rfl rfl
 rw[V3 he]
 have he:(bv b).2.2=0:=WB.1 he
 obtain⟨_,_,hk,hn⟩:=Ej he
 rw[he]at h1
 generalize (bv b).1=n at *
 generalize (bv b).2.1=k at *
 clear he
 by_cases hm:32768<n
 ·rw[V6 hm]
  refine fi func109 ntmps109 ?_
  (refine aq h1 ?_;repeat' first|apply ah|refine ai fun hc=>?_)
  refine⟨.inl rfl,lr rfl ?_ ?_ ?_⟩
  ·exact eL rfl
  ·exact al rfl rfl
  ·exact al rfl rfl
 rw[V3 hm]
 by_cases hs:b.length<k+n+4
 ·rw[V6 hs]
  refine fi func109 ntmps109 ?_
  (refine aq h1 ?_;repeat' first|apply ah|refine ai fun hc=>?_)
  refine⟨.inl rfl,lr rfl ?_ ?_ ?_⟩
  ·exact eL rfl
  ·exact al rfl rfl
  ·exact al rfl rfl
 rw[V3 hs]
 have h4:=FB (b.take (k+n+4)) (by rw[WA];omega)
 rw[De ab]at h4
 have hlt:(b.take (k+n+4)).length-4=k+n:=by rw[WA];omega
 rw[hlt]at h4
 by_cases hc4:(b.drop (k+n)).take 4=gb (jW (b.take (k+n)))
 ·rw[V6 hc4]
  rw[Wb hc4,V6 rfl]at h4
  clear hc4 hlt
  have hT:(b.drop k).take (k+n-k)=(b.drop k).take n:=by rw[show k+n-k=n by omega]
  refine fi func109 ntmps109 ?_
  (refine xm (show(k:Int)+(n:Int)=((k+n:Nat):Int)by omega) (show((k+n:Nat):Int)+4=((k+n+4:Nat):Int)by omega) h1 h4 ?_;repeat' first|apply ah|refine ai fun hc=>?_)
  refine⟨.inl rfl,lr rfl ?_ ?_ ?_⟩
  ·exact k9 rfl hT
  ·exact al rfl rfl
  ·exact al rfl rfl
 ·rw[V3 hc4]
  rw[Wj hc4,V3 au]at h4
  clear hc4 hlt
  refine fi func109 ntmps109 ?_
  (refine xm (show(k:Int)+(n:Int)=((k+n:Nat):Int)by omega) (show((k+n:Nat):Int)+4=((k+n+4:Nat):Int)by omega) h1 h4 ?_;repeat' first|apply ah|refine ai fun hc=>?_)
  refine⟨.inl rfl,lr rfl ?_ ?_ ?_⟩
  ·exact eL rfl
  ·exact al rfl rfl
  ·exact al rfl rfl
theorem Ow (b:List UInt8)(hb:b.length≤1000000000):Fn prog 50 [.per (aK b)] (.tup2 (.per (aK (kM b).1)) (el (kM b).2)):=by
 have h1:=Ov b hb
 unfold kM
 generalize jl b=q at *
 obtain⟨x,n,e⟩:=q
 simp only at h1 ⊢
 by_cases c:e=0∧n<b.length
 ·rw[V6 c]
  obtain⟨rfl,c⟩:=c
  refine fi func50 ntmps50 ?_
  (refine aq h1 ?_;repeat' first|apply ah|refine ai fun hc=>?_)
  exact d9 (eL rfl) (al rfl rfl)
 ·rw[V3 c]
  refine fi func50 ntmps50 ?_
  (refine aq h1 ?_;repeat' first|apply ah|refine ai fun hc=>?_)
  all_goals first|(exfalso;exact c ⟨ab,ab⟩)|skip
  all_goals refine d9 ?_ ?_
  all_goals first|exact dA rfl|exact al rfl rfl
abbrev bS (m:Msg):List PV:=[ak (.int .i64 m.kind),ak (.int .i64 m.ses),ak (.int .i64 m.num),ak (.int .i64 m.lim),ak (.int .i64 m.seed),ak (.int .i64 m.bits),ak (.int .i64 m.nxt),ak (.int .i64 m.err),ak (.bool m.wants),ak (.bool m.same),ak (.bool m.last),fW m.flt,gG m.know,aK m.there,ak (.string m.rg.lo),ak (.string m.rg.hi),ak (.bool m.rg.op),ak (.int .u64 (m.sum:Nat)),dP m.its]
abbrev DB (m:Msg):PV:=cB (bS m)
abbrev p7 (m:Msg):Cnt:=.per (DB m)
abbrev dl:PV:=ak (.slice none 0 0)
abbrev eP:PV:=ak (.string ⟨#[]⟩)
abbrev f7:PV:=ak (.int .i64 0)
abbrev kR:PV:=ak (.bool false)
abbrev cd:List PV:=[f7,f7,f7,f7,f7,f7,f7,f7,kR,kR,kR,dl,dl,dl,eP,eP,kR,ak (.int .u64 0),dl]
end Go.Proofs.YtaclhhkblbacgaaGreat
namespace Go.Proofs.YtaclhhkblbacgaaGreat
open Go.RowKit Go.WideMaps Go Go.Proofs.Tryz
def Ox (n:Int):DataW Unit:=.lit (.int .i64 n)
def Ad (P:Program)(K E:TypeId)(n:Nat)(f:ByteArray→Int):OV where
 p F _ w v:=∃(b:Nat)(D:DataW Unit),v=.map (some b)∧F b∧World.ownsMap w P K (plainElem P E) b n D∧∀s:ByteArray,s.size≤maxLen→D.atKey (.string s.data.toList) (Ox 0)=Ox (f s)
 mono:=by
  rintro F F' N N' w w' v h1 h2 h3 h4 h5 h6 ⟨b,D,rfl,hb,⟨es,clock,q1,q2,q3,q4⟩,hD⟩
  exact⟨b,D,rfl,h1 b hb,⟨es,clock,by rw[h4 b (h2 b hb) hb];exact q1,q2,q3,q4⟩,hD⟩
 one:=by
  rintro F N w v ⟨b,D,rfl,_⟩
  exact⟨rfl,rfl⟩
section
variable {P:Program} {n t:Nat} {ops:Array Oper} {o:Oper} {S:St} {K E:TypeId}
theorem Oy {ty:TypeId}(hp:Pl n o t)(ho:o.op=.makeMap ty none):aw n P ops o [2*t+1] (.row t (S.ver t+1)) [(t,S.ver t+1,.obj (Ad P K E 0 (fun _=>0)))] S:=
 qd hp au fun C T g a w hA hR=>by
  refine⟨.map (some w.heap.size),w.alloc (.map #[] 0),w.heap.size,?_,(eX.refl w).alloc _,V8 _,gF _ _,fun vr' hvr hst=>⟨?_,?_⟩⟩
  ·simp only[execOp,ho,Sem.run_bind];rfl
  ·exact⟨by rw[hvr,V6 rfl];exact V8 _,fun _=>(V6 rfl).symm⟩
  ·have hrh:(g.mk1 t w.heap.size (.map (some w.heap.size))).rh t=.map (some w.heap.size):=V6 rfl
   refine⟨w.heap.size,.map [],hrh,V6 rfl,World.ownsMap_made _ _ _ _,fun s _=>rfl⟩
theorem JF {ty:TypeId}{x k:Operand}{id vr m:Nat}{f:ByteArray→Int}{s:ByteArray}(hp:Pl n o t)(ho:o.op=.lookup ty x k false)(hK:P.underlying K=some .string)(hT:P.underlying ty=some (.map K E))(hE:P.underlying E=some (.int .i64))
 (hz:∀w:World,(zeroValue E).run P w=.ok (.int .i64 0) w) (hx:S.opd x=.row id vr) (hv:S.ver id=vr) (hb:S.blk id=.obj (Ad P K E m f)) (hk:S.opd k=sC s) (hs:s.size≤maxLen) :
 aw n P ops o ((2*id+1)::(az x++az k)) (iC .i64 (f s)) [] S:=
 aV hp fun C T g a w hA hR=>by
  have hxe:=aG (x:=x) hA (fun k h=>by simp[h]) hR
  rw[hx]at hxe
  have hvt:=(hA.2 id au).2
  have hev:=hxe.2 (by rw[hvt,hv])
  have hke:=aP (x:=k) hA (fun k h=>by simp[h]) hR hk
  have hB:=hR.blks id
  rw[(hA.2 id au).1,hb]at hB
  obtain⟨b,D,q1,q2,q3,q4⟩:=hB
  rw[q1]at hev
  obtain⟨c,hrun,hat,_⟩:=q3.lookup_int (Maps.string_keyed hK) hT hE (hz w) (keyOf_string_mk hK hs)
  have hc:c=f s:=by
   have:=q4 s hs
   unfold Ox at this
   rw[hat]at this
   injection this with this
   injection this
  refine⟨.int .i64 (f s),?_,rfl⟩
  simp only[execOp,ho,hev,hke,Sem.run_bind,hrun,hc];rfl
theorem JG {ty:TypeId}{x k y:Operand}{id vr m:Nat}{f:ByteArray→Int}{s:ByteArray}{z:Int}(hp:Dw o)(ho:o.op=.mapUpdate ty x k y)(hK:P.underlying K=some .string)(hT:P.underlying ty=some (.map K E))(hE:P.underlying E=some (.int .i64))
 (hx:S.opd x=.row id vr) (hv:S.ver id=vr) (hb:S.blk id=.obj (Ad P K E m f)) (hk:S.opd k=sC s) (hs:s.size≤maxLen) (hy:S.opd y=iC .i64 z) (hw:(Lit.int .i64 z).wf=true) (hm:m<maxLen) :
 aw n P ops o ((2*id+1)::(az x++az k++az y)) .any [(id,vr,.obj (Ad P K E (m+1) (fun u=>if u=s then z else f u)))] S:=by
 refine⟨?_⟩
 intro C T hA a w ⟨g,hR⟩
 have hxe:=aG (x:=x) hA (fun k h=>by simp[h]) hR
 rw[hx]at hxe
 have hvt:=(hA.2 id au).2
 have hev:=hxe.2 (by rw[hvt,hv])
 have hke:=aP (x:=k) hA (fun k h=>by simp[h]) hR hk
 have hye:=aP (x:=y) hA (fun k h=>by simp[h]) hR hy
 have hB:=hR.blks id
 rw[(hA.2 id au).1,hb]at hB
 obtain⟨b,D,q1,q2,q3,q4⟩:=hB
 rw[q1]at hev
 obtain⟨w',hrun,r1,r2⟩:=q3.update (Maps.string_keyed hK) hT hm (keyOf_string_mk hK hs) (plainElem_int hE hw)
 unfold iM
 rw[V6 (by simp[Region.wanted,hp.1])]
 unfold Oper.wp
 have hex:(execOp a.eval o).run P w=.ok .skip w':=by
  simp only[execOp,ho,hev,hke,hye,Sem.run_bind,hrun];rfl
 rw[hex,Oper.upon_skip]
 have hver:(T.app o.dst .any [(id,vr,.obj (Ad P K E (m+1) (fun u=>if u=s then z else f u)))]).ver=T.ver:=by
  funext i'
  rw[St.app_some_ver]
  split
  ·rename_i h;subst h;rw[hvt,hv]
  ·rfl
 have hst:pa C (fun i=>i=id) T.ver T.ver g g w w':=by
  refine⟨r2.size,fun b' hb' hn=>r2.block b' hb' (fun e=>by cases e;exact hn id rfl q2),fun b _ _=>rfl,fun b _ h=>h,fun b i e=>?_,fun _=>.inl rfl,fun _ _=>⟨rfl,rfl⟩,fun _ _=>⟨rfl,rfl⟩,r2.os,r2.tape,r2.output⟩
  have:=hR.dom b i e
  exact⟨WY this.1 r2.size,this.2⟩
 refine⟨g,hR.app1 (c:=.any) (fun t h=>by rw[hp.2]at h;cases h) (by rw[hver];exact hst) trivial ?_⟩
 rw[hver]
 refine⟨b,_,q1,q2,r1,fun u hu=>?_⟩
 by_cases e:u=s
 ·subst e
  show _=Ox (if u=u then z else f u)
  rw[V6 rfl]
  exact Maps.atKey_put_same (by obtain⟨_,_,_,_,_,h⟩:=q3;exact⟨_,h⟩) (by trivial) _ _
 ·show _=Ox (if u=s then z else f u)
  rw[V3 e,Maps.atKey_put_other (fun h=>e (by
   injection h with h
   exact ByteArray.ext (Array.toList_inj.1 h)))]
  exact q4 u hu
end
section
variable {P:Program} {n t:Nat} {ops:Array Oper} {o:Oper} {S:St} {K E:TypeId}
theorem mV {ty:TypeId}{x k:Operand}{id vr m:Nat}{f:ByteArray→Int}{s:ByteArray}{z:Int}(hp:Pl n o t)(ho:o.op=.lookup ty x k false)(hK:P.underlying K=some .string)(hT:P.underlying ty=some (.map K E))(hE:P.underlying E=some (.int .i64))
 (hz:∀w:World,(zeroValue E).run P w=.ok (.int .i64 0) w) (hx:S.opd x=.row id vr) (hv:S.ver id=vr) (hb:S.blk id=.obj (Ad P K E m f)) (hk:S.opd k=sC s) (hs:s.size≤maxLen) (hf:f s=z) :
 aw n P ops o ((2*id+1)::(az x++az k)) (iC .i64 z) [] S:=hf▸JF hp ho hK hT hE hz hx hv hb hk hs
theorem wd {ty:TypeId}{x k y:Operand}{id vr m:Nat}{f f':ByteArray→Int}{s:ByteArray}{z:Int}(hp:Dw o)(ho:o.op=.mapUpdate ty x k y)(hK:P.underlying K=some .string)(hT:P.underlying ty=some (.map K E))(hE:P.underlying E=some (.int .i64))
 (hx:S.opd x=.row id vr) (hv:S.ver id=vr) (hb:S.blk id=.obj (Ad P K E m f)) (hk:S.opd k=sC s) (hs:s.size≤maxLen) (hy:S.opd y=iC .i64 z) (hw:(Lit.int .i64 z).wf=true) (hm:m<maxLen) (hf:(fun u=>if u=s then z else f u)=f') :
 aw n P ops o ((2*id+1)::(az x++az k++az y)) .any [(id,vr,.obj (Ad P K E (m+1) f'))] S:=hf▸JG hp ho hK hT hE hx hv hb hk hs hy hw hm
end
theorem rc (w:World):(zeroValue 3).run prog w=.ok (.int .i64 0) w:=by
 have h:(prog.info? 3).bind (·.zero)=some (.int .i64 0):=by kernel_rfl
 cases hi:prog.info? 3 with
 | none=>rw[hi]at h;cases h
 | some i=>
  rw[hi]at h
  have h:i.zero=some (.int .i64 0):=h
  simp[zeroValue,typeInfo,hi,h]
theorem JH (l:List It)(hl:l.length≤1000000000)(hall:l.all eC=true):Fn prog 121 [fj l] (dq (wF l)):=by
 rw[WJ]at hall
 refine fi func121 ntmps121 ?_
 (refine w0 ?_;repeat' first|apply ah|refine ai fun hc=>?_|((first|apply aB rfl|apply aC rfl|apply aD rfl|apply aF rfl);(focus ((try (apply bI;(focus rfl);apply ag rfl rfl rfl rfl rfl));first|((exact Oy (K:=9) (E:=3) ⟨rfl,rfl,rfl⟩ rfl))));refine w0 ?_))
 refine bZ (X:=Nat) (fun i=>i≤l.length∧((l.take i).map It.key).Nodup)
  (fun i=>ay [(3,.row 6 0),(7,fj l),(8,iC .i64 (l.length:Nat)),(9,iC .i64 (i:Nat))] [(6,.obj (Ad prog 9 3 i (mj l i)))]) (fun i=>l.length-i) 0 ⟨Wa _,au⟩ ?_ ?_
 ·rw[Fx]
  exact ae
 ·rintro i ⟨h1,h2⟩
  by_cases hi:i<l.length
  ·have hr:=hall _ (Wk hi)
   have hk:=fF hr
   have hkr:pd l[i].key=true:=by unfold eC at hr;simp only[Wi]at hr;exact hr.1.1
   have c1:=xx l[i].key
   rw[hkr]at c1
   have hks:l[i].key.size≤maxLen:=by unfold maxLen;omega
   have him:i<maxLen:=by unfold maxLen;omega
   by_cases hd:l[i].key∈(l.take i).map It.key
   ·have g0:mj l i l[i].key=1:=rb hd
    have hu:wF l=false:=by
     rw[←Wy,oV]
     exact fun q=>v8 hi hd q.2
    obtain⟨F,hF⟩:∃F:ByteArray→Int,(fun u=>if u=l[i].key then(2:Int)else mj l i u)=F:=⟨_,rfl⟩
    have g1:F l[i].key=2:=by rw[←hF];simp
    rw[hu]
    clear hk hall
    (refine cF (show(1:Int)+1=2 from rfl) c1 ?_;repeat' first|apply ah|refine ai fun hc=>?_|((first|apply aB rfl|apply aC rfl|apply aD rfl|apply aF rfl);(focus ((try (apply bI;(focus rfl);apply ag rfl rfl rfl rfl rfl));first|((exact mV ⟨rfl,rfl,rfl⟩ rfl underlying9 underlying267 underlying3 rc rfl rfl rfl rfl hks g0))|((exact mV ⟨rfl,rfl,rfl⟩ rfl underlying9 underlying267 underlying3 rc rfl rfl rfl rfl hks g1))|((exact wd ⟨rfl,rfl⟩ rfl underlying9 underlying267 underlying3 rfl rfl rfl rfl hks rfl bz him hF))));refine cF (show(1:Int)+1=2 from rfl) c1 ?_))
    exact dp
   ·have g0:mj l i l[i].key=0:=v6 hd
    have hF:=Fy hi
    have g1:mj l (i+1) l[i].key=1:=by rw[←hF];simp
    have h2:=v7 hi h2 hd
    clear hk hall
    (refine cF (show(0:Int)+1=1 from rfl) c1 ?_;repeat' first|apply ah|refine ai fun hc=>?_|((first|apply aB rfl|apply aC rfl|apply aD rfl|apply aF rfl);(focus ((try (apply bI;(focus rfl);apply ag rfl rfl rfl rfl rfl));first|((exact mV ⟨rfl,rfl,rfl⟩ rfl underlying9 underlying267 underlying3 rc rfl rfl rfl rfl hks g0))|((exact mV ⟨rfl,rfl,rfl⟩ rfl underlying9 underlying267 underlying3 rc rfl rfl rfl rfl hks g1))|((exact wd ⟨rfl,rfl⟩ rfl underlying9 underlying267 underlying3 rfl rfl rfl rfl hks rfl bz him hF))));refine cF (show(0:Int)+1=1 from rfl) c1 ?_))
    refine⟨i+1,⟨ab,h2⟩,ab,?_⟩
    exact ae
  ·rw[Wd ab]at h2
   have hu:wF l=true:=oV.2 ⟨WJ.2 hall,h2⟩
   rw[hu]
   clear hall
   (refine w0 ?_;repeat' first|apply ah|refine ai fun hc=>?_)
   exact dp
theorem Ae (b:Bool):Fn prog 114 [bC b] (el (iZ b)):=by
 cases b with
 | false=>
  refine fi func114 ntmps114 ?_
  (refine w0 ?_;repeat' first|apply ah|refine ai fun hc=>?_)
  exact wo
 | true=>
  refine fi func114 ntmps114 ?_
  (refine w0 ?_;repeat' first|apply ah|refine ai fun hc=>?_)
  exact wo
theorem Tj (s:Nat):Fn prog 117 [iC .u64 (s:Nat)] (gz (Ap s)):=by
 rw[show Ap s=DA 8 s from rfl]
 refine fi func117 ntmps117 ?_
 (repeat' (first|refine ck ?_|refine bi ?_|refine bA ?_|refine bB ?_|refine cn ?_|refine aU ?_|refine bV cI ?_|refine ci ?_|refine cj (by kernel_rfl) ?_|(refine dL rfl rfl ⟨fun hc=>?_,fun hc=>?_⟩<;>(repeat rw[V7]at hc)<;>(try exact ce hc))|((first|apply aB rfl|apply aC rfl|apply aD rfl|apply aF rfl);focus (first|((exact Cc (m:=8) ⟨rfl,rfl,rfl⟩ rfl inferInstance inferInstance rfl rfl rfl rfl ab ab))|(apply bI;(focus rfl);apply ag rfl rfl rfl rfl rfl;((exact Cc (m:=8) ⟨rfl,rfl,rfl⟩ rfl inferInstance inferInstance rfl rfl rfl rfl ab ab)))|exact cz|fail))|refine bD ?_|refine bF ?_|refine bG ?_|refine de ?_|refine dg ?_|refine bH ?_|refine bj rfl ?_|((first|refine dM rfl rfl rfl ⟨fun hc=>?_,fun hc=>?_⟩|refine dN rfl rfl rfl ⟨fun hc=>?_,fun hc=>?_⟩)<;>(fail_if_success (have q:(true=true):=hc))<;>(fail_if_success (have q:(false=false):=hc))<;>(repeat rw[V7]at hc)<;>(try exact ce hc))|refine aH rfl rfl (fun hc=>?_) ?_))
 refine bZ (X:=Nat) (fun k=>k≤8) (fun k=>ay [(0,iC .u64 (s:Nat)),(3,.row 5 0),(7,iC .i64 8),(8,iC .i64 (k:Nat))] [(5,.row 5 1 ((Ac 8 s k).map byteP))]) (fun k=>8-k) 0 ab ?_ ?_
 ·rw[RT]
  exact ae
 ·intro k hk
  have hl:=Hb 8 s k hk
  by_cases hlt:k<8
  ·have hZ:=He (s:=s) (k:=k) (b:=IntKind.u64.bits) (by show 8*k≤64;omega)
   have hW:=ln (s / 256 ^ k)
   have HJ:((Ac 8 s k).map byteP)[k]?=some (byteP 0):=by rw[List.getElem?_map,Hc 8 s k hlt];rfl
   have HS:((Ac 8 s k).map byteP).set k (cH (byteP 0) 0 (byteP (UInt8.ofNat (s / 256 ^ k))))=(Ac 8 s (k+1)).map byteP:=by
    rw[←Hd 8 s k hlt,List.map_set];rfl
   generalize s / 256 ^ k=q at *
   (repeat' (first|refine ck ?_|refine bi ?_|refine bA ?_|refine bB ?_|refine cn ?_|refine aU ?_|refine bV cI ?_|refine ci ?_|refine cj (by kernel_rfl) ?_|(refine dL rfl rfl ⟨fun hc=>?_,fun hc=>?_⟩<;>(repeat rw[V7]at hc)<;>(try exact ce hc))|((first|apply aB rfl|apply aC rfl|apply aD rfl|apply aF rfl);focus (first|((exact jA ⟨rfl,rfl,rfl⟩ rfl rfl rfl ab hZ))|(apply bI;(focus rfl);apply ag rfl rfl rfl rfl rfl;((exact jA ⟨rfl,rfl,rfl⟩ rfl rfl rfl ab hZ)))|((apply aZ 10;(focus rfl);exact d8 ⟨rfl,rfl,rfl⟩ rfl inferInstance inferInstance rfl hW))|(apply bI;(focus rfl);apply ag rfl rfl rfl rfl rfl;((apply aZ 10;(focus rfl);exact d8 ⟨rfl,rfl,rfl⟩ rfl inferInstance inferInstance rfl hW)))|exact cz|((apply aZ 6;(focus rfl);exact aM ⟨rfl,rfl⟩ rfl inferInstance rfl rfl rfl rfl HJ rfl (aY rfl rfl rfl) rfl HS))|(apply bI;(focus rfl);apply ag rfl rfl rfl rfl rfl;((apply aZ 6;(focus rfl);exact aM ⟨rfl,rfl⟩ rfl inferInstance rfl rfl rfl rfl HJ rfl (aY rfl rfl rfl) rfl HS)))|fail))|refine bD ?_|refine bF ?_|refine bG ?_|refine de ?_|refine dg ?_|refine bH ?_|refine bj rfl ?_|((first|refine dM rfl rfl rfl ⟨fun hc=>?_,fun hc=>?_⟩|refine dN rfl rfl rfl ⟨fun hc=>?_,fun hc=>?_⟩)<;>(fail_if_success (have q:(true=true):=hc))<;>(fail_if_success (have q:(false=false):=hc))<;>(repeat rw[V7]at hc)<;>(try exact ce hc))|refine aH rfl rfl (fun hc=>?_) ?_))
   refine⟨k+1,ab,ab,?_⟩
   exact ae
  ·obtain rfl:k=8:=ab
   rw[RU]at *
   (refine w0 ?_;repeat' first|apply ah|refine ai fun hc=>?_)
   exact dw (cJ rfl rfl rfl rfl)
abbrev UA (l:List Int):Ret:=.own 3 1 (l.map TK)
theorem FC (m:Msg):Fn prog 60 [p7 m] (UA (cV m)):=by
 unfold cV
 by_cases c1:m.kind=1
 ·rw[V6 c1]
  have h1:=Ae m.wants
  refine fi func60 ntmps60 ?_
  (repeat' (first|refine ck ?_|refine bi ?_|refine bA ?_|refine bB ?_|refine cn ?_|refine aU ?_|refine bV cI ?_|refine ci ?_|refine cj (by kernel_rfl) ?_|(refine dL rfl rfl ⟨fun hc=>?_,fun hc=>?_⟩<;>(repeat rw[V7]at hc)<;>(try exact ce hc))|((first|apply aB rfl|apply aC rfl|apply aD rfl|apply aF rfl);focus (first|((apply aZ 15;(focus rfl);solve|(apply cq<;>first|exact⟨rfl,rfl,rfl⟩|rfl|infer_instance|(repeat (first|exact bM.nil|(apply bM.cons;(focus (first|exact aY rfl rfl rfl|exact dm rfl|exact dn rfl))))))))|(apply bI;(focus rfl);apply ag rfl rfl rfl rfl rfl;((apply aZ 15;(focus rfl);solve|(apply cq<;>first|exact⟨rfl,rfl,rfl⟩|rfl|infer_instance|(repeat (first|exact bM.nil|(apply bM.cons;(focus (first|exact aY rfl rfl rfl|exact dm rfl|exact dn rfl)))))))))|exact cz|exact nf (h1)|fail))|refine bD ?_|refine bF ?_|refine bG ?_|refine de ?_|refine dg ?_|refine bH ?_|refine bj rfl ?_|((first|refine dM rfl rfl rfl ⟨fun hc=>?_,fun hc=>?_⟩|refine dN rfl rfl rfl ⟨fun hc=>?_,fun hc=>?_⟩)<;>(fail_if_success (have q:(true=true):=hc))<;>(fail_if_success (have q:(false=false):=hc))<;>(repeat rw[V7]at hc)<;>(try exact ce hc))|refine aH rfl rfl (fun hc=>?_) ?_))
  exact nx
 rw[V3 c1]
 by_cases c2:m.kind=2
 ·rw[V6 c2]
  have h1:=Ae m.same
  refine fi func60 ntmps60 ?_
  (repeat' (first|refine ck ?_|refine bi ?_|refine bA ?_|refine bB ?_|refine cn ?_|refine aU ?_|refine bV cI ?_|refine ci ?_|refine cj (by kernel_rfl) ?_|(refine dL rfl rfl ⟨fun hc=>?_,fun hc=>?_⟩<;>(repeat rw[V7]at hc)<;>(try exact ce hc))|((first|apply aB rfl|apply aC rfl|apply aD rfl|apply aF rfl);focus (first|((apply aZ 15;(focus rfl);solve|(apply cq<;>first|exact⟨rfl,rfl,rfl⟩|rfl|infer_instance|(repeat (first|exact bM.nil|(apply bM.cons;(focus (first|exact aY rfl rfl rfl|exact dm rfl|exact dn rfl))))))))|(apply bI;(focus rfl);apply ag rfl rfl rfl rfl rfl;((apply aZ 15;(focus rfl);solve|(apply cq<;>first|exact⟨rfl,rfl,rfl⟩|rfl|infer_instance|(repeat (first|exact bM.nil|(apply bM.cons;(focus (first|exact aY rfl rfl rfl|exact dm rfl|exact dn rfl)))))))))|exact cz|exact nf (h1)|fail))|refine bD ?_|refine bF ?_|refine bG ?_|refine de ?_|refine dg ?_|refine bH ?_|refine bj rfl ?_|((first|refine dM rfl rfl rfl ⟨fun hc=>?_,fun hc=>?_⟩|refine dN rfl rfl rfl ⟨fun hc=>?_,fun hc=>?_⟩)<;>(fail_if_success (have q:(true=true):=hc))<;>(fail_if_success (have q:(false=false):=hc))<;>(repeat rw[V7]at hc)<;>(try exact ce hc))|refine aH rfl rfl (fun hc=>?_) ?_))
  exact nx
 rw[V3 c2]
 by_cases c3:m.kind=3
 ·rw[V6 c3]
  refine fi func60 ntmps60 ?_
  (repeat' (first|refine ck ?_|refine bi ?_|refine bA ?_|refine bB ?_|refine cn ?_|refine aU ?_|refine bV cI ?_|refine ci ?_|refine cj (by kernel_rfl) ?_|(refine dL rfl rfl ⟨fun hc=>?_,fun hc=>?_⟩<;>(repeat rw[V7]at hc)<;>(try exact ce hc))|((first|apply aB rfl|apply aC rfl|apply aD rfl|apply aF rfl);focus (first|((apply aZ 15;(focus rfl);solve|(apply cq<;>first|exact⟨rfl,rfl,rfl⟩|rfl|infer_instance|(repeat (first|exact bM.nil|(apply bM.cons;(focus (first|exact aY rfl rfl rfl|exact dm rfl|exact dn rfl))))))))|(apply bI;(focus rfl);apply ag rfl rfl rfl rfl rfl;((apply aZ 15;(focus rfl);solve|(apply cq<;>first|exact⟨rfl,rfl,rfl⟩|rfl|infer_instance|(repeat (first|exact bM.nil|(apply bM.cons;(focus (first|exact aY rfl rfl rfl|exact dm rfl|exact dn rfl)))))))))|exact cz|fail))|refine bD ?_|refine bF ?_|refine bG ?_|refine de ?_|refine dg ?_|refine bH ?_|refine bj rfl ?_|((first|refine dM rfl rfl rfl ⟨fun hc=>?_,fun hc=>?_⟩|refine dN rfl rfl rfl ⟨fun hc=>?_,fun hc=>?_⟩)<;>(fail_if_success (have q:(true=true):=hc))<;>(fail_if_success (have q:(false=false):=hc))<;>(repeat rw[V7]at hc)<;>(try exact ce hc))|refine aH rfl rfl (fun hc=>?_) ?_))
  exact nx
 rw[V3 c3]
 by_cases c5:m.kind=5
 ·rw[V6 c5]
  have h1:=Ae m.last
  refine fi func60 ntmps60 ?_
  (repeat' (first|refine ck ?_|refine bi ?_|refine bA ?_|refine bB ?_|refine cn ?_|refine aU ?_|refine bV cI ?_|refine ci ?_|refine cj (by kernel_rfl) ?_|(refine dL rfl rfl ⟨fun hc=>?_,fun hc=>?_⟩<;>(repeat rw[V7]at hc)<;>(try exact ce hc))|((first|apply aB rfl|apply aC rfl|apply aD rfl|apply aF rfl);focus (first|((apply aZ 15;(focus rfl);solve|(apply cq<;>first|exact⟨rfl,rfl,rfl⟩|rfl|infer_instance|(repeat (first|exact bM.nil|(apply bM.cons;(focus (first|exact aY rfl rfl rfl|exact dm rfl|exact dn rfl))))))))|(apply bI;(focus rfl);apply ag rfl rfl rfl rfl rfl;((apply aZ 15;(focus rfl);solve|(apply cq<;>first|exact⟨rfl,rfl,rfl⟩|rfl|infer_instance|(repeat (first|exact bM.nil|(apply bM.cons;(focus (first|exact aY rfl rfl rfl|exact dm rfl|exact dn rfl)))))))))|exact cz|exact nf (h1)|fail))|refine bD ?_|refine bF ?_|refine bG ?_|refine de ?_|refine dg ?_|refine bH ?_|refine bj rfl ?_|((first|refine dM rfl rfl rfl ⟨fun hc=>?_,fun hc=>?_⟩|refine dN rfl rfl rfl ⟨fun hc=>?_,fun hc=>?_⟩)<;>(fail_if_success (have q:(true=true):=hc))<;>(fail_if_success (have q:(false=false):=hc))<;>(repeat rw[V7]at hc)<;>(try exact ce hc))|refine aH rfl rfl (fun hc=>?_) ?_))
  exact nx
 rw[V3 c5]
 by_cases c6:m.kind=6
 ·rw[V6 c6]
  refine fi func60 ntmps60 ?_
  (repeat' (first|refine ck ?_|refine bi ?_|refine bA ?_|refine bB ?_|refine cn ?_|refine aU ?_|refine bV cI ?_|refine ci ?_|refine cj (by kernel_rfl) ?_|(refine dL rfl rfl ⟨fun hc=>?_,fun hc=>?_⟩<;>(repeat rw[V7]at hc)<;>(try exact ce hc))|((first|apply aB rfl|apply aC rfl|apply aD rfl|apply aF rfl);focus (first|((apply aZ 15;(focus rfl);solve|(apply cq<;>first|exact⟨rfl,rfl,rfl⟩|rfl|infer_instance|(repeat (first|exact bM.nil|(apply bM.cons;(focus (first|exact aY rfl rfl rfl|exact dm rfl|exact dn rfl))))))))|(apply bI;(focus rfl);apply ag rfl rfl rfl rfl rfl;((apply aZ 15;(focus rfl);solve|(apply cq<;>first|exact⟨rfl,rfl,rfl⟩|rfl|infer_instance|(repeat (first|exact bM.nil|(apply bM.cons;(focus (first|exact aY rfl rfl rfl|exact dm rfl|exact dn rfl)))))))))|exact cz|fail))|refine bD ?_|refine bF ?_|refine bG ?_|refine de ?_|refine dg ?_|refine bH ?_|refine bj rfl ?_|((first|refine dM rfl rfl rfl ⟨fun hc=>?_,fun hc=>?_⟩|refine dN rfl rfl rfl ⟨fun hc=>?_,fun hc=>?_⟩)<;>(fail_if_success (have q:(true=true):=hc))<;>(fail_if_success (have q:(false=false):=hc))<;>(repeat rw[V7]at hc)<;>(try exact ce hc))|refine aH rfl rfl (fun hc=>?_) ?_))
  exact nx
 ·rw[V3 c6]
  refine fi func60 ntmps60 ?_
  (repeat' (first|refine ck ?_|refine bi ?_|refine bA ?_|refine bB ?_|refine cn ?_|refine aU ?_|refine bV cI ?_|refine ci ?_|refine cj (by kernel_rfl) ?_|(refine dL rfl rfl ⟨fun hc=>?_,fun hc=>?_⟩<;>(repeat rw[V7]at hc)<;>(try exact ce hc))|((first|apply aB rfl|apply aC rfl|apply aD rfl|apply aF rfl);focus (first|((apply aZ 15;(focus rfl);solve|(apply cq<;>first|exact⟨rfl,rfl,rfl⟩|rfl|infer_instance|(repeat (first|exact bM.nil|(apply bM.cons;(focus (first|exact aY rfl rfl rfl|exact dm rfl|exact dn rfl))))))))|(apply bI;(focus rfl);apply ag rfl rfl rfl rfl rfl;((apply aZ 15;(focus rfl);solve|(apply cq<;>first|exact⟨rfl,rfl,rfl⟩|rfl|infer_instance|(repeat (first|exact bM.nil|(apply bM.cons;(focus (first|exact aY rfl rfl rfl|exact dm rfl|exact dn rfl)))))))))|exact cz|fail))|refine bD ?_|refine bF ?_|refine bG ?_|refine de ?_|refine dg ?_|refine bH ?_|refine bj rfl ?_|((first|refine dM rfl rfl rfl ⟨fun hc=>?_,fun hc=>?_⟩|refine dN rfl rfl rfl ⟨fun hc=>?_,fun hc=>?_⟩)<;>(fail_if_success (have q:(true=true):=hc))<;>(fail_if_success (have q:(false=false):=hc))<;>(repeat rw[V7]at hc)<;>(try exact ce hc))|refine aH rfl rfl (fun hc=>?_) ?_))
  exact nx
theorem kt (p:List UInt8)(h:p.length≤300000000):(txB p).length≤p.length+9:=by
 unfold txB bu
 have hs:(⟨p.toArray⟩:ByteArray).size=p.length:=by simp[ByteArray.size]
 rw[hs,V5]
 have:=bf (p.length:Int) ab
 unfold aJ at this
 simp at this ⊢
 omega
theorem Tk (b:List UInt8)(ps:List (List UInt8))(hb:b.length≤1000000)(hn:ps.length≤100)(hs:∀p∈ps,p.length≤300000000):Fn prog 64 [.per (aK b),.bor 1 (ps.map m6)] (.per (aK (b++ps.flatMap txB))):=by
 generalize hR:b++ps.flatMap txB=R
 refine fi func64 ntmps64 ?_
 (refine w0 ?_)
 refine aj (X:=Nat×List UInt8) (fun x=>x.1≤ps.length∧x.2.length≤1000000+300000009*x.1∧x.2++(ps.drop x.1).flatMap txB=R)
  (fun x=>ay [(0,.per (aK x.2)),(7,.bor 1 (ps.map m6)),(8,iC .i64 (ps.length:Nat)),(9,iC .i64 (x.1:Nat))] []) (fun x=>ps.length-x.1) (0,b) ⟨Wa _,aA,hR⟩ ?_
 rintro⟨i,acc⟩ ⟨h1,h2,h3⟩
 simp only at h1 h2 h3 ⊢
 by_cases hi:i<ps.length
 ·rw[List.drop_eq_getElem_cons hi,List.flatMap_cons,←V9]at h3
  have hp:=hs _ (Wk hi)
  have hl:=kt ps[i] hp
  have e:[(⟨ps[i].toArray⟩:ByteArray)].flatMap bu=txB ps[i]:=by simp[txB]
  have c1:=(fb acc [⟨ps[i].toArray⟩] (by rw[e];omega)).frz
  rw[e]at c1
  clear e hs hR
  (refine aq c1 ?_;repeat' first|apply ah|refine ai fun hc=>?_)
  refine⟨(i+1,acc++txB ps[i]),⟨aA,by simp only[V5];omega,h3⟩,aA,?_⟩
  exact ae
 ·rw[Wv ab,WC,Wg]at h3
  subst h3
  clear hs
  (refine w0 ?_;repeat' first|apply ah|refine ai fun hc=>?_)
  exact OZ
end Go.Proofs.YtaclhhkblbacgaaGreat
