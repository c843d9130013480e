/- Texts joined: Lib Slice. -/
import Derived.WalkKit
import Derived.WalkLawsBesides
import Derived.WalkSpells
import Derived.Lib.Hide
import Derived.Laws.AppendOwnNone
import Derived.Lib.AppendStr
namespace Go.Proofs.YtaclhhkblbacgaaGreat
open Go.RowKit
variable {p:Prop} {w' a b:World} {row:Option Nat} {bytes base B:Nat} {vs:Array Value}
theorem V3:∀{c:Prop} {_h:Decidable c},¬c→∀{α:Sort _} {t e:α},(if c then t else e)=e:=@if_neg
theorem V4:∀{α:Type _} {l:List α} {i:Nat} (_h:i<l.length),l[i]?=some l[i]:=@List.getElem?_eq_getElem
theorem V5:∀{α:Type _} {as bs:List α},(as++bs).length=as.length+bs.length:=@List.length_append
theorem V6:∀{c:Prop} {_h:Decidable c},c→∀{α:Sort _} {t e:α},(if c then t else e)=t:=@if_pos
theorem V7:∀{α:Type _} {β:Type _} {as:List α} (f:α→β),(List.map f as).length=as.length:=@List.length_map
theorem V8:∀(n:Nat),n≤n:=@Nat.le_refl
theorem V9:∀{α:Type _} (as bs cs:List α),as++bs++cs=as++(bs++cs):=@List.append_assoc
theorem Wa:∀(n:Nat),0≤n:=@Nat.zero_le
theorem Wb:∀{p:Prop} [Decidable p],p→decide p=true:=@decide_eq_true
theorem Wc:∀{n m:Nat},n.ble m=true→n≤m:=@Nat.le_of_ble_eq_true
theorem Wd:∀{α:Type _} {i:Nat} {l:List α},l.length≤i→List.take i l=l:=@List.take_of_length_le
theorem Wf:∀{α:Type _} {l:List α},l.length=0→l=[]:=@List.eq_nil_of_length_eq_zero
theorem Wg:∀{α:Type _} (as:List α),as++[]=as:=@List.append_nil
theorem Wh:∀{α:Type _} {a:α} {as:List α},(a::as).length=as.length+1:=@List.length_cons
theorem Wi:∀(a b:Bool),((a&&b)=true)=(a=true∧b=true):=@Bool.and_eq_true
theorem Wj:∀{p:Prop} [Decidable p],¬p→decide p=false:=@decide_eq_false
theorem Wk:∀{α:Type _} {l:List α} {n:Nat} (_h:n<l.length),l[n]∈l:=@List.getElem_mem
theorem Wl:∀{α:Type _} {l₁ l₂:List α} {i:Nat},i<l₁.length→(l₁++l₂)[i]?=l₁[i]?:=@List.getElem?_append_left
theorem Wm:∀(n m:Nat),n<m∨n≥m:=@Nat.lt_or_ge
theorem Wn:∀{p:Prop} [Decidable p],(decide p=true)=p:=@decide_eq_true_eq
theorem Wo:∀{a b:Bool},a=b↔(a=true↔b=true):=@Bool.eq_iff_iff
theorem Wp:∀{α:Type _} {b:α} {l:List α} {a:α},a∈b::l↔a=b∨a∈l:=@List.mem_cons
theorem Wq:∀{α:Type _} {l:List α} {i:Nat},l.length≤i→l[i]?=none:=@List.getElem?_eq_none
theorem Ws:∀{α:Type _} {i:Nat} {a:α} {l:List α},l[i]?=some a↔∃h,l[i]=a:=@List.getElem?_eq_some_iff
theorem Wt:∀{p:Prop} {_x:Decidable p},decide p=false↔¬p:=@decide_eq_false_iff_not
theorem Wu:∀{α:Type _} (as:List α),[]++as=as:=@List.nil_append
theorem Wv:∀{α:Type _} {i:Nat} {l:List α},l.length≤i→List.drop i l=[]:=@List.drop_of_length_le
theorem Ww:∀{α:Type _} (y:α) {a:α} {l:List α},a∈l→a∈y::l:=@List.mem_cons_of_mem
theorem Wx:∀{α:Sort _} {β:Sort _} {a₁ a₂:α} (f:α→β),a₁=a₂→f a₁=f a₂:=@congrArg
theorem Wy:∀(b:Bool),(¬b=true)=(b=false):=@Bool.not_eq_true
theorem Wz:∀{α:Type _} {a:α} {s t:List α},a∈s++t↔a∈s∨a∈t:=@List.mem_append
theorem WA:∀{α:Type _} {i:Nat} {l:List α},(List.take i l).length=min i l.length:=@List.length_take
theorem WB:∀{p:Prop} [Decidable p],¬¬p↔p:=@Decidable.not_not
theorem WC:∀{α:Type _} {β:Type _} {f:α→List β},List.flatMap f []=[]:=@List.flatMap_nil
theorem WD:∀(n m:Nat),n+m-m=n:=@Nat.add_sub_cancel
theorem WF:∀(n:Nat),0+n=n:=@Nat.zero_add
theorem WG:∀{α:Type _} {a:α} {l:List α},a∈a::l:=@List.mem_cons_self
theorem WH:(false=true)=False:=@Bool.false_eq_true
theorem WI:∀{α:Type _} {l:List α} {i j:Nat},(List.take i l)[j]?=if j<i then l[j]? else none:=@List.getElem?_take
theorem WJ:∀{α:Type _} {p:α→Bool} {l:List α},l.all p=true↔∀(x:α),x∈l→p x=true:=@List.all_eq_true
theorem WK:∀{α:Type _} {l:List α} {i:Nat} {a:α},l[i]?=some a→a∈l:=@List.mem_of_getElem?
theorem WL:∀{α:Type _} (i:Nat) (l:List α),List.take i l++List.drop i l=l:=@List.take_append_drop
theorem WM:∀{α:Type _} (l:List α),l <:+ l:=@List.suffix_refl
theorem WN:∀(a b:Bool),((a||b)=true)=(a=true∨b=true):=@Bool.or_eq_true
theorem WO:∀{α:Type _} {xs:List α} {i j:Nat},(List.drop i xs)[j]?=xs[i+j]?:=@List.getElem?_drop
theorem WP:∀(b:Bool),(true&&b)=b:=@Bool.true_and
theorem WQ:∀{n m:Nat} (k:Nat),n≤m→n*k≤m*k:=@Nat.mul_le_mul_right
theorem WR:∀{α:Type _} {as:List α},as.toArray.size=as.length:=@List.size_toArray
theorem WS:∀{α:Type _} {xs:Array α} {i:Nat} (_h:i<xs.size),xs[i]?=some xs[i]:=@Array.getElem?_eq_getElem
theorem WT:∀{α:Type _} (p:α→Bool) (l:List α),(List.filter p l).length≤l.length:=@List.length_filter_le
theorem WU:∀(n m:Nat),n.succ*m=n*m+m:=@Nat.succ_mul
theorem WV:∀(b:Bool),(false&&b)=false:=@Bool.false_and
theorem WW:∀(n:Nat),n+0=n:=@Nat.add_zero
theorem WX:∀{α:Type _} {l:List α},List.take l.length l=l:=@List.take_length
theorem WY:∀{n m k:Nat},n<m→m≤k→n<k:=@Nat.lt_of_lt_of_le
theorem WZ:∀{α:Type _} {p:α→Bool} {as:List α} {x:α},x∈List.filter p as↔x∈as∧p x=true:=@List.mem_filter
theorem W3:∀{α:Type _} {xs:List α} {i:Nat},xs.toArray[i]?=xs[i]?:=@List.getElem?_toArray
theorem W4:∀(n:Nat),¬n<0:=@Nat.not_lt_zero
theorem W5:∀{α:Type _} {β:Type _} (a:α) (f:α→β),Option.map f (some a)=some (f a):=@Option.map_some
theorem W6:∀(n:Nat),n=0∨n>0:=@Nat.eq_zero_or_pos
theorem W7:∀{n m k:Nat},n≤m→m≤k→n≤k:=@Nat.le_trans
theorem W8:∀{α:Type _} {β:Type _} (f:α→β),Option.map f none=none:=@Option.map_none
theorem W9:∀{α:Type _} {xs:Array α},xs.toList.length=xs.size:=@Array.length_toList
theorem Xa:∀{α:Type _} (as:List α),as.reverse.reverse=as:=@List.reverse_reverse
theorem Xb:∀{α:Type _} {i:Nat} {l:List α},(List.drop i l).length=l.length-i:=@List.length_drop
theorem Xc:∀{α:Type _} {p:α→Bool} {l:List α},l.any p=true↔∃x,x∈l∧p x=true:=@List.any_eq_true
theorem Xd:∀{n:Nat},(UInt8.ofNat n).toNat=n % 2 ^ 8:=@UInt8.toNat_ofNat'
theorem Xe:∀{α:Type _} (R:α→α→Prop) (a:α),List.Pairwise R [a]:=@List.pairwise_singleton
theorem Xf:∀{α:Type _} (a:α) (as:List α) (_h:0<(a::as).length),(a::as)[0]=a:=@List.getElem_cons_zero
theorem Xg:∀{α:Type _} {l:List α} {i:Nat} {a:α},l.getD i a=l[i]?.getD a:=@List.getD_eq_getElem?_getD
theorem Xh:∀{α:Type _} {a:α},¬a∈[]:=@List.not_mem_nil
theorem Xi:∀(n:Nat),0<n.succ:=@Nat.zero_lt_succ
theorem Xj:∀{a b:UInt8},a.toNat=b.toNat↔a=b:=@UInt8.toNat_inj
theorem Xk:∀{α:Type _} {l:List α},List.drop l.length l=[]:=@List.drop_length
theorem Xl:∀{α:Type _} {a b:α},a∈[b]↔a=b:=@List.mem_singleton
theorem Xm:∀{α:Type _} {x:α} {xs:List α} {d:α},(x::xs).getD 0 d=x:=@List.getD_cons_zero
theorem Xn:∀{α:Type _} {l:List α} {L:List (List α)},(l::L).flatten=l++L.flatten:=@List.flatten_cons
theorem Xo:∀(b:Bool),(false||b)=b:=@Bool.false_or
theorem Xp:∀(b:Bool),((!b)=true)=(b=false):=@Bool.not_eq_true'
theorem Xq:∀{α:Sort _} {_x:Decidable True} (t e:α),(if True then t else e)=t:=@if_true
theorem Xr:∀(n:Nat),n*1=n:=@Nat.mul_one
theorem Xs:∀{x y:Bool},(x||y)=false↔x=false∧y=false:=@Bool.or_eq_false_iff
theorem Xt:∀{α:Type _} {i:Nat} {a:α} {l:List α},a∈List.take i l→a∈l:=@List.mem_of_mem_take
theorem Xu:∀{a:Int},0≤a→↑a.toNat=a:=@Int.toNat_of_nonneg
theorem Xv:∀(b:Bool),(b&&false)=false:=@Bool.and_false
theorem Xw:∀{α:Type _} {l:List α},List.drop 0 l=l:=@List.drop_zero
theorem Xx:∀{α:Type _} {x:α} {l:List α},[x]++l=x::l:=@List.singleton_append
theorem Xy:∀{a b:Int},0≤a→a.tdiv b=a / b:=@Int.tdiv_eq_ediv_of_nonneg
theorem Xz:(!true)=false:=@Bool.not_true
theorem XA:∀(a b:Nat),a<b∨a=b∨b<a:=@Nat.lt_trichotomy
theorem XB:∀(n:Nat),n-n=0:=@Nat.sub_self
theorem XC:∀{α:Sort _} {_x:Decidable False} (t e:α),(if False then t else e)=e:=@if_false
theorem XD:∀{p:Prop} [Decidable p],decide p=true↔p:=@decide_eq_true_iff
theorem XE:∀{α:Type _} {xs:Array α} {i:Nat} {d:α},xs.getD i d=xs[i]?.getD d:=@Array.getD_eq_getD_getElem?
theorem XF:∀{α:Type _} {R:α→α→Prop},List.Pairwise R []:=@List.Pairwise.nil
theorem XG:∀(x:Nat) {y:Nat},0<y→x % y<y:=@Nat.mod_lt
theorem XH:∀(n m k:Nat),(n+m)*k=n*k+m*k:=@Nat.add_mul
theorem XI:∀{p:Prop},(¬p→False)→p:=@Classical.byContradiction
theorem XJ:∀{α:Sort _} {a b:α},a≠b→b≠a:=@Ne.symm
theorem aA (h:p:=by simp only;omega):p:=h
theorem bn (h:p:=by simp;omega):p:=h
theorem ab (h:p:=by omega):p:=h
theorem bz (h:p:=by decide):p:=h
theorem au (h:p:=by simp):p:=h
def eX (w w':World):Prop:=Below w.heap.size w w'
theorem eX.refl (w:World):eX w w:=Below.refl _ _
theorem eX.size {w:World}(h:eX w w'):w.heap.size≤w'.heap.size:=Below.size h
theorem eX.trans {c:World}(h:eX a b)(k:eX b c):eX a c:=Below.trans h (Below.mono k h.size)
theorem eX.alloc {w:World}(h:eX a w)(o:Obj):eX a (w.alloc o):=Below.alloc h h.size o
theorem eX.drew {w:World}(h:eX a w):eX a w.drew:=Below.drew h
theorem eX.drewN {w:World}(h:eX a w)(n:Nat):eX a (w.drewN n):=⟨h.os,h.tape,h.output,h.size,h.block⟩
theorem eX.setCell {w:World}(h:eX a w){p:Addr}(hp:a.heap.size≤p.block)(u:Value):eX a (w.setCell p u):=Below.setCell h hp u
theorem eX.grown {w:World}(h:eX a w)(hg:w.grownBy w' row)(hr:∀k,row=some k→a.heap.size≤k):eX a w':=Below.grown h hg h.size hr
theorem eX.below {w:World}(h:eX a w):Below a.heap.size a w:=h
theorem eX.cell {w:World}(h:eX w w'){p:Addr}{v:Value}(hc:w.cell? p=some v):w'.cell? p=some v:=by
 have hp:=World.block_lt_of_cell? w p hc
 rw[Below.cell h hp];exact hc
theorem eX.cells {w:World}(h:eX w w'):∀b o,b<w.heap.size→w'.cell? ⟨b,o,none⟩=w.cell? ⟨b,o,none⟩:=fun b o hb=>Below.cell h (p:=⟨b,o,none⟩) hb
def Sl {α:Type}(k:Nat)(enc:α→List Value)(w:World)(v:Value)(l:List α):Prop:=
 ∃a c b o,v=.slice a l.length c∧l.length≤c∧c≤maxLen∧(0<l.length→a=some ⟨b,o,none⟩)∧(a=none→c=0) ∧
  ∀(i:Nat)(x:α),l[i]?=some x→∀(j:Nat)(y:Value),(enc x)[j]?=some y→w.cell? ⟨b,o+i*k+j,none⟩=some y
theorem Sl.ext {α:Type}{k:Nat}{enc:α→List Value}{w:World}{v:Value}{l:List α}(h:Sl k enc w v l)(he:eX w w'):Sl k enc w' v l:=by
 obtain⟨a,c,b,o,hv,h1,h2,h3,h0,h4⟩:=h
 exact⟨a,c,b,o,hv,h1,h2,h3,h0,fun i x hx j y hy=>he.cell (h4 i x hx j y hy)⟩
def encB (c:UInt8):List Value:=[.int .u8 (c.toNat:Int)]
abbrev Bs (w:World)(v:Value)(l:List UInt8):Prop:=Sl 1 encB w v l
theorem Bs.open {w:World}{v:Value}{l:List UInt8}(h:Bs w v l) :
 ∃a c b o,v=.slice a l.length c∧l.length≤c∧c≤maxLen∧(0<l.length→a=some ⟨b,o,none⟩) ∧
  ∀(i:Nat)(h:i<l.length),w.cell? ⟨b,o+i,none⟩=some (.int .u8 ((l[i]).toNat:Int)):=by
 obtain⟨a,c,b,o,hv,h1,h2,h3,h0,h4⟩:=h
 refine⟨a,c,b,o,hv,h1,h2,h3,fun i hi=>?_⟩
 have:=h4 i l[i] (by simp[hi]) 0 _ rfl
 simpa using this
def O0 (v:Value):List Value:=[v]
theorem Sl.open1 {w:World}{v:Value}{l:List Value}(h:Sl 1 O0 w v l) :
 ∃a c b o,v=.slice a l.length c∧l.length≤c∧c≤maxLen∧(0<l.length→a=some ⟨b,o,none⟩) ∧
  ∀(i:Nat)(h:i<l.length),w.cell? ⟨b,o+i,none⟩=some l[i]:=by
 obtain⟨a,c,b,o,hv,h1,h2,h3,h0,h4⟩:=h
 refine⟨a,c,b,o,hv,h1,h2,h3,fun i hi=>?_⟩
 have:=h4 i l[i] (by simp[hi]) 0 _ rfl
 simpa using this
def TH (w:World)(v:Value)(ls:List (List UInt8)):Prop:=
 ∃vs:List Value,vs.length=ls.length∧Sl 1 O0 w v vs∧∀(i:Nat)(h:i<vs.length)(h':i<ls.length),Bs w vs[i] ls[i]
theorem TH.ext {w:World}{v:Value}{ls:List (List UInt8)}(h:TH w v ls)(he:eX w w'):TH w' v ls:=by
 obtain⟨vs,h1,h2,h3⟩:=h
 exact⟨vs,h1,h2.ext he,fun i hi hi'=>(h3 i hi hi').ext he⟩
theorem pz {a b:Value}(h:a=b):Ending.returned a=.returned b:=by rw[h]
theorem pA {k:IntKind}{a b:Int}(h:a=b):Value.int k a=.int k b:=by rw[h]
theorem jq {α:Type}(l:List α)(k:Nat)(h:k<l.length):l.take (k+1)=l.take k++[l[k]]:=by
 rw[List.take_succ_eq_append_getElem h]
theorem ro {n c:Nat}(h:n≤c)(h':c≤maxLen):n≤9223372036854775807:=by unfold maxLen at h';omega
theorem iy {α:Type}(k:Nat)(enc:α→List Value)(hk:∀x,(enc x).length=k) :
 ∀(l:List α)(i:Nat)(x:α),l[i]?=some x→∀(j:Nat)(y:Value),(enc x)[j]?=some y→(l.flatMap enc)[i*k+j]?=some y:=by
 intro l
 induction l with
 | nil=>intro i x hx;simp at hx
 | cons a l ih=>
  intro i x hx j y hy
  cases i with
  | zero=>
   simp at hx;subst hx
   have hj:j<(enc a).length:=by
    by_cases h:j<(enc a).length
    ·exact h
    ·rw[Wq ab]at hy;cases hy
   simp only[List.flatMap_cons,Nat.zero_mul,WF]
   rw[Wl hj];exact hy
  | succ i=>
   simp at hx
   simp only[List.flatMap_cons]
   rw[List.getElem?_append_right (by rw[hk];rw[WU];omega),hk]
   rw[show(i+1)*k+j-k=i*k+j by rw[WU];omega]
   exact ih i x hx j y hy
theorem jI {α:Type}(k:Nat)(enc:α→List Value)(hk:∀x,(enc x).length=k)(l:List α):(l.flatMap enc).length=l.length*k:=by
 induction l with
 | nil=>simp
 | cons a l ih=>simp only[List.flatMap_cons,V5,hk,ih,Wh,WU];omega
theorem ws {α:Type}(k:Nat)(enc:α→List Value)(hk:∀x,(enc x).length=k)(hp:0<k)(l:List α)(j:Nat)(y:Value)(h:(l.flatMap enc)[j]?=some y) :
 ∃x,l[j / k]?=some x∧(enc x)[j % k]?=some y:=by
 have hj:j<(l.flatMap enc).length:=by
  by_cases hh:j<(l.flatMap enc).length
  ·exact hh
  ·rw[Wq ab]at h;cases h
 rw[jI k enc hk]at hj
 have hq:j / k<l.length:=(Nat.div_lt_iff_lt_mul hp).2 hj
 refine⟨l[j / k],by simp[hq],?_⟩
 have hr:j % k<(enc l[j / k]).length:=by rw[hk];exact XG _ hp
 have h5:=iy k enc hk l (j / k) l[j / k] (by simp[hq]) (j % k) _ (V4 hr)
 have hjk:j / k*k+j % k=j:=by rw[Nat.mul_comm];exact Nat.div_add_mod j k
 rw[hjk,h]at h5
 rw[V4 hr,←Option.some.inj h5]
structure J7 {α:Type}(k:Nat)(enc:α→List Value):Prop where
 pos:0<k
 len:∀x,(enc x).length=k
 one:∀x,∀u∈enc x,u.oneCell'=true
theorem dz:J7 1 encB:=⟨bz,fun _=>rfl,fun x u hu=>by simp[encB]at hu;subst hu;rfl⟩
def O1 (n:Int):List Value:=[.int .i64 n]
def kT {α:Type}(e k:Nat)(enc:α→List Value)(wB w:World)(v:Value)(l:List α):Prop:=
 eX wB w∧w.ownsRow wB.heap.size e k v l.length (l.flatMap enc)
section
variable {α:Type} {e k:Nat} {enc:α→List Value} {wB w:World} {v:Value} {l:List α}
theorem kT.ext (h:kT e k enc wB w v l):eX wB w:=h.1
theorem kT.mono {w0:World}(h:kT e k enc wB w v l)(h0:eX w0 wB):kT e k enc w0 w v l:=by
 refine⟨h0.trans h.1,h.2.1,?_⟩
 rcases h.2.2 with h2|⟨g,cap,cur,hv,hg,r⟩
 ·exact .inl h2
 ·exact .inr ⟨g,cap,cur,hv,W7 h0.size hg,r⟩
theorem kT.nil (h:eX wB w):kT e k enc wB w (.slice none 0 0) ([]:List α):=⟨h,World.ownsRow_nil _ _ _ _⟩
theorem kT.alloc (h:kT e k enc wB w v l)(o:Obj):kT e k enc wB (w.alloc o) v l:=⟨h.1.alloc o,h.2.alloc o⟩
theorem kT.drew (h:kT e k enc wB w v l):kT e k enc wB w.drew v l:=⟨h.1.drew,h.2⟩
theorem kT.extend (h:kT e k enc wB w v l)(he:eX w w'):kT e k enc wB w' v l:=by
 refine⟨h.1.trans he,h.2.1,?_⟩
 rcases h.2.2 with h2|⟨g,cap,cur,hv,hg,hh,r⟩
 ·exact .inl h2
 ·refine .inr ⟨g,cap,cur,hv,hg,?_,r⟩
  rw[Below.block he g (Array.getElem?_eq_some_iff.1 hh).1];exact hh
theorem kT.sl (h:kT e k enc wB w v l)(hE:J7 k enc):Sl k enc w v l:=by
 obtain⟨_,hl,h2⟩:=h
 rcases h2 with⟨rfl,hn⟩|⟨g,cap,cur,rfl,hg,hh,h3,h4,h5,h6⟩
 ·refine⟨none,0,0,0,by rw[hn],ab,by unfold maxLen;omega,ab,fun _=>rfl,?_⟩
  intro i x hx
  have:l=[]:=Wf hn
  subst this;simp at hx
 ·refine⟨_,cap,g,0,rfl,h3,h4,fun _=>rfl,(fun h=>by cases h),?_⟩
  intro i x hx j y hy
  have hf:=iy k enc hE.len l i x hx j y hy
  rw[←h6,WI]at hf
  split at hf
  ·rw[cell_of_row w g _ cur e (0,0) hh];simpa using hf
  ·cases hf
end
theorem Sl.lit {α:Type}{k e:Nat}{enc:α→List Value}{w:World}{b:Nat}{C:Array Value}{fz:Nat×Nat}{l:List α}{n c:Nat}(hE:∀x,(enc x).length=k)
 (h:w.heap[b]?=some (.cells C e fz)) (hl:l.flatMap enc=C.toList) (hn:n=l.length) (hc:n≤c) (hm:c≤maxLen):Sl k enc w (.slice (some ⟨b,0,none⟩) n c) l:=by
 subst hn
 refine⟨_,c,b,0,rfl,hc,hm,fun _=>rfl,(fun h=>by cases h),?_⟩
 intro i x hx j y hy
 have hf:=iy k enc hE l i x hx j y hy
 rw[hl]at hf
 rw[cell_of_row w b _ C e fz h];simpa using hf
structure TI (P:Program)(t e k bytes:Nat):Prop where
 und:P.underlying t=some (.slice e)
 info:∃i z,P.info? e=some i∧i.zero=some z∧i.size=k∧i.bytes=bytes∧z.cells.size=k
theorem TI.mk' {P:Program}{t e k:Nat}(h:P.underlying t=some (.slice e))
 (hi:(P.info? e).map (fun i=>(i.zero.map (fun z=>z.cells.size),i.size,i.bytes))=some (some k,k,bytes)):TI P t e k bytes:=by
 refine⟨h,?_⟩
 cases hp:P.info? e with
 | none=>rw[hp]at hi;simp at hi
 | some i=>
  rw[hp]at hi;simp at hi
  obtain⟨⟨z,hz,hz2⟩,h2,h3⟩:=hi
  exact⟨i,z,rfl,hz,h2,h3,hz2⟩
def tV {α:Type}(base e k:Nat)(enc:α→List Value)(w:World)(v:Value)(l:List α):Prop:=w.ownsRow base e k v l.length (l.flatMap enc)
theorem tV.lt {α:Type}{e k:Nat}{enc:α→List Value}{w:World}{v:Value}{l:List α}(h:tV base e k enc w v l):∀q,v.ownBlock=some q→base≤q∧q<w.heap.size:=World.ownsRow.lt h
theorem tV.nil {α:Type}{e k:Nat}{enc:α→List Value}{w:World}:tV base e k enc w (.slice none 0 0) ([]:List α):=World.ownsRow_nil _ _ _ _
theorem tV.alloc {α:Type}{e k:Nat}{enc:α→List Value}{w:World}{v:Value}{l:List α}(h:tV base e k enc w v l)(o:Obj):tV base e k enc (w.alloc o) v l:=World.ownsRow.alloc h o
theorem tV.own {α:Type}{e k:Nat}{enc:α→List Value}{wB w:World}{v:Value}{l:List α}(h:tV wB.heap.size e k enc w v l)(hx:eX wB w):kT e k enc wB w v l:=⟨hx,h⟩
theorem tV.sl {α:Type}{e k:Nat}{enc:α→List Value}{w:World}{v:Value}{l:List α}(h:tV base e k enc w v l)(hE:J7 k enc):Sl k enc w v l:=by
 obtain⟨hl,h2⟩:=h
 rcases h2 with⟨rfl,hn⟩|⟨g,cap,cur,rfl,hg,hh,h3,h4,h5,h6⟩
 ·refine⟨none,0,0,0,by rw[hn],ab,by unfold maxLen;omega,ab,fun _=>rfl,?_⟩
  intro i x hx
  have:l=[]:=Wf hn
  subst this;simp at hx
 ·refine⟨_,cap,g,0,rfl,h3,h4,fun _=>rfl,(fun h=>by cases h),?_⟩
  intro i x hx j y hy
  have hf:=iy k enc hE.len l i x hx j y hy
  rw[←h6,WI]at hf
  split at hf
  ·rw[cell_of_row w g _ cur e (0,0) hh];simpa using hf
  ·cases hf
theorem yH {P:Program}{w:World}{ops:Array Oper}{rest:List Oper}{o:Oper}{a:Act}{Q:Exit→Act→World→Prop}
 (hw:Region.wanted o (yielded ops a.tmps)=true) (s x:Operand) (t:TypeId)
 (ho:o.op=.call { callee:=.builtin .append,args:=#[s,x],argTypes:=#[t,t] })
 {α:Type} {e k:Nat} {enc:α→List Value} (hT:TI P t e k bytes) (hE:J7 k enc) (wB:World) (l m:List α) (v xv:Value)
 (hs:a.eval s=v) (hx:a.eval x=xv) (hown:kT e k enc wB w v l) (hsl:Sl k enc w xv m)
 (hlen:l.length+m.length≤maxLen) (hb:(l.length+m.length)*bytes≤140737488355328)
 (h:∀v' w' r,Hid (r=l++m)→kT e k enc wB w' v' r→w.grownBy w' v.ownBlock→(v'=.slice none 0 0↔v=.slice none 0 0∧m.length=0)→wpList P ops Q rest (a.put o.dst v') w') :
 wpList P ops Q (o::rest) a w:=by
 obtain⟨i,z,hi,hz,h1,h2,h3⟩:=hT.info
 obtain⟨ad,c,b,off,rfl,g1,g2,g3,g0,g4⟩:=hsl
 have hgrown:∀(v':Value)(w':World),w.grownBy w' v.ownBlock→eX wB w':=fun v' w' hg=>hown.1.grown hg (fun kk hk=>(hown.2.lt kk hk).1)
 cases ad with
 | none=>
  have hm:m=[]:=by
   cases m with
   | nil=>rfl
   | cons x m=>have:=g3 au;cases this
  subst hm
  obtain rfl:=g0 rfl
  have hrun:=run_append_owned_none (P:=P) (w:=w) wB.heap.size t o.type e i k hT.und hi v l.length (l.flatMap enc) hown.2
  have hx':a.eval x=.slice none 0 0:=hx
  unfold wpList
  rw[V6 hw]
  refine .inl ?_
  unfold Oper.wp
  simp only[execOp,ho,resolve,invoke,builtin,Sem.run_bind,Sem.run_pure,Result.andThen_ok,List.map_toArray,List.map_cons,List.map_nil,hs,hx',hrun]
  exact h v w l (Lib.hid (Wg l).symm) hown ⟨rfl,rfl,rfl,V8 _,fun _ _ _=>rfl⟩ au
 | some ad=>
  unfold wpList
  rw[V6 hw]
  refine .inl ?_
  refine wp_append_own w s x t ho wB.heap.size e i z k bytes hT.und hi hz h1 h2 h3 hE.pos v l.length (l.flatMap enc) hs hown.2 ad m.length c (m.flatMap enc) hx
   (jI k enc hE.len m) ?_ ?_ hlen hb hown.1.size ?_
  ·intro j u hu
   have hj:j<(m.flatMap enc).length:=by
    by_cases h:j<(m.flatMap enc).length
    ·exact h
    ·rw[Wq ab]at hu;cases hu
   rw[jI k enc hE.len]at hj
   have hk:=hE.pos
   have hm:0<m.length:=by
    rcases W6 m.length with h|h
    ·rw[h]at hj;simp at hj
    ·exact h
   have hq:j / k<m.length:=(Nat.div_lt_iff_lt_mul hk).2 hj
   have had:=g3 hm
   simp at had;subst had
   have hr:j % k<(enc m[j / k]).length:=by rw[hE.len];exact XG _ hk
   have h5:=iy k enc hE.len m (j / k) m[j / k] (by simp[hq]) (j % k) _ (V4 hr)
   have hjk:j / k*k+j % k=j:=by rw[Nat.mul_comm];exact Nat.div_add_mod j k
   rw[hjk,hu]at h5
   have h6:=g4 (j / k) m[j / k] (by simp[hq]) (j % k) _ (V4 hr)
   rw[show off+j / k*k+j % k=off+j by omega]at h6
   rw[Addr.add_lit]
   rw[h6];simp only[Option.some.injEq]at h5;rw[h5]
  ·intro u hu
   rw[List.mem_flatMap]at hu
   obtain⟨x,_,hx⟩:=hu
   exact hE.one x u hx
  ·intro v' w' h7 h8 h9
   refine h v' w' _ (Lib.hid rfl) ⟨hgrown v' w' h8,?_⟩ h8 h9
   rw[V5,List.flatMap_append];exact h7
theorem io {P:Program}{w:World}{ops:Array Oper}{rest:List Oper}{o:Oper}{a:Act}{Q:Exit→Act→World→Prop}
 (hgd:o.guard=none) (s x:Operand) (t:TypeId)
 (ho:o.op=.call { callee:=.builtin .append,args:=#[s,x],argTypes:=#[t,t] })
 {α:Type} {e k:Nat} {enc:α→List Value} (hT:TI P t e k bytes) (hE:J7 k enc) (wB:World) (l m:List α) (v xv:Value)
 (hs:a.eval s=v) (hx:a.eval x=xv) (hown:kT e k enc wB w v l) (hsl:Sl k enc w xv m)
 (hlen:l.length+m.length≤maxLen) (hb:(l.length+m.length)*bytes≤140737488355328)
 (h:∀v' w' r,Hid (r=l++m)→kT e k enc wB w' v' r→w.grownBy w' v.ownBlock→(v'=.slice none 0 0↔v=.slice none 0 0∧m.length=0)→wpList P ops Q rest (a.put o.dst v') w') :
 wpList P ops Q (o::rest) a w:=
 yH (by simp[Region.wanted,hgd]) s x t ho hT hE wB l m v xv hs hx hown hsl hlen hb h
theorem Sl.new1 {α:Type}{k:Nat}{enc:α→List Value}(hE:∀x,(enc x).length=k)(w:World)(C:Array Value)(e:TypeId)(x:α)(h:enc x=C.toList) :
 Sl k enc (w.alloc (.cells C e)) (.slice (some ⟨w.heap.size,0,none⟩) 1 1) [x]:=
 Sl.lit hE (heap_alloc_new w _) (by simp[h]) rfl bz bz
theorem Sl.nil {α:Type}{k:Nat}{enc:α→List Value}(w:World):Sl k enc w (.slice none 0 0) ([]:List α):=
 ⟨none,0,0,0,rfl,au,bz,au,fun _=>rfl,fun i x hx=>by simp at hx⟩
theorem kT.empty {α:Type}{e k:Nat}{enc:α→List Value}{wB w:World}(h:eX wB w):kT e k enc wB (w.alloc (.cells #[] e)) (.slice (some ⟨w.heap.size,0,none⟩) 0 0) ([]:List α):=
 ⟨h.alloc _,au,.inr ⟨w.heap.size,0,#[],rfl,h.size,heap_alloc_new w _,au,bz,au,au⟩⟩
def TJ (s:ByteArray):List Value:=[.string s]
theorem yI (s:ByteArray):Lib.strCells s=s.data.toList.flatMap encB:=by
 rw[Lib.strCells,List.flatMap_def]
 induction s.data.toList with
 | nil=>rfl
 | cons a l ih=>simp[encB]at ih ⊢;exact ih
theorem Au {P:Program}{w:World}{ops:Array Oper}{rest:List Oper}{o:Oper}{a:Act}{Q:Exit→Act→World→Prop}
 (hgd:o.guard=none) (sl x:Operand) (t u:TypeId)
 (ho:o.op=.call { callee:=.builtin .append,args:=#[sl,x],argTypes:=#[t,u] })
 {e:Nat} (hT:TI P t e 1 1) (hz:(P.info? e).bind (·.zero)=some (.int .u8 0)) (hu:P.underlying u=some .string) (wB:World) (l:List UInt8) (s:ByteArray) (v:Value)
 (hs:a.eval sl=v) (hx:a.eval x=.string s) (hown:kT e 1 encB wB w v l)
 (hlen:l.length+s.size≤140737488355328)
 (h:∀v' w' r,Hid (r=l++s.data.toList)→kT e 1 encB wB w' v' r→w.grownBy w' v.ownBlock→wpList P ops Q rest (a.put o.dst v') w') :
 wpList P ops Q (o::rest) a w:=by
 obtain⟨i,z,hi,hz',h1,h2,h3⟩:=hT.info
 rw[hi]at hz
 refine Lib.wpList_append_own_string w hgd sl x t u ho wB.heap.size e i hT.und hu hi hz h1 h2 v l.length (l.flatMap encB) hs hown.2 s hx (by unfold maxLen;omega) hlen hown.1.size ?_
 intro v' w' h7 h8 h9
 refine h v' w' _ (Lib.hid rfl) ⟨hown.1.grown h8 (fun kk hk=>(hown.2.lt kk hk).1),?_⟩ h8
 rw[V5,List.flatMap_append,←yI]
 exact h7
def tW {α:Type}(e k:Nat)(enc:α→List Value)(wB:World)(l:List α)(en:Ending)(w':World):Prop:=∃v',en=.returned v'∧kT e k enc wB w' v' l
theorem Sl.openI {w:World}{v:Value}{l:List Int}(h:Sl 1 O1 w v l) :
 ∃a c b o,v=.slice a l.length c∧l.length≤c∧c≤maxLen∧(0<l.length→a=some ⟨b,o,none⟩) ∧
  ∀(i:Nat)(h:i<l.length),w.cell? ⟨b,o+i,none⟩=some (.int .i64 l[i]):=by
 obtain⟨a,c,b,o,hv,h1,h2,h3,h0,h4⟩:=h
 refine⟨a,c,b,o,hv,h1,h2,h3,fun i hi=>?_⟩
 have:=h4 i l[i] (by simp[hi]) 0 _ rfl
 simpa using this
theorem Sl.openS {w:World}{v:Value}{l:List ByteArray}(h:Sl 1 TJ w v l) :
 ∃a c b o,v=.slice a l.length c∧l.length≤c∧c≤maxLen∧(0<l.length→a=some ⟨b,o,none⟩) ∧
  ∀(i:Nat)(h:i<l.length),w.cell? ⟨b,o+i,none⟩=some (.string l[i]):=by
 obtain⟨a,c,b,o,hv,h1,h2,h3,h0,h4⟩:=h
 refine⟨a,c,b,o,hv,h1,h2,h3,fun i hi=>?_⟩
 have:=h4 i l[i] (by simp[hi]) 0 _ rfl
 simpa using this
def O2 {α:Type}(e k:Nat)(enc:α→List Value)(wB:World)(l:List α)(x:Value)(en:Ending)(w':World):Prop:=∃v',en=.returned (.tuple #[v',x])∧kT e k enc wB w' v' l
theorem kT.lit {α:Type}{e k:Nat}{enc:α→List Value}(hE:∀x,(enc x).length=k){wB w:World}(h:eX wB w)(C:Array Value)(l:List α)(hl:l.flatMap enc=C.toList)(n:Nat)(hn:n=l.length)(hm:n≤maxLen) :
 kT e k enc wB (w.alloc (.cells C e)) (.slice (some ⟨w.heap.size,0,none⟩) n n) l:=by
 subst hn
 have hlen:=jI k enc hE l
 refine⟨h.alloc _,hlen,.inr ⟨w.heap.size,l.length,C,rfl,h.size,heap_alloc_new w _,V8 _,hm,?_,?_⟩⟩
 ·rw[←hlen,hl];simp
 ·rw[←hlen,hl];exact Wd (V8 _)
theorem Kd (s:ByteArray)(k:Nat)(h:k<s.size):s.data.toList.take (k+1)=s.data.toList.take k++[s[k]]:=by
 rw[List.take_succ_eq_append_getElem (by simpa using h)];rfl
theorem O3 (s:ByteArray)(k:Nat)(h:s.size≤k):s.data.toList.take k=s.data.toList:=by
 rw[Wd];simpa using h
theorem mq (s:ByteArray):s.data.toList.length=s.size:=au
theorem jr (s:ByteArray):s.toList=s.data.toList:=ByteArray.toList_eq s
section
variable {P:Program} {T e k:Nat} {α:Type} {enc:α→List Value} {w:World} {v:Value} {l:List α}
theorem Sl.cut0 (h:Sl k enc w v l)(lo hi:Nat)(h1:lo≤hi)(h2:hi≤l.length) :
 ∃a c,v=.slice a l.length c∧hi≤c∧Sl k enc w (.slice (if c=lo then a else a.map (·.add (lo*k))) (hi-lo) (c-lo)) ((l.drop lo).take (hi-lo)):=by
 obtain⟨a,c,b,o,rfl,g1,g2,g3,g0,g4⟩:=h
 refine⟨a,c,rfl,ab,?_⟩
 have hlen:((l.drop lo).take (hi-lo)).length=hi-lo:=bn
 by_cases hz:hi=lo
 ·subst hz
  refine⟨_,c-hi,0,0,by rw[hlen],ab,ab,by rw[hlen];omega,?_,?_⟩
  ·intro hn
   by_cases hc:c=hi
   ·omega
   ·rw[V3 hc]at hn
    cases a with
    | none=>have:=g0 rfl;omega
    | some a=>simp at hn
  ·intro i x hx
   rw[Wq (by rw[hlen];omega)]at hx;cases hx
 ·have ha:=g3 ab
  have hc:¬c=lo:=ab
  refine⟨_,c-lo,b,o+lo*k,by rw[hlen],ab,ab,fun _=>?_,?_,?_⟩
  ·rw[V3 hc,ha];simp[Addr.add_lit]
  ·intro hn;rw[V3 hc,ha]at hn;simp at hn
  ·intro i x hx j y hy
   rw[WI]at hx
   split at hx
   ·rw[WO]at hx
    have:=g4 (lo+i) x hx j y hy
    rw[show o+lo*k+i*k+j=o+(lo+i)*k+j by rw[XH];omega]
    exact this
   ·cases hx
theorem Sl.cut (h:Sl k enc w v l)(lo hi:Nat)(h1:lo≤hi)(h2:hi≤l.length) :
 ∃a c,v=.slice a l.length c∧hi≤c∧∃a',a'=(if c=lo then a else a.map (·.add (lo*k)))∧∀w0,Sl k enc w0 v l→Sl k enc w0 (.slice a' (hi-lo) (c-lo)) ((l.drop lo).take (hi-lo)):=by
 obtain⟨a,c,rfl,h3,h4⟩:=h.cut0 lo hi h1 h2
 refine⟨a,c,rfl,h3,_,rfl,fun w0 h0=>?_⟩
 obtain⟨a',c',he,_,h5⟩:=h0.cut0 lo hi h1 h2
 simp only[Value.slice.injEq,true_and]at he
 obtain⟨rfl,rfl⟩:=he
 exact h5
theorem Sl.from (hT:TI P T e k bytes)(h:Sl k enc w v l)(lo:Nat)(h1:lo≤l.length)(kk:IntKind) :
 ∃a' c',(∀w',(Instr.slice T v (some (.int kk (lo:Int))) none none).run P w'=.ok (.slice a' (l.length-lo) c') w')∧Sl k enc w (.slice a' (l.length-lo) c') (l.drop lo)∧∀w0,Sl k enc w0 v l→Sl k enc w0 (.slice a' (l.length-lo) c') (l.drop lo):=by
 have h00:=h
 obtain⟨a,c,rfl,h3,a',ha',hs⟩:=h.cut lo l.length h1 (V8 _)
 rw[Wd au]at hs
 refine⟨a',c-lo,fun w'=>?_,hs _ h00,hs⟩
 ·obtain⟨ti,z,hti,hz,hk0,_,_⟩:=hT.info
  have hk:P.cellsOf e=k:=by unfold Program.cellsOf;rw[hti];simpa using hk0
  have ht:=hT.und
  have hel:P.elem T=e:=by unfold Program.elem;rw[ht]
  rw[run_slice_l (ht:=by rw[hel];exact ht) (h0:=ab) (h1:=ab),hel,run_sizeOf _ hti,hk]
  simp[sliced,Result.andThen,ha']
theorem Sl.to (hT:TI P T e k bytes)(h:Sl k enc w v l)(hi:Nat)(h1:hi≤l.length)(kk:IntKind) :
 ∃a' c',(∀w',(Instr.slice T v none (some (.int kk (hi:Int))) none).run P w'=.ok (.slice a' hi c') w')∧Sl k enc w (.slice a' hi c') (l.take hi)∧∀w0,Sl k enc w0 v l→Sl k enc w0 (.slice a' hi c') (l.take hi):=by
 have h00:=h
 obtain⟨a,c,rfl,h3,a',ha',hs⟩:=h.cut 0 hi (Wa _) h1
 simp only[Xw,Nat.sub_zero]at hs
 refine⟨a',c,fun w'=>?_,hs _ h00,hs⟩
 ·obtain⟨ti,z,hti,hz,hk0,_,_⟩:=hT.info
  have hk:P.cellsOf e=k:=by unfold Program.cellsOf;rw[hti];simpa using hk0
  have ht:=hT.und
  have hel:P.elem T=e:=by unfold Program.elem;rw[ht]
  rw[run_slice_h (ht:=by rw[hel];exact ht) (h0:=ab) (h2:=ab),hel,run_sizeOf _ hti,hk]
  simp[sliced,Result.andThen,ha']
theorem Sl.mid (hT:TI P T e k bytes)(h:Sl k enc w v l)(lo hi:Nat)(h0:lo≤hi)(h1:hi≤l.length)(kk kk':IntKind) :
 ∃a' c',(∀w',(Instr.slice T v (some (.int kk (lo:Int))) (some (.int kk' (hi:Int))) none).run P w'=.ok (.slice a' (hi-lo) c') w')∧Sl k enc w (.slice a' (hi-lo) c') ((l.drop lo).take (hi-lo))∧∀w0,Sl k enc w0 v l→Sl k enc w0 (.slice a' (hi-lo) c') ((l.drop lo).take (hi-lo)):=by
 have h00:=h
 obtain⟨a,c,rfl,h3,a',ha',hs⟩:=h.cut lo hi h0 h1
 refine⟨a',c-lo,fun w'=>?_,hs _ h00,hs⟩
 obtain⟨ti,z,hti,hz,hk0,_,_⟩:=hT.info
 have hk:P.cellsOf e=k:=by unfold Program.cellsOf;rw[hti];simpa using hk0
 have ht:=hT.und
 have hel:P.elem T=e:=by unfold Program.elem;rw[ht]
 rw[run_slice_lh (ht:=by rw[hel];exact ht) (h0:=ab) (h1:=ab) (h2:=ab),hel,run_sizeOf _ hti,hk]
 simp[sliced,Result.andThen,ha']
def iz (w:World)(B:Nat)(T:TypeId)(vs:Array Value):Prop:=w.heap[B]?=some (.cells vs T (0,0))
theorem iz.cell (h:iz w B T vs)(j:Nat):w.cell? ⟨B,j,none⟩=vs[j]?:=cell_of_row w B j _ _ _ h
theorem iz.lt (h:iz w B T vs):B<w.heap.size:=(Array.getElem?_eq_some_iff.1 h).1
theorem iz.ext (h:iz w B T vs)(he:eX w w'):iz w' B T vs:=by
 unfold iz;rw[Below.block he B h.lt];exact h
theorem iz.grown (h:iz w B T vs)(hg:w.grownBy w' row)(hr:some B≠row):iz w' B T vs:=by
 unfold iz;rw[hg.block B h.lt hr];exact h
theorem iz.set (h:iz w B T vs)(j:Nat)(x:Value):iz (w.setCell ⟨B,j,none⟩ x) B T (vs.setIfInBounds j x):=by
 unfold iz World.setCell
 simp only[Array.getElem?_modify,Xq]
 rw[h];simp
theorem Av (h:eX a b):a.grownBy b row:=⟨h.os,h.tape,h.output,h.size,fun k hk _=>h.block k hk⟩
theorem Sl.grown (h:Sl k enc w v l)(hg:w.grownBy w' (some B))(hB:∀b o y,w.cell? ⟨b,o,none⟩=some y→(∃x,y∈enc x)→b≠B):Sl k enc w' v l:=by
 obtain⟨a,c,b,o,hv,g1,g2,g3,g0,g4⟩:=h
 refine⟨a,c,b,o,hv,g1,g2,g3,g0,fun i x hx j y hy=>?_⟩
 have hc:=g4 i x hx j y hy
 exact hg.cell hc (by simp;exact hB _ _ _ hc ⟨x,WK hy⟩)
theorem iz.noB (h:iz w B T vs)(hv:∀y∈vs,∀n,y≠.int .u8 n):∀b o y,w.cell? ⟨b,o,none⟩=some y→(∃x,y∈encB x)→b≠B:=by
 rintro b o y hc ⟨x,hx⟩ rfl
 rw[h.cell]at hc
 simp[encB]at hx
 exact hv y (Array.mem_of_getElem? hc) _ hx
end
theorem DC (l:List UInt8):∀s:ByteArray,(l.map (fun c=>(c.toNat:Int))).foldl (fun r n=>r.push (UInt8.ofNat n.toNat)) s=⟨s.data++l.toArray⟩:=by
 induction l with
 | nil=>intro s;simp
 | cons c l ih=>
  intro s
  simp only[List.map_cons,List.foldl_cons]
  rw[ih]
  have:UInt8.ofNat ((c.toNat:Int)).toNat=c:=au
  rw[this]
  show(⟨(s.push c).data++l.toArray⟩:ByteArray)=_
  have:(s.push c).data=s.data.push c:=rfl
  rw[this]
  congr 1
  apply Array.ext'
  simp
theorem Bs.toStr {P:Program}{src dst e:TypeId}(hs:P.underlying src=some (.slice e))(he:P.underlying e=some (.int .u8))(hd:P.underlying dst=some .string)
 {w:World} {v:Value} {l:List UInt8} (h:Bs w v l):(convert src dst v).run P w=.ok (.string ⟨l.toArray⟩) w:=by
 obtain⟨a,c,b,o,rfl,h1,h2,h3,h0,h4⟩:=h
 rw[run_convert_bytes_string w src dst e a l.length c hs he hd]
 cases a with
 | none=>
  have:l=[]:=by
   cases l with
   | nil=>rfl
   | cons x l=>have:=h3 au;cases this
  subst this
  simp[Conv.bytesToString,Sem.run_pure];rfl
 | some ad=>
  have hf:=run_firstCells_some (P:=P) w 1 l.length ad l.length c (l.flatMap encB) (by rw[jI 1 encB dz.len]) (by
   intro j u hu
   obtain⟨x,hx,hy⟩:=ws 1 encB dz.len bz l j u hu
   rw[Nat.div_one]at hx
   rw[Nat.mod_one]at hy
   have hj:j<l.length:=by
    rcases Wm j l.length with h|h
    ·exact h
    ·rw[Wq h]at hx;cases hx
   have hsp:=h3 ab
   simp at hsp;subst hsp
   rw[Addr.add_lit]
   have:=h4 j x hx 0 u hy
   simpa using this)
  have hl:l.flatMap encB=(l.map (fun c=>(c.toNat:Int))).map (Value.int .u8):=by
   clear hf h4 h3 h2 h1
   induction l with
   | nil=>rfl
   | cons x l ih=>simp[encB]at ih ⊢;exact ih
  rw[hl]at hf
  simp only[Builtin.firstCells,Xr]at hf
  rw[run_bytesToString w ad l.length c _ hf,DC]
  congr 2
  simp
structure OX (B C:Nat)(w w':World):Prop where
 os:w'.os=w.os
 tape:w'.tape=w.tape
 output:w'.output=w.output
 size:w.heap.size≤w'.heap.size
 block:∀k,k<w.heap.size→k≠B→k≠C→w'.heap[k]?=w.heap[k]?
theorem OX.refl (B C:Nat)(w:World):OX B C w w:=⟨rfl,rfl,rfl,V8 _,fun _ _ _ _=>rfl⟩
theorem OX.grown {C:Nat}{c:World}(h:OX B C a b)(h':b.grownBy c row)(hr:∀k,row=some k→k=B∨k=C∨a.heap.size≤k):OX B C a c:=
 ⟨h'.os.trans h.os,h'.tape.trans h.tape,h'.output.trans h.output,W7 h.size h'.size,fun k hk h1 h2=>
  (h'.block k (WY hk h.size) (fun e=>by rcases hr k e.symm with h|h|h;exact h1 h;exact h2 h;omega)).trans (h.block k hk h1 h2)⟩
theorem OX.ext {C:Nat}{c:World}(h:OX B C a b)(h':eX b c):OX B C a c:=h.grown (row:=none) (Av h') au
theorem OX.bs {C:Nat}{v:Value}{l:List UInt8}{TB TC:TypeId}{xs ys:Array Value}(h:OX B C a b)(hs:Bs a v l)(hB:iz a B TB xs)(hC:iz a C TC ys)
 (nB:∀y∈xs,∀n,y≠.int .u8 n) (nC:∀y∈ys,∀n,y≠.int .u8 n):Bs b v l:=by
 obtain⟨aa,c,bb,o,hv,g1,g2,g3,g0,g4⟩:=hs
 refine⟨aa,c,bb,o,hv,g1,g2,g3,g0,fun i x hx j y hy=>?_⟩
 have hc:=g4 i x hx j y hy
 have hlt:=World.block_lt_of_cell? a _ hc
 rw[World.cell?_of_block (w:=a) (h.block bb hlt (hB.noB nB _ _ _ hc ⟨x,WK hy⟩) (hC.noB nC _ _ _ hc ⟨x,WK hy⟩))]
 exact hc
end Go.Proofs.YtaclhhkblbacgaaGreat
