/- Lemmas, walks. -/
import Derived.WalkKit
import Derived.WalkLawsBesides
import Derived.WalkSpells
import Derived.Lib.Hide
import Derived.Laws.AppendOwnNone
import Derived.Lib.AppendStr
import Derived.Orders
namespace Go.Proofs.YtecdgdoledkdfaaGreat
abbrev aS:=@inferInstance.{0}
open Go.RowKit
variable {p:Prop} {a b:World} {row:Option Nat} {t bytes base:Nat} {o:Oper} {B:Nat} {vs:Array Value} {id:Nat} {d:Option Nat} {E:Nat->Bool}
theorem aaa:∀{α:Type _} {l:List α} {i:Nat} (_h:i<l.length),l[i]?=some l[i]:=@List.getElem?_eq_getElem
theorem aab:∀{c:Prop} {_h:Decidable c},¬c->∀{α:Sort _} {t e:α},(if c then t else e)=e:=@if_neg
theorem aad:∀{α:Type _} {β:Type _} {as:List α} (f:α->β),(List.map f as).length=as.length:=@List.length_map
theorem aae:∀{c:Prop} {_h:Decidable c},c->∀{α:Sort _} {t e:α},(if c then t else e)=t:=@if_pos
theorem aaf:∀(n:Nat),n<=n:=@Nat.le_refl
theorem aag:∀(n:Nat),0<=n:=@Nat.zero_le
theorem aai:∀{α:Type _} {as bs:List α},(as++bs).length=as.length+bs.length:=@List.length_append
theorem aaj:∀{α:Type _} {i:Nat} {l:List α},l.length<=i->List.take i l=l:=@List.take_of_length_le
theorem aal:∀{α:Type _} (as bs cs:List α),as++bs++cs=as++(bs++cs):=@List.append_assoc
theorem aan:∀{α:Type _} (as:List α),as++[]=as:=@List.append_nil
theorem aao:∀{p:Prop} [Decidable p],p->decide p=true:=@decide_eq_true
theorem aap:∀{p:Prop} [Decidable p],¬p->decide p=false:=@decide_eq_false
theorem aaq:∀{n m:Nat},n.ble m=true->n<=m:=@Nat.le_of_ble_eq_true
theorem aar:∀{α:Type _} {l:List α} {n:Nat} (_h:n<l.length),l[n]∈l:=@List.getElem_mem
theorem aav:∀{a b:Bool},a=b↔(a=true↔b=true):=@Bool.eq_iff_iff
theorem aax:∀{α:Type _} {l:List α},l.length=0->l=[]:=@List.eq_nil_of_length_eq_zero
theorem aay:∀{α:Type _} {i:Nat} {l:List α},l.length<=i->List.drop i l=[]:=@List.drop_of_length_le
theorem aaz:∀{α:Type _} {l₁ l₂:List α} {i:Nat},i<l₁.length->(l₁++l₂)[i]?=l₁[i]?:=@List.getElem?_append_left
theorem aaA:∀{α:Sort _} {β:Sort _} {a₁ a₂:α} (f:α->β),a₁=a₂->f a₁=f a₂:=@congrArg
theorem aaB:∀(b:Bool),(¬b=true)=(b=false):=@Bool.not_eq_true
theorem aaC:∀(a b:Bool),((a&&b)=true)=(a=true/\b=true):=@Bool.and_eq_true
theorem aaD:∀{α:Type _} {a:α} {as:List α},(a::as).length=as.length+1:=@List.length_cons
theorem aaE:∀{α:Type _} (as:List α),[]++as=as:=@List.nil_append
theorem aaF:∀(n m:Nat),n<m\/n>=m:=@Nat.lt_or_ge
theorem aaG:∀{p:Prop} [Decidable p],¬¬p↔p:=@Decidable.not_not
theorem aaH:∀{α:Type _} {p:α->Bool} {l:List α},l.all p=true↔∀(x:α),x∈l->p x=true:=@List.all_eq_true
theorem aaI:∀{p:Prop} [Decidable p],(decide p=true)=p:=@decide_eq_true_eq
theorem aaJ:∀(n:Nat),0+n=n:=@Nat.zero_add
theorem aaK:∀{α:Type _} {i:Nat} {l:List α},(List.take i l).length=min i l.length:=@List.length_take
theorem aaL:(false=true)=False:=@Bool.false_eq_true
theorem aaM:∀{α:Type _} {i:Nat} {a:α} {l:List α},l[i]?=some a↔∃h,l[i]=a:=@List.getElem?_eq_some_iff
theorem aaS:∀{α:Type _} {a:α} {s t:List α},a∈s++t↔a∈s\/a∈t:=@List.mem_append
theorem aaT:∀{n m:Nat} (k:Nat),n<=m->n*k<=m*k:=@Nat.mul_le_mul_right
theorem aaU:∀{α:Type _} {b:α} {l:List α} {a:α},a∈b::l↔a=b\/a∈l:=@List.mem_cons
theorem aaV:∀{α:Type _} {as:List α},as.toArray.size=as.length:=@List.size_toArray
theorem aaW:∀{α:Type _} {l:List α} {i j:Nat},(List.take i l)[j]?=if j<i then l[j]? else none:=@List.getElem?_take
theorem aaX:∀(b:Bool),(true&&b)=b:=@Bool.true_and
theorem aaY:∀{α:Type _} (y:α) {a:α} {l:List α},a∈l->a∈y::l:=@List.mem_cons_of_mem
theorem aaZ:∀{α:Type _} {β:Type _} {f:α->List β},List.flatMap f []=[]:=@List.flatMap_nil
theorem aa0:∀{α:Type _} (i:Nat) (l:List α),List.take i l++List.drop i l=l:=@List.take_append_drop
theorem aa1:∀{α:Type _} {a:α} {l:List α},a∈a::l:=@List.mem_cons_self
theorem aa2:∀(b:Bool),(false&&b)=false:=@Bool.false_and
theorem aa3:∀{α:Type _} {l:List α} {i:Nat} {a:α},l[i]?=some a->a∈l:=@List.mem_of_getElem?
theorem aa4:∀{n m k:Nat},n<m->m<=k->n<k:=@Nat.lt_of_lt_of_le
theorem aa5:∀{α:Type _} (l:List α),l <:+ l:=@List.suffix_refl
theorem aa6:∀{α:Type _} (as:List α),as.reverse.reverse=as:=@List.reverse_reverse
theorem aa7:∀{α:Type _} {xs:Array α} {i:Nat} {d:α},xs.getD i d=xs[i]?.getD d:=@Array.getD_eq_getD_getElem?
theorem aa8:∀(n m:Nat),n+m-m=n:=@Nat.add_sub_cancel
theorem aa9:∀{α:Type _} {l:List α},List.take l.length l=l:=@List.take_length
theorem aba:∀{α:Type _} {l:List α},List.drop l.length l=[]:=@List.drop_length
theorem abb:∀{p:Prop} {_x:Decidable p},decide p=false↔¬p:=@decide_eq_false_iff_not
theorem abc:∀(n:Nat),¬n<0:=@Nat.not_lt_zero
theorem abd:∀{α:Type _} {xs:List α} {i:Nat},xs.toArray[i]?=xs[i]?:=@List.getElem?_toArray
theorem abe:∀{α:Type _} {i:Nat} {l:List α},(List.drop i l).length=l.length-i:=@List.length_drop
theorem abf:∀{a b:Int},0<=a->a.tdiv b=a / b:=@Int.tdiv_eq_ediv_of_nonneg
theorem abg:∀{a b:UInt8},a.toNat=b.toNat↔a=b:=@UInt8.toNat_inj
theorem abh:∀{n:Nat},(UInt8.ofNat n).toNat=n % 2 ^ 8:=@UInt8.toNat_ofNat'
theorem abi:∀{α:Type _} (R:α->α->Prop) (a:α),List.Pairwise R [a]:=@List.pairwise_singleton
theorem abj:∀(n m:Nat),n.succ*m=n*m+m:=@Nat.succ_mul
theorem abk:∀{n m k:Nat},n<=m->m<=k->n<=k:=@Nat.le_trans
theorem abl:∀(b:Bool),(false||b)=b:=@Bool.false_or
theorem abm:∀(a b:Bool),((a||b)=true)=(a=true\/b=true):=@Bool.or_eq_true
theorem abn:∀{α:Type _} {xs:List α} {i j:Nat},(List.drop i xs)[j]?=xs[i+j]?:=@List.getElem?_drop
theorem abo:∀(n:Nat),n+0=n:=@Nat.add_zero
theorem abp:∀{α:Type _} {xs:Array α},xs.toList.length=xs.size:=@Array.length_toList
theorem abq:∀(b:Bool),((!b)=true)=(b=false):=@Bool.not_eq_true'
theorem abr:∀{α:Type _} {a:α},¬a∈[]:=@List.not_mem_nil
theorem abs:∀(b:Bool),(b&&false)=false:=@Bool.and_false
theorem abt:∀{α:Type _} {p:α->Bool} {as:List α} {x:α},x∈List.filter p as↔x∈as/\p x=true:=@List.mem_filter
theorem abu:∀{α:Type _} {l:List α},List.drop 0 l=l:=@List.drop_zero
theorem abv:∀{α:Type _} {x:α} {l:List α},[x]++l=x::l:=@List.singleton_append
theorem abw:∀{α:Type _} {xs:Array α} {i:Nat} (_h:i<xs.size),xs[i]?=some xs[i]:=@Array.getElem?_eq_getElem
theorem abx:∀{α:Type _} {a:α},[a].length=1:=@List.length_singleton
theorem aby:∀(a:Int),a<=a:=@Int.le_refl
theorem abz:∀(n:Nat),0<n.succ:=@Nat.zero_lt_succ
theorem abA:∀{α:Type _} {x:α} {xs:List α} {d:α},(x::xs).getD 0 d=x:=@List.getD_cons_zero
theorem abB:∀(x:Nat) {y:Nat},0<y->x % y<y:=@Nat.mod_lt
theorem abC:∀{α:Type _} {i:Nat} {a:α} {l:List α},a∈List.take i l->a∈l:=@List.mem_of_mem_take
theorem abD:∀{α:Type _} {R:α->α->Prop},List.Pairwise R []:=@List.Pairwise.nil
theorem abE:∀{α:Type _} {a:α} {as:List α},(a::as).reverse=as.reverse++[a]:=@List.reverse_cons
theorem abF:∀(n:Nat),n*1=n:=@Nat.mul_one
theorem abG:∀(a b:Nat),a<b\/a=b\/b<a:=@Nat.lt_trichotomy
theorem abI:∀{α:Type _} {a b:α},a∈[b]↔a=b:=@List.mem_singleton
theorem aL (h:p:=by simp only;omega):p:=h
theorem bD (h:p:=by simp;omega):p:=h
theorem ae (h:p:=by omega):p:=h
theorem bP (h:p:=by decide):p:=h
theorem aA (h:p:=by simp):p:=h
def bQ (w w':World):Prop:=Below w.heap.size w w'
theorem bQ.refl (w:World):bQ w w:=Below.refl _ _
theorem bQ.size {w w':World}(h:bQ w w'):w.heap.size<=w'.heap.size:=Below.size h
theorem bQ.trans {c:World}(h:bQ a b)(k:bQ b c):bQ a c:=Below.trans h (Below.mono k h.size)
theorem bQ.alloc {w:World}(h:bQ a w)(o:Obj):bQ a (w.alloc o):=Below.alloc h h.size o
theorem bQ.drew {w:World}(h:bQ a w):bQ a w.drew:=Below.drew h
theorem bQ.drewN {w:World}(h:bQ a w)(n:Nat):bQ a (w.drewN n):=⟨h.os,h.tape,h.output,h.size,h.block⟩
theorem bQ.setCell {w:World}(h:bQ a w){p:Addr}(hp:a.heap.size<=p.block)(u:Value):bQ a (w.setCell p u):=Below.setCell h hp u
theorem bQ.grown {w w':World}(h:bQ a w)(hg:w.grownBy w' row)(hr:∀k,row=some k->a.heap.size<=k):bQ a w':=Below.grown h hg h.size hr
theorem bQ.below {w:World}(h:bQ a w):Below a.heap.size a w:=h
theorem bQ.cell {w w':World}(h:bQ w w'){p:Addr}{v:Value}(hc:w.cell? p=some v):w'.cell? p=some v:=by
 have hp:=World.block_lt_of_cell? w p hc
 rw[Below.cell h hp];exact hc
theorem bQ.cells {w w':World}(h:bQ w w'):∀b o,b<w.heap.size->w'.cell? ⟨b,o,none⟩=w.cell? ⟨b,o,none⟩:=λb o hb=>Below.cell h (p:=⟨b,o,none⟩) hb
theorem bQ.frozens {w w':World}(h:bQ w w'):∀b o,b<w.heap.size->w'.frozen? ⟨b,o,none⟩=w.frozen? ⟨b,o,none⟩:=λb o hb=>Below.frozen h (p:=⟨b,o,none⟩) hb
def Sl {α:Type}(k:Nat)(enc:α->List Value)(w:World)(v:Value)(l:List α):Prop:=
 ∃a c b o,v=.slice a l.length c/\l.length<=c/\c<=maxLen/\(0<l.length->a=some ⟨b,o,none⟩)/\(a=none->c=0) /\
  ∀(i:Nat)(x:α),l[i]?=some x->∀(j:Nat)(y:Value),(enc x)[j]?=some y->w.cell? ⟨b,o+i*k+j,none⟩=some y
theorem Sl.ext {α:Type}{k:Nat}{enc:α->List Value}{w w':World}{v:Value}{l:List α}(h:Sl k enc w v l)(he:bQ w w'):Sl k enc w' v l:=by
 obtain⟨a,c,b,o,hv,h1,h2,h3,h0,h4⟩:=h
 exact⟨a,c,b,o,hv,h1,h2,h3,h0,λi x hx j y hy=>he.cell (h4 i x hx j y hy)⟩
def encB (c:UInt8):List Value:=[.int .u8 (c.toNat:Int)]
abbrev Bs (w:World)(v:Value)(l:List UInt8):Prop:=Sl 1 encB w v l
theorem Bs.open {w:World}{v:Value}{l:List UInt8}(h:Bs w v l) :
 ∃a c b o,v=.slice a l.length c/\l.length<=c/\c<=maxLen/\(0<l.length->a=some ⟨b,o,none⟩) /\
  ∀(i:Nat)(h:i<l.length),w.cell? ⟨b,o+i,none⟩=some (.int .u8 ((l[i]).toNat:Int)):=by
 obtain⟨a,c,b,o,hv,h1,h2,h3,h0,h4⟩:=h
 refine⟨a,c,b,o,hv,h1,h2,h3,λi hi=>?_⟩
 have:=h4 i l[i] (by simp[hi]) 0 _ rfl
 simpa using this
def WY (v:Value):List Value:=[v]
theorem Sl.open1 {w:World}{v:Value}{l:List Value}(h:Sl 1 WY w v l) :
 ∃a c b o,v=.slice a l.length c/\l.length<=c/\c<=maxLen/\(0<l.length->a=some ⟨b,o,none⟩) /\
  ∀(i:Nat)(h:i<l.length),w.cell? ⟨b,o+i,none⟩=some l[i]:=by
 obtain⟨a,c,b,o,hv,h1,h2,h3,h0,h4⟩:=h
 refine⟨a,c,b,o,hv,h1,h2,h3,λi hi=>?_⟩
 have:=h4 i l[i] (by simp[hi]) 0 _ rfl
 simpa using this
def YM (w:World)(v:Value)(ls:List (List UInt8)):Prop:=
 ∃vs:List Value,vs.length=ls.length/\Sl 1 WY w v vs/\∀(i:Nat)(h:i<vs.length)(h':i<ls.length),Bs w vs[i] ls[i]
theorem YM.ext {w w':World}{v:Value}{ls:List (List UInt8)}(h:YM w v ls)(he:bQ w w'):YM w' v ls:=by
 obtain⟨vs,h1,h2,h3⟩:=h
 exact⟨vs,h1,h2.ext he,λi hi hi'=>(h3 i hi hi').ext he⟩
theorem gD {a b:Value}(h:a=b):Ending.returned a=.returned b:=by rw[h]
theorem pB {a b:Bool}(h:a=b):Value.bool a=.bool b:=by rw[h]
theorem ku {k:IntKind}{a b:Int}(h:a=b):Value.int k a=.int k b:=by rw[h]
theorem iU {α:Type}(l:List α)(k:Nat)(h:k<l.length):l.take (k+1)=l.take k++[l[k]]:=by rw[List.take_succ_eq_append_getElem h]
theorem qQ {n c:Nat}(h:n<=c)(h':c<=maxLen):n<=9223372036854775807:=by grind[maxLen]
theorem aN (w:World)(o:Obj)(n:Nat)(hn:n=w.heap.size):(w.alloc o).heap[n]?=some o:=by grind[heap_alloc_new]
theorem an (w:World)(o:Obj)(n:Nat)(hn:n<w.heap.size):(w.alloc o).heap[n]?=w.heap[n]?:=heap_alloc_old _ _ hn
theorem ft (w:World)(n:Nat):(w.drew).heap[n]?=w.heap[n]?:=rfl
theorem iV {α:Type}(k:Nat)(enc:α->List Value)(hk:∀x,(enc x).length=k) :
 ∀(l:List α)(i:Nat)(x:α),l[i]?=some x->∀(j:Nat)(y:Value),(enc x)[j]?=some y->(l.flatMap enc)[i*k+j]?=some y:=by
 intro l
 induction l with
 | nil=>grind
 | cons a l ih=>
  intro i x hx j y hy
  cases i<;>grind
theorem j4 {α:Type}(k:Nat)(enc:α->List Value)(hk:∀x,(enc x).length=k)(l:List α):(l.flatMap enc).length=l.length*k:=by induction l<;>grind
theorem zc {α:Type}(k:Nat)(enc:α->List Value)(hk:∀x,(enc x).length=k)(hp:0<k)(l:List α)(j:Nat)(y:Value)(h:(l.flatMap enc)[j]?=some y) :
 ∃x,l[j / k]?=some x/\(enc x)[j % k]?=some y:=by
 have hj:j<(l.flatMap enc).length:=by
  by_cases hh:j<(l.flatMap enc).length
  all_goals grind
 rw[j4 k enc hk]at hj
 have hq:j / k<l.length:=(Nat.div_lt_iff_lt_mul hp).2 hj
 refine⟨l[j / k],by simp[hq],?_⟩
 have hr:j % k<(enc l[j / k]).length:=by rw[hk];exact abB _ hp
 have h5:=iV k enc hk l (j / k) l[j / k] (by simp[hq]) (j % k) _ (aaa hr)
 grind[Nat.div_add_mod]
structure Jj {α:Type}(k:Nat)(enc:α->List Value):Prop where
 pos:0<k
 len:∀x,(enc x).length=k
 one:∀x,∀u∈enc x,u.oneCell'=true
theorem cb:Jj 1 encB:=⟨bP,λ_=>rfl,λx u hu=>by simp[encB]at hu;subst hu;rfl⟩
def encI (n:Int):List Value:=[.int .i64 n]
theorem vD:Jj 1 encI:=⟨bP,λ_=>rfl,λx u hu=>by simp[encI]at hu;subst hu;rfl⟩
def lG {α:Type}(e k:Nat)(enc:α->List Value)(wB w:World)(v:Value)(l:List α):Prop:=
 bQ wB w/\w.ownsRow wB.heap.size e k v l.length (l.flatMap enc)
section
variable {α:Type} {e k:Nat} {enc:α->List Value} {wB w:World} {v:Value} {l:List α}
theorem lG.ext (h:lG e k enc wB w v l):bQ wB w:=h.1
theorem lG.mono {w0:World}(h:lG e k enc wB w v l)(h0:bQ w0 wB):lG e k enc w0 w v l:=by
 refine⟨h0.trans h.1,h.2.1,?_⟩
 rcases h.2.2 with h2|⟨g,cap,cur,hv,hg,r⟩
 ·exact .inl h2
 ·exact .inr ⟨g,cap,cur,hv,abk h0.size hg,r⟩
theorem lG.nil (h:bQ wB w):lG e k enc wB w (.slice none 0 0) ([]:List α):=⟨h,World.ownsRow_nil _ _ _ _⟩
theorem lG.alloc (h:lG e k enc wB w v l)(o:Obj):lG e k enc wB (w.alloc o) v l:=⟨h.1.alloc o,h.2.alloc o⟩
theorem lG.drew (h:lG e k enc wB w v l):lG e k enc wB w.drew v l:=⟨h.1.drew,h.2⟩
theorem lG.extend {w':World}(h:lG e k enc wB w v l)(he:bQ w w'):lG e k enc wB w' v l:=by
 refine⟨h.1.trans he,h.2.1,?_⟩
 rcases h.2.2 with h2|⟨g,cap,cur,hv,hg,hh,r⟩
 ·exact .inl h2
 ·refine .inr ⟨g,cap,cur,hv,hg,?_,r⟩
  rw[Below.block he g (Array.getElem?_eq_some_iff.1 hh).1];exact hh
theorem lG.sl (h:lG e k enc wB w v l)(hE:Jj k enc):Sl k enc w v l:=by
 obtain⟨_,hl,h2⟩:=h
 rcases h2 with⟨rfl,hn⟩|⟨g,cap,cur,rfl,hg,hh,h3,h4,h5,h6⟩
 ·refine⟨none,0,0,0,by rw[hn],ae,by unfold maxLen;omega,ae,λ_=>rfl,?_⟩
  grind
 ·refine⟨_,cap,g,0,rfl,h3,h4,λ_=>rfl,(λh=>by cases h),?_⟩
  intro i x hx j y hy
  have hf:=iV k enc hE.len l i x hx j y hy
  rw[<-h6,aaW]at hf
  grind[cell_of_row]
end
theorem Sl.lit {α:Type}{k e:Nat}{enc:α->List Value}{w:World}{b:Nat}{C:Array Value}{fz:Nat×Nat}{l:List α}{n c:Nat}(hE:∀x,(enc x).length=k)
 (h:w.heap[b]?=some (.cells C e fz)) (hl:l.flatMap enc=C.toList) (hn:n=l.length) (hc:n<=c) (hm:c<=maxLen):Sl k enc w (.slice (some ⟨b,0,none⟩) n c) l:=by
 subst hn
 refine⟨_,c,b,0,rfl,hc,hm,λ_=>rfl,(λh=>by cases h),?_⟩
 intro i x hx j y hy
 have hf:=iV k enc hE l i x hx j y hy
 rw[hl]at hf
 rw[cell_of_row w b _ C e fz h];simpa using hf
structure TI (P:Program)(t e k bytes:Nat):Prop where
 und:P.underlying t=some (.slice e)
 info:∃i z,P.info? e=some i/\i.zero=some z/\i.size=k/\i.bytes=bytes/\z.cells.size=k
theorem TI.mk' {P:Program}{e k:Nat}(h:P.underlying t=some (.slice e))
 (hi:(P.info? e).map (λi=>(i.zero.map (λz=>z.cells.size),i.size,i.bytes))=some (some k,k,bytes)):TI P t e k bytes:=by
 refine⟨h,?_⟩
 cases hp:P.info? e with
 | none=>rw[hp]at hi;simp at hi
 | some i=>
  rw[hp]at hi;simp_all
def wq {α:Type}(base e k:Nat)(enc:α->List Value)(w:World)(v:Value)(l:List α):Prop:=w.ownsRow base e k v l.length (l.flatMap enc)
theorem wq.lt {α:Type}{e k:Nat}{enc:α->List Value}{w:World}{v:Value}{l:List α}(h:wq base e k enc w v l):∀q,v.ownBlock=some q->base<=q/\q<w.heap.size:=World.ownsRow.lt h
theorem wq.nil {α:Type}{e k:Nat}{enc:α->List Value}{w:World}:wq base e k enc w (.slice none 0 0) ([]:List α):=World.ownsRow_nil _ _ _ _
theorem wq.alloc {α:Type}{e k:Nat}{enc:α->List Value}{w:World}{v:Value}{l:List α}(h:wq base e k enc w v l)(o:Obj):wq base e k enc (w.alloc o) v l:=World.ownsRow.alloc h o
theorem wq.own {α:Type}{e k:Nat}{enc:α->List Value}{wB w:World}{v:Value}{l:List α}(h:wq wB.heap.size e k enc w v l)(hx:bQ wB w):lG e k enc wB w v l:=⟨hx,h⟩
theorem wq.sl {α:Type}{e k:Nat}{enc:α->List Value}{w:World}{v:Value}{l:List α}(h:wq base e k enc w v l)(hE:Jj k enc):Sl k enc w v l:=by
 obtain⟨hl,h2⟩:=h
 rcases h2 with⟨rfl,hn⟩|⟨g,cap,cur,rfl,hg,hh,h3,h4,h5,h6⟩
 ·refine⟨none,0,0,0,by rw[hn],ae,by unfold maxLen;omega,ae,λ_=>rfl,?_⟩
  grind
 ·refine⟨_,cap,g,0,rfl,h3,h4,λ_=>rfl,(λh=>by cases h),?_⟩
  intro i x hx j y hy
  have hf:=iV k enc hE.len l i x hx j y hy
  rw[<-h6,aaW]at hf
  grind[cell_of_row]
theorem Bn {P:Program}{w:World}{ops:Array Oper}{rest:List Oper}{a:Act}{Q:Exit->Act->World->Prop}
 (hw:Region.wanted o (yielded ops a.tmps)=true) (s x:Operand) (t:TypeId)
 (ho:o.op=.call { callee:=.builtin .append,args:=#[s,x],argTypes:=#[t,t] })
 {α:Type} {e k:Nat} {enc:α->List Value} (hT:TI P t e k bytes) (hE:Jj k enc) (wB:World) (l m:List α) (v xv:Value)
 (hs:a.eval s=v) (hx:a.eval x=xv) (hown:lG e k enc wB w v l) (hsl:Sl k enc w xv m)
 (hlen:l.length+m.length<=maxLen) (hb:(l.length+m.length)*bytes<=140737488355328)
 (h:∀v' w' r,Hid (r=l++m)->lG e k enc wB w' v' r->w.grownBy w' v.ownBlock->(v'=.slice none 0 0↔v=.slice none 0 0/\m.length=0)->wpList P ops Q rest (a.put o.dst v') w') :
 wpList P ops Q (o::rest) a w:=by
 obtain⟨i,z,hi,hz,h1,h2,h3⟩:=hT.info
 obtain⟨ad,c,b,off,rfl,g1,g2,g3,g0,g4⟩:=hsl
 have hgrown:∀(v':Value)(w':World),w.grownBy w' v.ownBlock->bQ wB w':=λv' w' hg=>hown.1.grown hg (λkk hk=>(hown.2.lt kk hk).1)
 cases ad with
 | none=>
  have hm:m=[]:=by grind
  subst hm
  obtain rfl:=g0 rfl
  have hrun:=run_append_owned_none (P:=P) (w:=w) wB.heap.size t o.type e i k hT.und hi v l.length (l.flatMap enc) hown.2
  have hx':a.eval x=.slice none 0 0:=hx
  unfold wpList
  rw[aae hw]
  refine .inl ?_
  unfold Oper.wp
  simp only[execOp,ho,resolve,invoke,builtin,Sem.run_bind,Sem.run_pure,Result.andThen_ok,List.map_toArray,List.map_cons,List.map_nil,hs,hx',hrun]
  exact h v w l (Lib.hid (aan l).symm) hown ⟨rfl,rfl,rfl,aaf _,λ_ _ _=>rfl⟩ aA
 | some ad=>
  unfold wpList
  rw[aae hw]
  refine .inl ?_
  refine wp_append_own w s x t ho wB.heap.size e i z k bytes hT.und hi hz h1 h2 h3 hE.pos v l.length (l.flatMap enc) hs hown.2 ad m.length c (m.flatMap enc) hx
   (j4 k enc hE.len m) ?_ ?_ hlen hb hown.1.size ?_
  ·intro j u hu
   have hj:j<(m.flatMap enc).length:=by
    by_cases h:j<(m.flatMap enc).length
    all_goals grind
   rw[j4 k enc hE.len]at hj
   have hk:=hE.pos
   have hm:0<m.length:=by grind
   have hq:j / k<m.length:=(Nat.div_lt_iff_lt_mul hk).2 hj
   have had:=g3 hm
   simp at had;subst had
   have hr:j % k<(enc m[j / k]).length:=by rw[hE.len];exact abB _ hk
   have h5:=iV k enc hE.len m (j / k) m[j / k] (by simp[hq]) (j % k) _ (aaa hr)
   have hjk:j / k*k+j % k=j:=by rw[Nat.mul_comm];exact Nat.div_add_mod j k
   rw[hjk,hu]at h5
   have h6:=g4 (j / k) m[j / k] (by simp[hq]) (j % k) _ (aaa hr)
   rw[show off+j / k*k+j % k=off+j by omega]at h6
   rw[Addr.add_lit]
   rw[h6];grind
  ·intro u hu
   rw[List.mem_flatMap]at hu
   obtain⟨x,_,hx⟩:=hu
   exact hE.one x u hx
  ·intro v' w' h7 h8 h9
   refine h v' w' _ (Lib.hid rfl) ⟨hgrown v' w' h8,?_⟩ h8 h9
   rw[aai,List.flatMap_append];exact h7
theorem fC {P:Program}{w:World}{ops:Array Oper}{rest:List Oper}{a:Act}{Q:Exit->Act->World->Prop}
 (hgd:o.guard=none) (s x:Operand) (t:TypeId)
 (ho:o.op=.call { callee:=.builtin .append,args:=#[s,x],argTypes:=#[t,t] })
 {α:Type} {e k:Nat} {enc:α->List Value} (hT:TI P t e k bytes) (hE:Jj k enc) (wB:World) (l m:List α) (v xv:Value)
 (hs:a.eval s=v) (hx:a.eval x=xv) (hown:lG e k enc wB w v l) (hsl:Sl k enc w xv m)
 (hlen:l.length+m.length<=maxLen) (hb:(l.length+m.length)*bytes<=140737488355328)
 (h:∀v' w' r,Hid (r=l++m)->lG e k enc wB w' v' r->w.grownBy w' v.ownBlock->(v'=.slice none 0 0↔v=.slice none 0 0/\m.length=0)->wpList P ops Q rest (a.put o.dst v') w') :
 wpList P ops Q (o::rest) a w:=
 Bn (by simp[Region.wanted,hgd]) s x t ho hT hE wB l m v xv hs hx hown hsl hlen hb h
theorem Sl.new1 {α:Type}{k:Nat}{enc:α->List Value}(hE:∀x,(enc x).length=k)(w:World)(C:Array Value)(e:TypeId)(x:α)(h:enc x=C.toList) :
 Sl k enc (w.alloc (.cells C e)) (.slice (some ⟨w.heap.size,0,none⟩) 1 1) [x]:=
 Sl.lit hE (heap_alloc_new w _) (by simp[h]) rfl bP bP
theorem Sl.nil {α:Type}{k:Nat}{enc:α->List Value}(w:World):Sl k enc w (.slice none 0 0) ([]:List α):=
 ⟨none,0,0,0,rfl,aA,bP,aA,λ_=>rfl,λi x hx=>by simp at hx⟩
theorem lG.empty {α:Type}{e k:Nat}{enc:α->List Value}{wB w:World}(h:bQ wB w):lG e k enc wB (w.alloc (.cells #[] e)) (.slice (some ⟨w.heap.size,0,none⟩) 0 0) ([]:List α):=
 ⟨h.alloc _,aA,.inr ⟨w.heap.size,0,#[],rfl,h.size,heap_alloc_new w _,aA,bP,aA,aA⟩⟩
def encS (s:ByteArray):List Value:=[.string s]
theorem rG:Jj 1 encS:=⟨bP,λ_=>rfl,λx u hu=>by simp[encS]at hu;subst hu;rfl⟩
theorem Bo (s:ByteArray):Lib.strCells s=s.data.toList.flatMap encB:=by
 rw[Lib.strCells,List.flatMap_def]
 induction s.data.toList<;>grind[encB]
theorem C4 {P:Program}{w:World}{ops:Array Oper}{rest:List Oper}{a:Act}{Q:Exit->Act->World->Prop}
 (hgd:o.guard=none) (sl x:Operand) (t u:TypeId)
 (ho:o.op=.call { callee:=.builtin .append,args:=#[sl,x],argTypes:=#[t,u] })
 {e:Nat} (hT:TI P t e 1 1) (hz:(P.info? e).bind (·.zero)=some (.int .u8 0)) (hu:P.underlying u=some .string) (wB:World) (l:List UInt8) (s:ByteArray) (v:Value)
 (hs:a.eval sl=v) (hx:a.eval x=.string s) (hown:lG e 1 encB wB w v l)
 (hlen:l.length+s.size<=140737488355328)
 (h:∀v' w' r,Hid (r=l++s.data.toList)->lG e 1 encB wB w' v' r->w.grownBy w' v.ownBlock->wpList P ops Q rest (a.put o.dst v') w') :
 wpList P ops Q (o::rest) a w:=by
 obtain⟨i,z,hi,hz',h1,h2,h3⟩:=hT.info
 rw[hi]at hz
 refine Lib.wpList_append_own_string w hgd sl x t u ho wB.heap.size e i hT.und hu hi hz h1 h2 v l.length (l.flatMap encB) hs hown.2 s hx (by unfold maxLen;omega) hlen hown.1.size ?_
 intro v' w' h7 h8 h9
 refine h v' w' _ (Lib.hid rfl) ⟨hown.1.grown h8 (λkk hk=>(hown.2.lt kk hk).1),?_⟩ h8
 rw[aai,List.flatMap_append,<-Bo]
 exact h7
def jI {α:Type}(e k:Nat)(enc:α->List Value)(wB:World)(l:List α)(en:Ending)(w':World):Prop:=∃v',en=.returned v'/\lG e k enc wB w' v' l
theorem Sl.openI {w:World}{v:Value}{l:List Int}(h:Sl 1 encI w v l) :
 ∃a c b o,v=.slice a l.length c/\l.length<=c/\c<=maxLen/\(0<l.length->a=some ⟨b,o,none⟩) /\
  ∀(i:Nat)(h:i<l.length),w.cell? ⟨b,o+i,none⟩=some (.int .i64 l[i]):=by
 obtain⟨a,c,b,o,hv,h1,h2,h3,h0,h4⟩:=h
 refine⟨a,c,b,o,hv,h1,h2,h3,λi hi=>?_⟩
 have:=h4 i l[i] (by simp[hi]) 0 _ rfl
 simpa using this
theorem Sl.openS {w:World}{v:Value}{l:List ByteArray}(h:Sl 1 encS w v l) :
 ∃a c b o,v=.slice a l.length c/\l.length<=c/\c<=maxLen/\(0<l.length->a=some ⟨b,o,none⟩) /\
  ∀(i:Nat)(h:i<l.length),w.cell? ⟨b,o+i,none⟩=some (.string l[i]):=by
 obtain⟨a,c,b,o,hv,h1,h2,h3,h0,h4⟩:=h
 refine⟨a,c,b,o,hv,h1,h2,h3,λi hi=>?_⟩
 have:=h4 i l[i] (by simp[hi]) 0 _ rfl
 simpa using this
def Jk {α:Type}(e k:Nat)(enc:α->List Value)(wB:World)(l:List α)(x:Value)(en:Ending)(w':World):Prop:=∃v',en=.returned (.tuple #[v',x])/\lG e k enc wB w' v' l
theorem lG.lit {α:Type}{e k:Nat}{enc:α->List Value}(hE:∀x,(enc x).length=k){wB w:World}(h:bQ wB w)(C:Array Value)(l:List α)(hl:l.flatMap enc=C.toList)(n:Nat)(hn:n=l.length)(hm:n<=maxLen) :
 lG e k enc wB (w.alloc (.cells C e)) (.slice (some ⟨w.heap.size,0,none⟩) n n) l:=by
 subst hn
 have hlen:=j4 k enc hE l
 refine⟨h.alloc _,hlen,.inr ⟨w.heap.size,l.length,C,rfl,h.size,heap_alloc_new w _,aaf _,hm,?_,?_⟩⟩
 all_goals grind
theorem Nm (s:ByteArray)(k:Nat)(h:k<s.size):s.data.toList.take (k+1)=s.data.toList.take k++[s[k]]:=by rw[List.take_succ_eq_append_getElem (by simpa using h)];rfl
theorem Ti (s:ByteArray)(k:Nat)(h:s.size<=k):s.data.toList.take k=s.data.toList:=by rw[aaj];simpa using h
theorem nf (s:ByteArray):s.data.toList.length=s.size:=aA
theorem jJ (s:ByteArray):s.toList=s.data.toList:=ByteArray.toList_eq s
theorem zA (s:ByteArray):s.toList.isEmpty=decide (s.size=0):=by rw[jJ,aav,List.isEmpty_iff_length_eq_zero];simp
section
variable {P:Program} {T e k:Nat} {α:Type} {enc:α->List Value} {w:World} {v:Value} {l:List α}
theorem Sl.cut0 (h:Sl k enc w v l)(lo hi:Nat)(h1:lo<=hi)(h2:hi<=l.length) :
 ∃a c,v=.slice a l.length c/\hi<=c/\Sl k enc w (.slice (if c=lo then a else a.map (·.add (lo*k))) (hi-lo) (c-lo)) ((l.drop lo).take (hi-lo)):=by
 obtain⟨a,c,b,o,rfl,g1,g2,g3,g0,g4⟩:=h
 refine⟨a,c,rfl,ae,?_⟩
 have hlen:((l.drop lo).take (hi-lo)).length=hi-lo:=bD
 by_cases hz:hi=lo
 ·subst hz
  refine⟨_,c-hi,0,0,by rw[hlen],ae,ae,by rw[hlen];omega,?_,?_⟩
  ·intro hn
   by_cases hc:c=hi
   all_goals simp_all
  grind
 ·have ha:=g3 ae
  have hc:¬c=lo:=ae
  refine⟨_,c-lo,b,o+lo*k,by rw[hlen],ae,ae,λ_=>?_,?_,?_⟩
  all_goals grind[Addr.add_lit]
theorem Sl.cut (h:Sl k enc w v l)(lo hi:Nat)(h1:lo<=hi)(h2:hi<=l.length) :
 ∃a c,v=.slice a l.length c/\hi<=c/\∃a',a'=(if c=lo then a else a.map (·.add (lo*k)))/\∀w0,Sl k enc w0 v l->Sl k enc w0 (.slice a' (hi-lo) (c-lo)) ((l.drop lo).take (hi-lo)):=by
 obtain⟨a,c,rfl,h3,h4⟩:=h.cut0 lo hi h1 h2
 refine⟨a,c,rfl,h3,_,rfl,λw0 h0=>?_⟩
 obtain⟨a',c',he,_,h5⟩:=h0.cut0 lo hi h1 h2
 grind
theorem Sl.from (hT:TI P T e k bytes)(h:Sl k enc w v l)(lo:Nat)(h1:lo<=l.length)(kk:IntKind) :
 ∃a' c',(∀w',(Instr.slice T v (some (.int kk (lo:Int))) none none).run P w'=.ok (.slice a' (l.length-lo) c') w')/\Sl k enc w (.slice a' (l.length-lo) c') (l.drop lo)/\∀w0,Sl k enc w0 v l->Sl k enc w0 (.slice a' (l.length-lo) c') (l.drop lo):=by
 have h00:=h
 obtain⟨a,c,rfl,h3,a',ha',hs⟩:=h.cut lo l.length h1 (aaf _)
 rw[aaj aA]at hs
 refine⟨a',c-lo,λw'=>?_,hs _ h00,hs⟩
 ·obtain⟨ti,z,hti,hz,hk0,_,_⟩:=hT.info
  have hk:P.cellsOf e=k:=by grind[Program.cellsOf]
  have ht:=hT.und
  grind[Program.elem,run_slice_l,run_sizeOf,sliced,Result.andThen]
theorem Sl.to (hT:TI P T e k bytes)(h:Sl k enc w v l)(hi:Nat)(h1:hi<=l.length)(kk:IntKind) :
 ∃a' c',(∀w',(Instr.slice T v none (some (.int kk (hi:Int))) none).run P w'=.ok (.slice a' hi c') w')/\Sl k enc w (.slice a' hi c') (l.take hi)/\∀w0,Sl k enc w0 v l->Sl k enc w0 (.slice a' hi c') (l.take hi):=by
 have h00:=h
 obtain⟨a,c,rfl,h3,a',ha',hs⟩:=h.cut 0 hi (aag _) h1
 simp only[abu,Nat.sub_zero]at hs
 refine⟨a',c,λw'=>?_,hs _ h00,hs⟩
 ·obtain⟨ti,z,hti,hz,hk0,_,_⟩:=hT.info
  have hk:P.cellsOf e=k:=by grind[Program.cellsOf]
  have ht:=hT.und
  grind[Program.elem,run_slice_h,run_sizeOf,sliced,Result.andThen]
theorem Sl.mid (hT:TI P T e k bytes)(h:Sl k enc w v l)(lo hi:Nat)(h0:lo<=hi)(h1:hi<=l.length)(kk kk':IntKind) :
 ∃a' c',(∀w',(Instr.slice T v (some (.int kk (lo:Int))) (some (.int kk' (hi:Int))) none).run P w'=.ok (.slice a' (hi-lo) c') w')/\Sl k enc w (.slice a' (hi-lo) c') ((l.drop lo).take (hi-lo))/\∀w0,Sl k enc w0 v l->Sl k enc w0 (.slice a' (hi-lo) c') ((l.drop lo).take (hi-lo)):=by
 have h00:=h
 obtain⟨a,c,rfl,h3,a',ha',hs⟩:=h.cut lo hi h0 h1
 refine⟨a',c-lo,λw'=>?_,hs _ h00,hs⟩
 obtain⟨ti,z,hti,hz,hk0,_,_⟩:=hT.info
 have hk:P.cellsOf e=k:=by grind[Program.cellsOf]
 have ht:=hT.und
 grind[Program.elem,run_slice_lh,run_sizeOf,sliced,Result.andThen]
def ij (w:World)(B:Nat)(T:TypeId)(vs:Array Value):Prop:=w.heap[B]?=some (.cells vs T (0,0))
theorem ij.cell (h:ij w B T vs)(j:Nat):w.cell? ⟨B,j,none⟩=vs[j]?:=cell_of_row w B j _ _ _ h
theorem ij.frozen (h:ij w B T vs)(j:Nat):w.frozen? ⟨B,j,none⟩=false:=by unfold World.frozen?;rw[h];simp
theorem ij.lt (h:ij w B T vs):B<w.heap.size:=(Array.getElem?_eq_some_iff.1 h).1
theorem ij.ext {w':World}(h:ij w B T vs)(he:bQ w w'):ij w' B T vs:=by unfold ij;rw[Below.block he B h.lt];exact h
theorem ij.grown {w':World}(h:ij w B T vs)(hg:w.grownBy w' row)(hr:some B≠row):ij w' B T vs:=by unfold ij;rw[hg.block B h.lt hr];exact h
theorem ij.set (h:ij w B T vs)(j:Nat)(x:Value):ij (w.setCell ⟨B,j,none⟩ x) B T (vs.setIfInBounds j x):=by grind[ij,World.setCell]
theorem C5 (h:bQ a b):a.grownBy b row:=⟨h.os,h.tape,h.output,h.size,λk hk _=>h.block k hk⟩
theorem Sl.grown {w':World}(h:Sl k enc w v l)(hg:w.grownBy w' (some B))(hB:∀b o y,w.cell? ⟨b,o,none⟩=some y->(∃x,y∈enc x)->b≠B):Sl k enc w' v l:=by
 obtain⟨a,c,b,o,hv,g1,g2,g3,g0,g4⟩:=h
 refine⟨a,c,b,o,hv,g1,g2,g3,g0,λi x hx j y hy=>?_⟩
 have hc:=g4 i x hx j y hy
 exact hg.cell hc (by grind)
theorem ij.noB (h:ij w B T vs)(hv:∀y∈vs,∀n,y≠.int .u8 n):∀b o y,w.cell? ⟨b,o,none⟩=some y->(∃x,y∈encB x)->b≠B:=by
 rintro b o y hc ⟨x,hx⟩ rfl
 rw[h.cell]at hc
 grind[encB]
end
theorem Gp (l:List UInt8):∀s:ByteArray,(l.map (λc=>(c.toNat:Int))).foldl (λr n=>r.push (UInt8.ofNat n.toNat)) s=⟨s.data++l.toArray⟩:=by
 induction l with
 | nil=>intro s;simp
 | cons c l ih=>
  simp_all
theorem Bs.toStr {P:Program}{src dst e:TypeId}(hs:P.underlying src=some (.slice e))(he:P.underlying e=some (.int .u8))(hd:P.underlying dst=some .string)
 {w:World} {v:Value} {l:List UInt8} (h:Bs w v l):(convert src dst v).run P w=.ok (.string ⟨l.toArray⟩) w:=by
 obtain⟨a,c,b,o,rfl,h1,h2,h3,h0,h4⟩:=h
 rw[run_convert_bytes_string w src dst e a l.length c hs he hd]
 cases a with
 | none=>
  have:l=[]:=by grind
  subst this
  simp[Conv.bytesToString,Sem.run_pure];rfl
 | some ad=>
  have hf:=run_firstCells_some (P:=P) w 1 l.length ad l.length c (l.flatMap encB) (by rw[j4 1 encB cb.len]) (by
   intro j u hu
   obtain⟨x,hx,hy⟩:=zc 1 encB cb.len bP l j u hu
   rw[Nat.div_one]at hx
   rw[Nat.mod_one]at hy
   grind[Addr.add_lit])
  have hl:l.flatMap encB=(l.map (λc=>(c.toNat:Int))).map (Value.int .u8):=by
   clear hf h4 h3 h2 h1
   induction l<;>grind[encB]
  rw[hl]at hf
  simp only[Builtin.firstCells,abF]at hf
  rw[run_bytesToString w ad l.length c _ hf,Gp]
  congr 2
  simp
structure Te (B C:Nat)(w w':World):Prop where
 os:w'.os=w.os
 tape:w'.tape=w.tape
 output:w'.output=w.output
 size:w.heap.size<=w'.heap.size
 block:∀k,k<w.heap.size->k≠B->k≠C->w'.heap[k]?=w.heap[k]?
theorem Te.refl (B C:Nat)(w:World):Te B C w w:=⟨rfl,rfl,rfl,aaf _,λ_ _ _ _=>rfl⟩
theorem Te.grown {C:Nat}{c:World}(h:Te B C a b)(h':b.grownBy c row)(hr:∀k,row=some k->k=B\/k=C\/a.heap.size<=k):Te B C a c:=
 ⟨h'.os.trans h.os,h'.tape.trans h.tape,h'.output.trans h.output,abk h.size h'.size,λk hk h1 h2=>
  (h'.block k (aa4 hk h.size) (λe=>by grind)).trans (h.block k hk h1 h2)⟩
theorem Te.ext {C:Nat}{c:World}(h:Te B C a b)(h':bQ b c):Te B C a c:=h.grown (row:=none) (C5 h') aA
theorem Te.bs {C:Nat}{v:Value}{l:List UInt8}{TB TC:TypeId}{xs ys:Array Value}(h:Te B C a b)(hs:Bs a v l)(hB:ij a B TB xs)(hC:ij a C TC ys)
 (nB:∀y∈xs,∀n,y≠.int .u8 n) (nC:∀y∈ys,∀n,y≠.int .u8 n):Bs b v l:=by
 obtain⟨aa,c,bb,o,hv,g1,g2,g3,g0,g4⟩:=hs
 refine⟨aa,c,bb,o,hv,g1,g2,g3,g0,λi x hx j y hy=>?_⟩
 have hc:=g4 i x hx j y hy
 have hlt:=World.block_lt_of_cell? a _ hc
 rw[World.cell?_of_block (w:=a) (h.block bb hlt (hB.noB nB _ _ _ hc ⟨x,aa3 hy⟩) (hC.noB nC _ _ _ hc ⟨x,aa3 hy⟩))]
 exact hc
abbrev BP:=Nat->Prop
structure PV where
 p:BP->World->Value->Prop
 mono:∀{N N':BP} {w w':World} {v:Value},w.heap.size<=w'.heap.size->(∀b,b<w.heap.size->¬N b->w'.heap[b]?=w.heap[b]?) ->
  (∀b,b<w.heap.size->N' b->N b)->p N w v->p N' w' v
def ai (v:Value):PV:=⟨λ_ _ u=>u=v,λ_ _ _ h=>h⟩
def eW (top N:BP)(k:Nat)(es:List (List PV))(w:World)(u:Value):Prop:=
 ∃a c b o,u=.slice a es.length c/\es.length<=c/\c<=maxLen/\(a=none->c=0)/\(0<es.length->a=some ⟨b,o,none⟩/\b<w.heap.size/\¬top b) /\
  ∀(i:Nat)(cs:List PV),es[i]?=some cs->cs.length=k/\∀(j:Nat)(A:PV),cs[j]?=some A ->
   ∃y,w.cell? ⟨b,o+i*k+j,none⟩=some y/\y.oneCell'=true/\A.p N w y
theorem tF {w w':World}{b o:Nat}(h:w'.heap[b]?=w.heap[b]?):w'.cell? ⟨b,o,none⟩=w.cell? ⟨b,o,none⟩:=by simp[World.cell?,h]
theorem eW.mono {top top' N N':BP}{k:Nat}{es:List (List PV)}{w w':World}{u:Value}(hs:w.heap.size<=w'.heap.size)
 (ht:∀b,b<w.heap.size->¬top b->w'.heap[b]?=w.heap[b]?) (hn:∀b,b<w.heap.size->¬N b->w'.heap[b]?=w.heap[b]?)
 (htt:∀b,b<w.heap.size->top' b->top b) (hnn:∀b,b<w.heap.size->N' b->N b) (h:eW top N k es w u):eW top' N' k es w' u:=by
 obtain⟨a,c,b,o,h1,h2,h3,h4,h5,h6⟩:=h
 refine⟨a,c,b,o,h1,h2,h3,h4,λh0=>?_,λi cs hi=>?_⟩
 ·grind
 ·obtain⟨g1,g2⟩:=h6 i cs hi
  refine⟨g1,λj A hj=>?_⟩
  obtain⟨y,hy,h1y,hp⟩:=g2 j A hj
  have h0:0<es.length:=by grind
  obtain⟨_,q2,q3⟩:=h5 h0
  exact⟨y,by rw[tF (ht b q2 q3)];exact hy,h1y,A.mono hs hn hnn hp⟩
def cn (k:Nat)(es:List (List PV)):PV:=⟨λN w u=>eW N N k es w u,λh1 h2 h3 h=>eW.mono h1 h2 h2 h3 h3 h⟩
def iq (N:BP)(w:World)(vs:Array Value)(cs:List PV):Prop:=
 vs.size=cs.length/\∀(j:Nat)(A:PV),cs[j]?=some A->∃y,vs[j]?=some y/\y.oneCell'=true/\A.p N w y
theorem iq.mono {N N':BP}{w w':World}{cs:List PV}(h1:w.heap.size<=w'.heap.size)(h2:∀b,b<w.heap.size->¬N b->w'.heap[b]?=w.heap[b]?)
 (h3:∀b,b<w.heap.size->N' b->N b) (h:iq N w vs cs):iq N' w' vs cs:=
 ⟨h.1,λj A hj=>let⟨y,g1,g2,g3⟩:=h.2 j A hj;⟨y,g1,g2,A.mono h1 h2 h3 g3⟩⟩
def cu (cs:List PV):PV:=⟨λN w u=>∃vs:Array Value,u=.agg vs/\iq N w vs cs,
 λh1 h2 h3 ⟨vs,h,h'⟩=>⟨vs,h,h'.mono h1 h2 h3⟩⟩
def em (cs:List PV):PV:=⟨λN w u=>∃b o,u=.pointer (some ⟨b,o,none⟩)/\b<w.heap.size/\¬N b /\
 ∀(j:Nat)(A:PV),cs[j]?=some A->∃y,w.cell? ⟨b,o+j,none⟩=some y/\y.oneCell'=true/\A.p N w y,
 λh1 h2 h3 ⟨b,o,e,hb,hn,h⟩=>⟨b,o,e,ae,λx=>hn (h3 b hb x),λj A hj=>let⟨y,g1,g2,g3⟩:=h j A hj;⟨y,by rw[tF (h2 b hb hn)];exact g1,g2,A.mono h1 h2 h3 g3⟩⟩⟩
inductive Cnt where
 | any
 | per (A:PV)
 | bor (k:Nat) (es:List (List PV))
 | bpt (cs:List PV)
 | row (id vr:Nat)
 | ptr (id vr off:Nat)
 | ept (id vr k i j:Nat)
 | vw (id vr k lo len:Nat)
 | grd (g:Bool) (c:Cnt)
 | tup2 (c d:Cnt)
 | tup3 (c d e:Cnt)
 | clo1 (f:FuncId) (c:Cnt)
 | clo2 (f:FuncId) (c d:Cnt)
 | clo3 (f:FuncId) (c d e:Cnt)
 | aggN
 | aggK (c r:Cnt)
abbrev iC (k:IntKind)(n:Int):Cnt:=.per (ai (.int k n))
abbrev bC (b:Bool):Cnt:=.per (ai (.bool b))
abbrev sC (s:ByteArray):Cnt:=.per (ai (.string s))
structure OV where
 p:BP->BP->World->Value->Prop
 mono:∀{F F' N N':BP} {w w':World} {v:Value},(∀b,F b->F' b)->(∀b,F b->b<w.heap.size)->w.heap.size<=w'.heap.size->(∀b,b<w.heap.size->F b->w'.heap[b]?=w.heap[b]?) ->
  (∀b,b<w.heap.size->¬N b->w'.heap[b]?=w.heap[b]?)->(∀b,b<w.heap.size->N' b->N b)->p F N w v->p F' N' w' v
 one:∀{F N:BP} {w:World} {v:Value},p F N w v->v.oneCell'=true/\v.cells=#[v]
inductive Blk where
 | none
 | box (e:TypeId) (cells:List Cnt)
 | row (e k:Nat) (es:List (List PV))
 | mix (e:Nat) (es:List PV) (c:Cnt)
 | obj (A:OV)
structure St where
 get:Nat->Cnt
 blk:Nat->Blk
 ver:Nat->Nat
structure Gh where
 ow:Nat->Option Nat
 ph:Nat->Nat
 rh:Nat->Value
structure Ctx where
 W0:World
 N0:BP
 L:BP
 G0:Gh
def eL (i:Nat):Bool:=Nat.ble 1000 i&&Nat.blt i 2000
theorem Nn {i:Nat}(h:i<1000):eL i=false:=by
 unfold eL
 rw[Bool.and_eq_false_iff]
 refine .inl ?_
 cases hb:Nat.ble 1000 i
 ·rfl
 ·have:=aaq hb;omega
def Gh.M (g:Gh):BP:=λb=>g.ow b≠none
def Gh.N (g:Gh)(C:Ctx):BP:=λb=>C.N0 b\/g.ow b≠none
def crep (C:Ctx)(vr:Nat->Nat)(g:Gh)(w:World)(v:Value):Cnt->Prop
 | .any=>True
 | .per A=>A.p (g.N C) w v
 | .bor k es=>eW g.M (g.N C) k es w v
 | .bpt cs=>∃b o,v=.pointer (some ⟨b,o,none⟩)/\b<w.heap.size/\¬g.M b/\∀(j:Nat)(A:PV),cs[j]?=some A->∃y,w.cell? ⟨b,o+j,none⟩=some y/\y.oneCell'=true/\A.p (g.N C) w y
 | .row id r=>r<=vr id/\(r=vr id->v=g.rh id)
 | .ptr id r off=>r<=vr id/\(r=vr id->v=.pointer (some ⟨g.ph id,off,none⟩))
 | .ept id r k i j=>r<=vr id/\(r=vr id->v=.pointer (some ⟨g.ph id,i*k+j,none⟩))
 | .vw id r k lo len=>r<=vr id/\(r=vr id->∃c,v=.slice (some ⟨g.ph id,lo*k,none⟩) len c/\len<=c)
 | .grd b c=>b=true->crep C vr g w v c
 | .tup2 c d=>∃x y,v=.tuple #[x,y]/\crep C vr g w x c/\crep C vr g w y d
 | .tup3 c d e=>∃x y z,v=.tuple #[x,y,z]/\crep C vr g w x c/\crep C vr g w y d/\crep C vr g w z e
 | .aggN=>v=.agg #[]
 | .aggK c r=>∃(x:Value)(vs:List Value),v=.agg (x::vs).toArray/\x.oneCell'=true/\crep C vr g w x c/\crep C vr g w (.agg vs.toArray) r
 | .clo1 f c=>∃x,v=.func (.func f) #[] #[x]/\crep C vr g w x c
 | .clo2 f c d=>∃x y,v=.func (.func f) #[] #[x,y]/\crep C vr g w x c/\crep C vr g w y d
 | .clo3 f c d e=>∃x y z,v=.func (.func f) #[] #[x,y,z]/\crep C vr g w x c/\crep C vr g w y d/\crep C vr g w z e
def brep (C:Ctx)(vr:Nat->Nat)(g:Gh)(w:World)(id:Nat):Blk->Prop
 | .none=>True
 | .box e cells=>∃cs:Array Value,w.heap[g.ph id]?=some (.cells cs e (0,0))/\g.ow (g.ph id)=some id/\cs.size=cells.length /\
  ∀(j:Nat)(c:Cnt),cells[j]?=some c->∃y,cs[j]?=some y/\y.oneCell'=true/\crep C vr g w y c
 | .row e k es=>(g.rh id=.slice none 0 0/\es=[])\/∃(cap:Nat)(cs:Array Value),g.rh id=.slice (some ⟨g.ph id,0,none⟩) es.length cap /\
  w.heap[g.ph id]?=some (.cells cs e (0,0))/\g.ow (g.ph id)=some id/\es.length<=cap/\cap<=maxLen/\cs.size=cap*k /\
  ∀(i:Nat)(ps:List PV),es[i]?=some ps->ps.length=k/\∀(j:Nat)(A:PV),ps[j]?=some A->∃y,cs[i*k+j]?=some y/\y.oneCell'=true/\A.p (g.N C) w y
 | .mix e es c=>∃(cap:Nat)(cs:Array Value),g.rh id=.slice (some ⟨g.ph id,0,none⟩) (es.length+1) cap /\
  w.heap[g.ph id]?=some (.cells cs e (0,0))/\g.ow (g.ph id)=some id/\es.length+1<=cap/\cap<=maxLen/\cs.size=cap /\
  (∀(i:Nat)(A:PV),es[i]?=some A->∃y,cs[i]?=some y/\y.oneCell'=true/\A.p (g.N C) w y)/\∃y,cs[es.length]?=some y/\y.oneCell'=true/\crep C vr g w y c
 | .obj A=>A.p (λb=>g.ow b=some id) (g.N C) w (g.rh id)
structure RG (C:Ctx)(n:Nat)(S:St)(g:Gh)(a:Act)(w:World):Prop where
 defers:a.defers=[]
 tsz:a.tmps.size=n
 nle:n<=1000
 keep:∀id,eL id=true->g.ph id=C.G0.ph id/\g.rh id=C.G0.rh id
 os:w.os=C.W0.os
 tape:w.tape=C.W0.tape
 output:w.output=C.W0.output
 size:C.W0.heap.size<=w.heap.size
 old:∀b,b<C.W0.heap.size->¬C.L b->w.heap[b]?=C.W0.heap[b]?
 n0:∀b,C.N0 b->b<C.W0.heap.size
 n0l:∀b,C.N0 b->¬C.L b
 dom:∀b id,g.ow b=some id->b<w.heap.size/\(C.W0.heap.size<=b\/C.L b)
 slots:∀t,crep C S.ver g w (a.tmps.getD t undef) (S.get t)
 blks:∀id,brep C S.ver g w id (S.blk id)
def R (C:Ctx)(n:Nat)(S:St)(a:Act)(w:World):Prop:=∃g,RG C n S g a w
structure oi (C:Ctx)(I:Nat->Prop)(vr vr':Nat->Nat)(g g':Gh)(w w':World):Prop where
 sz:w.heap.size<=w'.heap.size
 heap:∀b,b<w.heap.size->(∀i,I i->g.ow b≠some i)->w'.heap[b]?=w.heap[b]?
 ow:∀b,b<w.heap.size->(∀i,I i->g.ow b≠some i)->g'.ow b=g.ow b
 ow':∀b,b<w.heap.size->g'.ow b≠none->g.ow b≠none
 dom:∀b id,g'.ow b=some id->b<w'.heap.size/\(C.W0.heap.size<=b\/C.L b)
 ver:∀id,vr' id=vr id\/(I id/\vr id<vr' id)
 gh:∀id,vr' id=vr id->g'.ph id=g.ph id/\g'.rh id=g.rh id
 fix:∀id,eL id=true->g'.ph id=g.ph id/\g'.rh id=g.rh id
 os:w'.os=w.os
 tape:w'.tape=w.tape
 output:w'.output=w.output
section
variable {C:Ctx} {I:Nat->Prop} {vr vr':Nat->Nat} {g g':Gh} {w w':World}
theorem oi.n (h:oi C I vr vr' g g' w w'):∀b,b<w.heap.size->g'.N C b->g.N C b:=λb hb hn=>by
 rcases hn with hn|hn
 ·exact .inl hn
 ·exact .inr (h.ow' b hb hn)
theorem oi.keep (h:oi C I vr vr' g g' w w'):∀b,b<w.heap.size->¬g.M b->w'.heap[b]?=w.heap[b]?:=λb hb hn=>
 h.heap b hb (λi _ e=>hn (by grind[Gh.M]))
theorem oi.keepN (h:oi C I vr vr' g g' w w'):∀b,b<w.heap.size->¬g.N C b->w'.heap[b]?=w.heap[b]?:=λb hb hn=>
 h.keep b hb (λe=>hn (.inr e))
theorem oi.crep (h:oi C I vr vr' g g' w w'):∀{c:Cnt} {v:Value},crep C vr g w v c->crep C vr' g' w' v c:=by
 intro c
 induction c with
 | any=>intro v _;trivial
 | per A=>intro v hc;exact A.mono h.sz h.keepN h.n hc
 | bor k es=>intro v hc;exact eW.mono h.sz h.keep h.keepN h.ow' h.n hc
 | bpt cs=>
  rintro v ⟨b,o,e,hb,hn,hc⟩
  refine⟨b,o,e,by have:=h.sz;omega,λx=>hn (h.ow' b hb x),λj A hj=>?_⟩
  obtain⟨y,g1,g2,g3⟩:=hc j A hj
  exact⟨y,by rw[tF (h.keep b hb hn)];exact g1,g2,A.mono h.sz h.keepN h.n g3⟩
 | row id r=>
  rintro v ⟨h1,h2⟩
  rcases h.ver id with e|⟨_,e⟩
  ·exact⟨ae,λe'=>by rw[(h.gh id e).2];exact h2 ae⟩
  ·exact⟨ae,λe'=>ae⟩
 | ptr id r off=>
  rintro v ⟨h1,h2⟩
  rcases h.ver id with e|⟨_,e⟩
  ·exact⟨ae,λe'=>by rw[(h.gh id e).1];exact h2 ae⟩
  ·exact⟨ae,λe'=>ae⟩
 | ept id r k i j=>
  rintro v ⟨h1,h2⟩
  rcases h.ver id with e|⟨_,e⟩
  ·exact⟨ae,λe'=>by rw[(h.gh id e).1];exact h2 ae⟩
  ·exact⟨ae,λe'=>ae⟩
 | vw id r k lo len=>
  rintro v ⟨h1,h2⟩
  rcases h.ver id with e|⟨_,e⟩
  ·exact⟨ae,λe'=>by rw[(h.gh id e).1];exact h2 ae⟩
  ·exact⟨ae,λe'=>ae⟩
 | grd b c ih=>intro v hc hb;exact ih (hc hb)
 | tup2 c d ih1 ih2=>rintro v ⟨x,y,e,h1,h2⟩;exact⟨x,y,e,ih1 h1,ih2 h2⟩
 | tup3 c d e ih1 ih2 ih3=>rintro v ⟨x,y,z,e,h1,h2,h3⟩;exact⟨x,y,z,e,ih1 h1,ih2 h2,ih3 h3⟩
 | clo1 f c ih=>rintro v ⟨x,e,h1⟩;exact⟨x,e,ih h1⟩
 | clo2 f c d ih1 ih2=>rintro v ⟨x,y,e,h1,h2⟩;exact⟨x,y,e,ih1 h1,ih2 h2⟩
 | clo3 f c d e ih1 ih2 ih3=>rintro v ⟨x,y,z,e,h1,h2,h3⟩;exact⟨x,y,z,e,ih1 h1,ih2 h2,ih3 h3⟩
 | aggN=>exact λh=>h
 | aggK c r ih1 ih2=>rintro v ⟨x,vs,e,o,h1,h2⟩;exact⟨x,vs,e,o,ih1 h1,ih2 h2⟩
theorem oi.cong {I':Nat->Prop}(h:oi C I vr vr' g g' w w')(hi:∀i,I i->I' i):oi C I' vr vr' g g' w w':=
 ⟨h.sz,λb hb hn=>h.heap b hb (λi hI=>hn i (hi i hI)),λb hb hn=>h.ow b hb (λi hI=>hn i (hi i hI)),h.ow',h.dom,λid=>(h.ver id).imp (λq=>q) (λq=>⟨hi _ q.1,q.2⟩),h.gh,h.fix,h.os,h.tape,h.output⟩
theorem oi.brep (h:oi C I vr vr' g g' w w')(hdom:∀b id,g.ow b=some id->b<w.heap.size)(hid:¬I id):∀{B:Blk},brep C vr g w id B->brep C vr' g' w' id B:=by
 have hv:vr' id=vr id:=by
  rcases h.ver id with e|⟨e,_⟩
  all_goals grind
 obtain⟨hph,hrh⟩:=h.gh id hv
 have hne:∀{b:Nat},g.ow b=some id->∀i,I i->g.ow b≠some i:=λe i hi e'=>by rw[e]at e';cases e';exact hid hi
 intro B
 cases B with
 | none=>intro _;trivial
 | box e cells=>
  rintro⟨cs,h1,h2,h3,h4⟩
  have hb:=hdom _ _ h2
  refine⟨cs,by rw[hph,h.heap _ hb (hne h2)];exact h1,by rw[hph,h.ow _ hb (hne h2)];exact h2,h3,λj c hj=>?_⟩
  obtain⟨y,g1,g2,g3⟩:=h4 j c hj
  exact⟨y,g1,g2,h.crep g3⟩
 | row e k es=>
  rintro(⟨h1,h2⟩|⟨cap,cs,h1,h2,h3,h4,h5,h6,h7⟩)
  ·exact .inl ⟨by rw[hrh];exact h1,h2⟩
  ·have hb:=hdom _ _ h3
   refine .inr ⟨cap,cs,by rw[hrh,hph];exact h1,by rw[hph,h.heap _ hb (hne h3)];exact h2,by rw[hph,h.ow _ hb (hne h3)];exact h3,h4,h5,h6,λi ps hi=>?_⟩
   obtain⟨g1,g2⟩:=h7 i ps hi
   refine⟨g1,λj A hj=>?_⟩
   obtain⟨y,q1,q2,q3⟩:=g2 j A hj
   exact⟨y,q1,q2,A.mono h.sz h.keepN h.n q3⟩
 | mix e es c=>
  rintro⟨cap,cs,h1,h2,h3,h4,h5,h6,h7,y,q1,q2,q3⟩
  have hb:=hdom _ _ h3
  refine⟨cap,cs,by rw[hrh,hph];exact h1,by rw[hph,h.heap _ hb (hne h3)];exact h2,by rw[hph,h.ow _ hb (hne h3)];exact h3,h4,h5,h6,λi A hi=>?_,y,q1,q2,h.crep q3⟩
  obtain⟨y,r1,r2,r3⟩:=h7 i A hi
  exact⟨y,r1,r2,A.mono h.sz h.keepN h.n r3⟩
 | obj A=>
  intro hA
  show A.p (λb=>g'.ow b=some id) (g'.N C) w' (g'.rh id)
  rw[hrh]
  exact A.mono (F:=λb=>g.ow b=some id) (λb e=>by rw[h.ow b (hdom b id e) (hne e)];exact e) (λb e=>hdom b id e) h.sz (λb hb e=>h.heap b hb (hne e)) h.keepN h.n hA
end
def St.put (S:St)(d:Option Nat)(c:Cnt):St:=match d with
 | none=>S
 | some d=>{ S with get:=λt=>bif Nat.beq t d then c else S.get t }
abbrev Upd:=List (Nat×Nat×Blk)
def St.putB (S:St):Upd->St
 | []=>S
 | (id,v,B)::r=>{ S.putB r with blk:=λi=>bif Nat.beq i id then B else(S.putB r).blk i,ver:=λi=>bif Nat.beq i id then v else(S.putB r).ver i }
def ub:Upd->Nat->Option (Nat×Blk)
 | [],_=>none
 | (id,v,B)::r,i=>bif Nat.beq i id then some (v,B)else ub r i
abbrev St.app (S:St)(d:Option Nat)(c:Cnt)(b:Upd):St:=(S.put d c).putB b
theorem bc {a b:Nat}:Nat.beq a b=true↔a=b:=⟨Nat.eq_of_beq_eq_true,λh=>by grind[Nat.beq_refl]⟩
theorem f8 {a b:Nat}(h:a≠b):Nat.beq a b=false:=by grind[bc]
theorem St.put_get (S:St)(d:Nat)(c:Cnt)(t:Nat):(S.put (some d) c).get t=if t=d then c else S.get t:=by
 by_cases h:t=d
 all_goals simp_all[St.put,f8]
theorem St.putB_get (S:St)(bs:Upd)(t:Nat):(S.putB bs).get t=S.get t:=by
 induction bs with
 | nil=>rfl
 | cons x r ih=>exact ih
theorem St.putB_bv (S:St)(bs:Upd)(i:Nat):(S.putB bs).blk i=((ub bs i).map (·.2)).getD (S.blk i)/\(S.putB bs).ver i=((ub bs i).map (·.1)).getD (S.ver i):=by induction bs<;>grind[St.putB,ub]
theorem St.app_get (S:St)(d:Option Nat)(c:Cnt)(b:Upd)(t:Nat):(S.app d c b).get t=(S.put d c).get t:=St.putB_get _ _ _
theorem St.put_blk (S:St)(d:Option Nat)(c:Cnt):(S.put d c).blk=S.blk:=by cases d<;>rfl
theorem St.put_ver (S:St)(d:Option Nat)(c:Cnt):(S.put d c).ver=S.ver:=by cases d<;>rfl
theorem St.app_blk (S:St)(d:Option Nat)(c:Cnt)(b:Upd)(i:Nat):(S.app d c b).blk i=((ub b i).map (·.2)).getD (S.blk i):=by grind[St.putB_bv,St.put_blk]
theorem St.app_ver (S:St)(d:Option Nat)(c:Cnt)(b:Upd)(i:Nat):(S.app d c b).ver i=((ub b i).map (·.1)).getD (S.ver i):=by simp_all[St.putB_bv,St.put_ver]
theorem tG (id v:Nat)(B:Blk)(i:Nat):ub [(id,v,B)] i=if i=id then some (v,B)else none:=by
 by_cases h:i=id
 all_goals simp_all[ub,f8]
theorem St.putB_blk (S:St)(id v:Nat)(B:Blk)(i:Nat):(S.putB [(id,v,B)]).blk i=if i=id then B else S.blk i:=by rw[(St.putB_bv _ _ _).1,tG];split<;>rfl
theorem St.putB_ver (S:St)(id v:Nat)(B:Blk)(i:Nat):(S.putB [(id,v,B)]).ver i=if i=id then v else S.ver i:=by rw[(St.putB_bv _ _ _).2,tG];split<;>rfl
theorem St.app_none_blk (S:St)(d:Option Nat)(c:Cnt):(S.app d c []).blk=S.blk:=St.put_blk S d c
theorem St.app_none_ver (S:St)(d:Option Nat)(c:Cnt):(S.app d c []).ver=S.ver:=St.put_ver S d c
theorem St.app_some_blk (S:St)(d:Option Nat)(c:Cnt)(id v:Nat)(B:Blk)(i:Nat):(S.app d c [(id,v,B)]).blk i=if i=id then B else S.blk i:=by grind[St.putB_blk,St.put_blk]
theorem St.app_some_ver (S:St)(d:Option Nat)(c:Cnt)(id v:Nat)(B:Blk)(i:Nat):(S.app d c [(id,v,B)]).ver i=if i=id then v else S.ver i:=by grind[St.putB_ver,St.put_ver]
theorem Np (a:Act)(d:Nat)(v:Value)(t:Nat)(hd:d<a.tmps.size):(a.put (some d) v).tmps.getD t undef=if t=d then v else a.tmps.getD t undef:=by
 by_cases h:t=d
 all_goals simp_all[Act.put,Ne.symm]
def dOk (n:Nat)(d:Option Nat):Prop:=∀t,d=some t->t<n
theorem zC {C:Ctx}{vr:Nat->Nat}{g:Gh}{w:World}{S:St}{a:Act}{n:Nat}{c:Cnt}{v:Value}(hsz:a.tmps.size=n)(hd:dOk n d)
 (hs:∀t,crep C vr g w (a.tmps.getD t undef) (S.get t)) (hc:crep C vr g w v c):∀t,crep C vr g w ((a.put d v).tmps.getD t undef) ((S.put d c).get t):=by
 intro t
 cases d with
 | none=>exact hs t
 | some d=>
  rw[Np a d v t (by rw[hsz];exact hd d rfl),St.put_get]
  grind
theorem C6 (a:Act)(d:Option Nat)(v:Value):(a.put d v).tmps.size=a.tmps.size:=by cases d<;>simp[Act.put]
theorem ws (a:Act)(d:Option Nat)(v:Value):(a.put d v).defers=a.defers:=by cases d<;>rfl
theorem RG.app0 {C:Ctx}{n:Nat}{S:St}{g:Gh}{a:Act}{w w':World}(h:RG C n S g a w)(hx:bQ w w')(hd:dOk n d){c:Cnt}{v:Value}
 (hc:crep C S.ver g w' v c):RG C n (S.app d c []) g (a.put d v) w':=by
 have hst:oi C (λ_=>False) S.ver S.ver g g w w':=⟨hx.size,λb hb _=>hx.block b hb,λ_ _ _=>rfl,λ_ _ h=>h,λb id e=>⟨aa4 (h.dom b id e).1 hx.size,(h.dom b id e).2⟩,
  λ_=>.inl rfl,λ_ _=>⟨rfl,rfl⟩,λ_ _=>⟨rfl,rfl⟩,hx.os,hx.tape,hx.output⟩
 refine⟨by rw[ws];exact h.defers,by rw[C6];exact h.tsz,h.nle,h.keep,hx.os.trans h.os,hx.tape.trans h.tape,hx.output.trans h.output,abk h.size hx.size,
  λb hb hl=>(hx.block b (aa4 hb h.size)).trans (h.old b hb hl),h.n0,h.n0l,hst.dom,λt=>?_,λid=>?_⟩
 ·rw[St.app_none_ver,St.app_get]
  exact zC h.tsz hd (λt=>hst.crep (h.slots t)) hc t
 ·rw[St.app_none_ver,St.app_none_blk]
  exact hst.brep (λb id e=>(h.dom b id e).1) (λh=>h) (h.blks id)
theorem RG.appL {C:Ctx}{n:Nat}{S:St}{g g':Gh}{a:Act}{w w':World}(h:RG C n S g a w){bs:Upd}(hd:dOk n d){c:Cnt}{v:Value}
 (hst:oi C (λi=>ub bs i≠none) S.ver (S.app d c bs).ver g g' w w')
 (hc:crep C (S.app d c bs).ver g' w' v c) (hb:∀i v B,ub bs i=some (v,B)->brep C (S.app d c bs).ver g' w' i B):RG C n (S.app d c bs) g' (a.put d v) w':=by
 refine⟨by rw[ws];exact h.defers,by rw[C6];exact h.tsz,h.nle,λid hf=>?_,hst.os.trans h.os,hst.tape.trans h.tape,hst.output.trans h.output,abk h.size hst.sz,
  λb hb' hl=>?_,h.n0,h.n0l,hst.dom,λt=>?_,λid=>?_⟩
 ·exact⟨(hst.fix id hf).1.trans (h.keep id hf).1,(hst.fix id hf).2.trans (h.keep id hf).2⟩
 ·have hlt:=aa4 hb' h.size
  rw[hst.heap b hlt (λi _ e=>by
   rcases(h.dom b i e).2 with q|q
   ·omega
   ·exact hl q)]
  exact h.old b hb' hl
 ·rw[St.app_get]
  exact zC h.tsz hd (λt=>hst.crep (h.slots t)) hc t
 ·rw[St.app_blk]
  cases hu:ub bs id with
  | some x=>exact hb id x.1 x.2 hu
  | none=>exact hst.brep (λb id e=>(h.dom b id e).1) (λhn=>hn hu) (h.blks id)
theorem RG.app1 {C:Ctx}{n:Nat}{S:St}{g g':Gh}{a:Act}{w w':World}(h:RG C n S g a w){i0 vr:Nat}{B:Blk}(hd:dOk n d){c:Cnt}{v:Value}
 (hst:oi C (λi=>i=i0) S.ver (S.app d c [(i0,vr,B)]).ver g g' w w')
 (hc:crep C (S.app d c [(i0,vr,B)]).ver g' w' v c) (hb:brep C (S.app d c [(i0,vr,B)]).ver g' w' i0 B):RG C n (S.app d c [(i0,vr,B)]) g' (a.put d v) w':=by
 refine h.appL hd (hst.cong (λi hi=>by rw[tG,aae hi];simp)) hc (λi v B' hu=>?_)
 rw[tG]at hu
 grind
def ed (F:List Nat)(T S:St):Prop:=(∀t,2*t∈F->T.get t=S.get t)/\(∀id,2*id+1∈F->T.blk id=S.blk id/\T.ver id=S.ver id)
theorem ed.refl (F:List Nat)(S:St):ed F S S:=⟨λ_ _=>rfl,λ_ _=>⟨rfl,rfl⟩⟩
def jg (P:Program)(ops:Array Oper)(o:Oper)(a:Act)(w:World)(K:Act->World->Prop):Prop:=
 if Region.wanted o (yielded ops a.tmps)=true then o.wp P a w K (λ_ _ _=>False)else K (a.put o.dst undef) w
structure aB (n:Nat)(P:Program)(ops:Array Oper)(o:Oper)(F:List Nat)(c:Cnt)(b:Upd)(S:St):Prop where
 run:∀(C:Ctx)(T:St),ed F T S->∀a w,R C n T a w->jg P ops o a w (R C n (T.app o.dst c b))
theorem Oper.wp_monoQ {P:Program}{a:Act}{w:World}{K K':Act->World->Prop}{Q Q':Exit->Act->World->Prop}(hK:∀a w,K a w->K' a w)(hQ:∀e a w,Q e a w->Q' e a w)
 (h:o.wp P a w K Q):o.wp P a w K' Q':=by
 unfold Oper.wp at *
 generalize (execOp a.eval o).run P w=r at *
 cases r with
 | ok x w'=>
  cases x<;>simp only[Oper.upon]at h ⊢ <;>
   first
    | exact hK _ _ h
    | exact Calls.mono h (λe w'' he=>by cases e<;>first|exact hK _ _ he|exact hQ _ _ _ he|(obtain⟨a0,w0,hq⟩:=he;exact⟨a0,w0,hQ _ _ _ hq⟩))
    | exact Rows.mono h (λ_ _ he=>hK _ _ he)
 | halt x w'=>cases x<;>simp only[Oper.upon]at h ⊢<;>first|exact hQ _ _ _ h|exact h
structure AL (P:Program)(n:Nat)(ops:Array Oper)(Q:St->Prop)(l:List Oper)(S:St):Prop where
 run:∀(C:Ctx) a w,R C n S a w->wpList P ops (λe a w=>e=.normal/\∃S',Q S'/\R C n S' a w) l a w
theorem tH {P:Program}{n:Nat}{ops:Array Oper}{Q:St->Prop}{S:St}(h:Q S):AL P n ops Q [] S:=⟨λ_ _ _ hr=>⟨rfl,S,h,hr⟩⟩
theorem Jl {P:Program}{n:Nat}{ops:Array Oper}{Q:St->Prop}{l:List Oper}{S:St}{F:List Nat}{c:Cnt}{b:Upd}
 (h:aB n P ops o F c b S) (k:AL P n ops Q l (S.app o.dst c b)):AL P n ops Q (o::l) S:=by
 refine⟨?_⟩
 intro C a w hr
 have h1:=h.run C S (ed.refl F S) a w hr
 unfold wpList
 unfold jg at h1
 split
 ·rename_i hw
  rw[aae hw]at h1
  exact .inl (Oper.wp_monoQ (λa w h=>k.run C a w h) (λ_ _ _ h=>h.elim) h1)
 ·rename_i hw
  rw[aab hw]at h1
  exact k.run C _ _ h1
structure rH where
 F:List Nat
 d:Option Nat
 c:Cnt
 b:Upd
def Nq (d:Option Nat)(b:Upd):List Nat:=(match d with|none=>[]|some d=>[2*d])++b.map λx=>2*x.1+1
def Nr (xs ys:List Nat):Bool:=xs.any λx=>ys.any λy=>Nat.beq x y
theorem Jm {xs ys:List Nat}{x:Nat}(h1:x∈xs)(h2:x∈ys):Nr xs ys=true:=by
 unfold Nr
 grind[Nat.beq_refl]
def zd (r s:List Nat×List Nat):Bool:=Nr r.2 (s.1++s.2)||Nr r.1 s.2
inductive TR (n:Nat)(P:Program)(ops:Array Oper):List Oper->St->List rH->Prop
 | nil {S:St}:TR n P ops [] S []
 | cons {o:Oper} {l:List Oper} {S:St} {F:List Nat} {c:Cnt} {b:Upd} {rs:List rH} (h:aB n P ops o F c b S) (t:TR n P ops l (S.app o.dst c b) rs) :
  TR n P ops (o::l) S (⟨F,o.dst,c,b⟩::rs)
def Bp (S:St)(rs:List rH):St:=rs.foldl (λS r=>S.app r.d r.c r.b) S
def rI (acc:List Nat):List Edge->Nat
 | []=>0
 | e::l=>(if Region.binds .any e then 2 ^ e.on ||| acc.getD e.on 0 else 0) ||| rI acc l
def C7:List Oper->List Nat->List Nat
 | [],acc=>acc
 | o::l,acc=>C7 l (acc++[rI acc o.after.toList])
def Bq (m:Nat)(s:List Nat×List Nat):Nat->List (List Nat×List Nat)->Bool
 | _,[]=>true
 | i,r::l=>(!zd r s||m.testBit i)&&Bq m s (i+1) l
def Br (ms:List Nat):List (List Nat×List Nat)->List (List Nat×List Nat)->Nat->Bool
 | _,[],_=>true
 | prev,s::l,j=>Bq (ms.getD j 0) s 0 prev&&Br ms (prev++[s]) l (j+1)
def vE:Nat->List Oper->Bool
 | _,[]=>true
 | i,o::l=>o.after.toList.all (λe=>!Region.binds .any e||Nat.blt e.on i)&&vE (i+1) l
def ZV (l:List Oper)(fs:List (List Nat×List Nat)):Bool:=vE 0 l&&Br (C7 l []) [] fs 0
theorem C8 {m:Nat}{s:List Nat×List Nat}:∀{l:List (List Nat×List Nat)} {i:Nat},Bq m s i l=true->∀k r,l[k]?=some r->zd r s=true->m.testBit (i+k)=true:=by
 intro l
 induction l with
 | nil=>grind
 | cons x l ih=>
  intro i h k r hk hc
  simp only[Bq,aaC,abm,abq]at h
  cases k<;>grind
theorem C9 {ms:List Nat}:∀{l prev:List (List Nat×List Nat)} {j:Nat},Br ms prev l j=true->prev.length=j ->
 ∀i k r s,(prev++l)[i]?=some r->(prev++l)[k]?=some s->i<k->j<=k->zd r s=true->(ms.getD k 0).testBit i=true:=by
 intro l
 induction l with
 | nil=>
  grind
 | cons x l ih=>
  intro prev j h hp i k r s hi hk hik hjk hc
  simp only[Br,aaC]at h
  rcases aaF j k with hlt|hge
  ·refine ih h.2 (by simp[hp]) i k r s ?_ ?_ hik hlt hc
   all_goals grind
  ·obtain rfl:k=j:=ae
   rw[List.getElem?_append_right ae,hp,Nat.sub_self]at hk
   simp at hk;subst hk
   rw[aaz ae]at hi
   have:=C8 h.1 i r hi hc
   simpa using this
theorem Bt:∀{l:List Oper} {i:Nat},vE i l=true->∀k o,l[k]?=some o->∀e∈o.after,Region.binds .any e=true->e.on<i+k:=by
 intro l
 induction l with
 | nil=>grind
 | cons x l ih=>
  intro i h k o hk e he hb
  simp only[vE,aaC,aaH]at h
  cases k with
  | zero=>
   simp at hk;subst hk
   have:=h.1 e (by simpa using he)
   simp_all
  | succ k=>
   grind
theorem ze {acc:List Nat}{i:Nat}:∀{l:List Edge},(rI acc l).testBit i=true->∃e∈l,Region.binds .any e=true/\(i=e.on\/(acc.getD e.on 0).testBit i=true):=by
 intro l
 induction l<;>grind[rI]
theorem Gq {E:Nat->Prop}:∀{l:List Oper} {acc:List Nat},(∀k o,l[k]?=some o->E (acc.length+k)->∀e∈o.after,Region.binds .any e=true->E e.on) ->
 (∀j i,(acc.getD j 0).testBit i=true->E j->E i)->∀j i,((C7 l acc).getD j 0).testBit i=true->E j->E i:=by
 intro l
 induction l with
 | nil=>intro acc _ h;exact h
 | cons o l ih=>
  intro acc hc h
  refine ih (λk o' hk hE=>?_) (λj i hb hE=>?_)
  ·rw[aai,abx,Nat.add_assoc,Nat.add_comm 1 k]at hE
   exact hc (k+1) o' (by simpa using hk) hE
  ·rcases abG j acc.length with hj|hj|hj
   ·grind
   ·subst hj
    rw[List.getD_eq_getElem?_getD,List.getElem?_append_right (aaf _)]at hb
    simp at hb
    obtain⟨e,he,h2,h3⟩:=ze hb
    have hEe:=hc 0 o aA (by simpa using hE) e (by simpa using he) h2
    grind
   grind
def ng (E:Nat->Bool):Nat->St->List rH->St
 | _,S,[]=>S
 | i,S,r::l=>ng E (i+1) (if E i then S.app r.d r.c r.b else S) l
def oB (E:Nat->Bool)(t:Nat):Nat->List rH->Option Cnt
 | _,[]=>none
 | i,r::l=>match oB E t (i+1) l with
  | some c=>some c
  | none=>if E i=true/\r.d=some t then some r.c else none
def mD (E:Nat->Bool)(id:Nat):Nat->List rH->Option (Nat×Blk)
 | _,[]=>none
 | i,r::l=>match mD E id (i+1) l with
  | some c=>some c
  | none=>if E i=true then ub r.b id else none
theorem oC (E:Nat->Bool)(t:Nat):∀(l:List rH)(i:Nat)(S:St),(ng E i S l).get t=(oB E t i l).getD (S.get t):=by
 intro l
 induction l with
 | nil=>intro i S;rfl
 | cons r l ih=>
  intro i S
  simp only[ng,oB]
  rw[ih]
  cases oB E t (i+1) l with
  | some c=>rfl
  | none=>
   simp only[Option.getD_none]
   by_cases hE:E i=true
   ·simp only[hE,if_true,true_and]
    rw[St.app_get]
    cases hd:r.d<;>grind[St.put,St.put_get]
   ·simp[hE]
theorem j5 (E:Nat->Bool)(id:Nat):∀(l:List rH)(i:Nat)(S:St),(ng E i S l).blk id=((mD E id i l).map (·.2)).getD (S.blk id)/\(ng E i S l).ver id=((mD E id i l).map (·.1)).getD (S.ver id):=by
 intro l
 induction l<;>grind[ng,mD,St.app_blk,St.app_ver]
theorem oD {E':Nat->Bool}:∀{l:List rH} {i:Nat},(∀k r,l[k]?=some r->r.d=some t->E (i+k)=E' (i+k))->oB E t i l=oB E' t i l:=by
 intro l
 induction l with
 | nil=>intro i _;rfl
 | cons r l ih=>
  intro i h
  simp only[oB]
  rw[ih (i:=i+1) (λk r' hk hd=>by have:=h (k+1) r' (by simpa using hk) hd;rw[show i+1+k=i+(k+1)by omega];exact this)]
  by_cases hd:r.d=some t
  ·have:=h 0 r aA hd
   grind
  ·simp[hd]
theorem oE {E':Nat->Bool}:∀{l:List rH} {i:Nat},(∀k r,l[k]?=some r->(∃x,ub r.b id=some x)->E (i+k)=E' (i+k))->mD E id i l=mD E' id i l:=by
 intro l
 induction l with
 | nil=>intro i _;rfl
 | cons r l ih=>
  intro i h
  simp only[mD]
  rw[ih (i:=i+1) (λk r' hk hd=>by have:=h (k+1) r' (by simpa using hk) hd;rw[show i+1+k=i+(k+1)by omega];exact this)]
  cases hb:ub r.b id with
  | none=>simp
  | some x=>
   have:=h 0 r aA ⟨x,hb⟩
   grind
theorem Gr:∀{l:List rH} {i:Nat},(∀k r,l[k]?=some r->r.d=some t->E (i+k)=false)->oB E t i l=none:=by
 intro l i h
 rw[oD (E':=λ_=>false) h]
 clear h
 induction l generalizing i<;>grind[oB]
theorem Gs:∀{l:List rH} {i:Nat},(∀k r,l[k]?=some r->(∃x,ub r.b id=some x)->E (i+k)=false)->mD E id i l=none:=by
 intro l i h
 rw[oE (E':=λ_=>false) h]
 clear h
 induction l generalizing i<;>grind[mD]
theorem Ns:∀{l:List rH} {i j:Nat} {r:rH},l[j]?=some r->r.d=some t->E (i+j)=true->(∀k r',l[k]?=some r'->r'.d=some t->j<k->E (i+k)=false)->oB E t i l=some r.c:=by
 intro l
 induction l with
 | nil=>grind
 | cons x l ih=>
  intro i j r hj hd hE hno
  simp only[oB]
  cases j with
  | zero=>
   simp at hj;subst hj
   rw[Gr (λk r' hk hd'=>by have:=hno (k+1) r' (by simpa using hk) hd' ae;rw[show i+1+k=i+(k+1)by omega];exact this)]
   grind
  | succ j=>
   simp at hj
   rw[ih (i:=i+1) hj hd (by rw[show i+1+j=i+(j+1)by omega];exact hE) (λk r' hk hd' hlt=>by have:=hno (k+1) r' (by simpa using hk) hd' ae;rw[show i+1+k=i+(k+1)by omega];exact this)]
theorem Nt {x:Nat×Blk}:∀{l:List rH} {i j:Nat} {r:rH},l[j]?=some r->ub r.b id=some x->E (i+j)=true->(∀k r',l[k]?=some r'->(∃x,ub r'.b id=some x)->j<k->E (i+k)=false)->mD E id i l=some x:=by
 intro l
 induction l with
 | nil=>grind
 | cons y l ih=>
  intro i j r hj hd hE hno
  simp only[mD]
  cases j with
  | zero=>
   simp at hj;subst hj
   rw[Gs (λk r' hk hd'=>by have:=hno (k+1) r' (by simpa using hk) hd' ae;rw[show i+1+k=i+(k+1)by omega];exact this)]
   grind
  | succ j=>
   simp at hj
   rw[ih (i:=i+1) hj hd (by rw[show i+1+j=i+(j+1)by omega];exact hE) (λk r' hk hd' hlt=>by have:=hno (k+1) r' (by simpa using hk) hd' ae;rw[show i+1+k=i+(k+1)by omega];exact this)]
theorem St.ext' {S T:St}(h1:∀t,S.get t=T.get t)(h2:∀i,S.blk i=T.blk i/\S.ver i=T.ver i):S=T:=by
 cases S;cases T
 grind[St.mk.injEq]
theorem tI {d:Nat}{b:Upd}:2*d∈Nq (some d) b:=by simp[Nq]
theorem tJ {bs:Upd}{x:Nat×Blk}(h:ub bs id=some x):2*id+1∈Nq d bs:=by
 have:∃y∈bs,y.1=id:=by induction bs<;>grind[ub,bc]
 obtain⟨y,h1,h2⟩:=this
 unfold Nq
 grind
def rH.fp (r:rH):List Nat×List Nat:=(r.F,Nq r.d r.b)
section
variable {n:Nat} {P:Program} {ops:Array Oper} {C:Ctx} {S:St} {rs:List rH}
theorem TR.get {l:List Oper}{S:St}{rs:List rH}(h:TR n P ops l S rs):l.length=rs.length/\∀j o r,l[j]?=some o->rs[j]?=some r->r.d=o.dst/\aB n P ops o r.F r.c r.b (Bp S (rs.take j)):=by
 induction h with
 | nil=>grind
 | cons h t ih=>
  refine⟨by simp[ih.1],λj o r hj hr=>?_⟩
  cases j with
  | zero=>simp at hj hr;subst hj;subst hr;exact⟨rfl,h⟩
  | succ j=>
   simp at hj hr
   exact ih.2 j o r hj hr
theorem Nu:∀(rs:List rH)(S:St)(i:Nat)(E:Nat->Bool),(∀k,k<rs.length->E (i+k)=true)->ng E i S rs=Bp S rs:=by
 intro rs
 induction rs with
 | nil=>intro S i E _;rfl
 | cons r l ih=>
  intro S i E h
  have h0:=h 0 aA
  simp only[abo]at h0
  simp only[ng,Bp,List.foldl_cons,h0,if_true]
  exact ih _ _ _ (λk hk=>by rw[show i+1+k=i+(k+1)by omega];simp_all)
theorem zD:∀(rs:List rH)(S:St)(i:Nat)(E:Nat->Bool),(∀k,k<rs.length->E (i+k)=false)->ng E i S rs=S:=by
 intro rs
 induction rs with
 | nil=>intro S i E _;rfl
 | cons r l ih=>
  intro S i E h
  have h0:=h 0 aA
  simp only[abo]at h0
  simp only[ng,h0]
  exact ih _ _ _ (λk hk=>by rw[show i+1+k=i+(k+1)by omega];simp_all)
theorem KG:∀(rs:List rH)(S:St)(i j:Nat),ng (λk=>decide (k<i+j)) i S rs=Bp S (rs.take j):=by
 intro rs
 induction rs with
 | nil=>grind[ng,Bp]
 | cons r l ih=>
  intro S i j
  cases j<;>grind[zD,ng,Bp]
theorem pC {r s:rH}{x:Nat}(h1:x∈Nq r.d r.b)(h2:x∈s.F\/x∈Nq s.d s.b):zd r.fp s.fp=true:=by grind[zd,Jm,rH.fp]
theorem zF {r s:rH}{x:Nat}(h1:x∈r.F)(h2:x∈Nq s.d s.b):zd r.fp s.fp=true:=by
 unfold zd
 rw[abm]
 exact .inr (Jm h1 h2)
theorem Nv (hT:TR n P ops ops.toList S rs)(hc:ZV ops.toList (rs.map rH.fp)=true)(K:Exit->Act->World->Prop)(hK:∀a w,R C n (Bp S rs) a w->K .normal a w) :
 ∀(fuel:Nat)(E:Array Bool),E.size=ops.size->(∀i o,ops[i]?=some o->E.getD i true=true->∀e∈o.after,Region.binds .any e=true->E.getD e.on false=true) ->
  (fuel+((List.range ops.size).filter λi=>E.getD i true).length>=ops.size) ->
  ∀a w,R C n (ng (λi=>E.getD i true) 0 S rs) a w->wpAny P .any ops K fuel E a w:=by
 obtain⟨hlen,hget⟩:=hT.get
 simp only[ZV,aaC]at hc
 have hedge:=Bt hc.1
 have hconf:∀i k r s,rs[i]?=some r->rs[k]?=some s->i<k->zd r.fp s.fp=true->((C7 ops.toList []).getD k 0).testBit i=true:=by
  intro i k r s hi hk hik hcf
  refine C9 hc.2 rfl i k r.fp s.fp ?_ ?_ hik (aag _) hcf
  all_goals grind
 have hanc:∀(E:Array Bool),(∀i o,ops[i]?=some o->E.getD i true=true->∀e∈o.after,Region.binds .any e=true->E.getD e.on false=true) ->
  ∀j i,((C7 ops.toList []).getD j 0).testBit i=true->E.getD j false=true->E.getD i false=true:=by
  intro E hE j i hb hj
  refine Gq (E:=λi=>E.getD i false=true) (λk o hk hk' e he hbb=>?_) (λj i hb=>by simp at hb) j i hb hj
  grind
 have hsz:rs.length=ops.size:=by rw[<-hlen];simp
 have done:∀(E:Array Bool),E.size=ops.size->(∀i o,ops[i]?=some o->E.getD i true=true->∀e∈o.after,Region.binds .any e=true->E.getD e.on false=true) ->
  Region.ready .any ops E=[]->∀k,k<ops.size->E.getD k true=true:=by
  intro E hsE _ hready
  intro k
  induction k using Nat.strongRecOn with
  | _ k ih=>
   intro hk
   cases hEk:E.getD k true with
   | true=>rfl
   | false=>
    exfalso
    have:k∈Region.ready .any ops E:=by grind[Region.ready]
    rw[hready]at this;simp at this
 have fin:∀(E:Array Bool),E.size=ops.size->(∀i o,ops[i]?=some o->E.getD i true=true->∀e∈o.after,Region.binds .any e=true->E.getD e.on false=true) ->
  Region.ready .any ops E=[]->∀a w,R C n (ng (λi=>E.getD i true) 0 S rs) a w->K .normal a w:=by grind[Nu]
 intro fuel
 induction fuel with
 | zero=>
  intro E h1 h2 h3 a w hr
  have hall:∀k,k<ops.size->E.getD k true=true:=by grind[List.length_filter_eq_length_iff]
  have hready:Region.ready .any ops E=[]:=by grind[Region.ready,List.filter_eq_nil_iff]
  exact⟨hready,fin E h1 h2 hready a w hr⟩
 | succ fuel ih=>
  intro E h1 h2 h3 a w hr
  refine⟨λhready=>fin E h1 h2 hready a w hr,λi hi=>?_⟩
  unfold Region.ready at hi
  rw[abt]at hi
  obtain⟨hi1,hi2⟩:=hi
  have his:i<ops.size:=by simpa using hi1
  simp only[aaC,abq,abw his,Option.map_some,Option.getD_some,Array.all_eq_true_iff_forall_mem]at hi2
  obtain⟨hEi,hin⟩:=hi2
  have hEif:E.getD i false=false:=by grind
  obtain⟨r,hrr⟩:∃r,rs[i]?=some r:=⟨rs[i]'(ae),aaa _⟩
  obtain⟨hd,hop⟩:=hget i ops[i] r (by simp[his]) hrr
  have hsE:∀k,k<rs.length->E.getD k true=E.getD k false:=λk hk=>by grind
  have hlt:∀k r',rs[k]?=some r'->k<rs.length:=λk r' h=>by grind
  -- what stands before
  have hbefore:∀k r',rs[k]?=some r'->zd r'.fp r.fp=true->k<i->E.getD k true=true:=by
   intro k r' hk hcf hki
   have hb:=hconf k i r' r hk hrr hki hcf
   have hE':∀j o,ops[j]?=some o->(E.setIfInBounds i true).getD j true=true->∀e∈o.after,Region.binds .any e=true->(E.setIfInBounds i true).getD e.on false=true:=by
    intro j o hj hjE e he hbb
    by_cases hji:j=i
    ·subst hji
     rw[abw his]at hj;cases hj
     have:=hin e he
     simp only[hbb,Bool.not_true,abl]at this
     by_cases hei:e.on=j
     ·rw[hei];simp[h1,his]
     ·simp only[aa7,Array.getElem?_setIfInBounds_ne (Ne.symm hei)]
      grind[aa7]
    ·have:=h2 j o hj (by simpa[Array.getElem?_setIfInBounds_ne (Ne.symm hji)]using hjE) e he hbb
     by_cases hei:e.on=i
     ·rw[hei,hEif]at this;cases this
     ·simpa[Array.getElem?_setIfInBounds_ne (Ne.symm hei)]using this
   have:=hanc _ hE' i k hb (by simp[h1,his])
   have hki':k≠i:=ae
   rw[hsE k (hlt k r' hk)]
   simpa[Array.getElem?_setIfInBounds_ne (Ne.symm hki')]using this
  have hafter:∀k r',rs[k]?=some r'->zd r.fp r'.fp=true->i<k->E.getD k true=false:=by
   intro k r' hk hcf hik
   cases hEk:E.getD k true with
   | false=>rfl
   | true=>
    have hb:=hconf i k r r' hrr hk hik hcf
    have:=hanc E h2 k i hb (by rw[<-hsE k (hlt k r' hk)];exact hEk)
    rw[hEif]at this;cases this
  have hagree:ed r.F (ng (λi=>E.getD i true) 0 S rs) (Bp S (rs.take i)):=by
   rw[<-KG rs S 0 i]
   refine⟨λt ht=>?_,λid hid=>?_⟩
   ·rw[oC,oC]
    congr 1
    refine oD (λk r' hk hd'=>?_)
    simp only[aaJ]
    rcases abG k i with q|q|q
    all_goals grind[pC,tI,zF]
   ·rw[(j5 _ id rs 0 S).1,(j5 _ id rs 0 S).2,(j5 _ id rs 0 S).1,(j5 _ id rs 0 S).2]
    have hEq:mD (λi=>E.getD i true) id 0 rs=mD (λk=>decide (k<0+i)) id 0 rs:=by
     refine oE (λk r' hk hd'=>?_)
     obtain⟨x,hd'⟩:=hd'
     simp only[aaJ]
     rcases abG k i with q|q|q
     all_goals grind[pC,tJ,zF]
    rw[hEq];exact⟨rfl,rfl⟩
  have hstate:ng (λj=>(E.setIfInBounds i true).getD j true) 0 S rs=(ng (λi=>E.getD i true) 0 S rs).app ops[i].dst r.c r.b:=by
   have hnew:∀k,(E.setIfInBounds i true).getD k true=if k=i then true else E.getD k true:=by
    intro k
    by_cases hk:k=i
    ·subst hk;simp[h1,his]
    ·simp[Array.getElem?_setIfInBounds_ne (Ne.symm hk),hk]
   rw[<-hd]
   refine St.ext' (λt=>?_) (λid=>?_)
   ·rw[oC,St.app_get]
    by_cases ht:r.d=some t
    ·rw[Ns (j:=i) hrr ht (by grind) (λk r' hk hd' hik=>by
      simp only[aaJ]
      rw[hnew,aab ae]
      exact hafter k r' hk (pC (x:=2*t) (by rw[ht];exact tI) (.inr (by rw[hd'];exact tI))) hik)]
     rw[ht,St.put_get];simp
    ·rw[oD (E':=λi=>E.getD i true) (λk r' hk hd'=>by
      simp only[aaJ]
      rw[hnew,aab (λe=>by grind)])]
     cases hdd:r.d with
     | none=>grind[St.put,oC]
     | some d=>
      rw[St.put_get,aab (λe=>ht (by rw[hdd,e])),oC]
   ·rw[(j5 _ id rs 0 S).1,(j5 _ id rs 0 S).2,St.app_blk,St.app_ver]
    cases hb:ub r.b id with
    | some x=>
     rw[Nt (j:=i) hrr hb (by grind) (λk r' hk hd' hik=>by
      simp only[aaJ]
      rw[hnew,aab ae]
      obtain⟨x',hd'⟩:=hd'
      exact hafter k r' hk (pC (x:=2*id+1) (tJ hb) (.inr (tJ hd'))) hik)]
     exact⟨rfl,rfl⟩
    | none=>
     rw[oE (E':=λi=>E.getD i true) (λk r' hk hd'=>by
      simp only[aaJ]
      rw[hnew,aab (λe=>by grind)]),(j5 _ id rs 0 S).1,(j5 _ id rs 0 S).2]
     exact⟨rfl,rfl⟩
  have hex:=hop.run C _ hagree a w hr
  rw[<-hstate]at hex
  have hnext:∀a w,R C n (ng (λj=>(E.setIfInBounds i true).getD j true) 0 S rs) a w->wpAny P .any ops K fuel (E.setIfInBounds i true) a w:=by
   refine ih _ (by simp[h1]) ?_ ?_
   ·intro j o hj hjE e he hbb
    by_cases hji:j=i
    ·subst hji
     rw[abw his]at hj;cases hj
     have:=hin e he
     simp only[hbb,Bool.not_true,abl]at this
     by_cases hei:e.on=j
     ·rw[hei];simp[h1,his]
     ·simp only[aa7,Array.getElem?_setIfInBounds_ne (Ne.symm hei)]
      grind[aa7]
    ·have:=h2 j o hj (by simpa[Array.getElem?_setIfInBounds_ne (Ne.symm hji)]using hjE) e he hbb
     by_cases hei:e.on=i
     ·rw[hei];simp[h1,his]
     ·simpa[Array.getElem?_setIfInBounds_ne (Ne.symm hei)]using this
   ·have hcount:((List.range ops.size).filter λk=>E.getD k true).length<((List.range ops.size).filter λk=>(E.setIfInBounds i true).getD k true).length:=by
     rw[<-List.countP_eq_length_filter,<-List.countP_eq_length_filter]
     have key:∀(l:List Nat),i∈l->l.Nodup->List.countP (λk=>E.getD k true) l<List.countP (λk=>(E.setIfInBounds i true).getD k true) l:=by
      intro l hm _
      induction l with
      | nil=>simp at hm
      | cons x l ihl=>
       have hx:∀k,(E.setIfInBounds i true).getD k true=if k=i then true else E.getD k true:=by
        intro k
        by_cases hk:k=i
        ·subst hk;simp[h1,his]
        ·simp[Array.getElem?_setIfInBounds_ne (Ne.symm hk),hk]
       have hle:∀(m:List Nat),List.countP (λk=>E.getD k true) m<=List.countP (λk=>(E.setIfInBounds i true).getD k true) m:=by
        intro m
        refine List.countP_mono_left (λk _ hk=>?_)
        rw[hx];split
        ·rfl
        ·exact hk
       rw[List.countP_cons,List.countP_cons]
       by_cases hxi:x=i
       ·grind
       ·have hm':i∈l:=by grind
        have:=ihl hm' (by grind)
        rw[hx x,aab hxi];omega
     grind[List.nodup_range]
    omega
  unfold wpOp
  rw[abw his]
  unfold jg at hex
  grind[Oper.wp_monoQ]
end
structure AD (P:Program)(n:Nat)(ops:Array Oper)(Q:St->Prop)(done:List (List Nat×List Nat))(l:List Oper)(S:St):Prop where
 ex:∃rs,TR n P ops l S rs/\ZV ops.toList (done++rs.map rH.fp)=true/\Q (Bp S rs)
section
variable {P:Program} {n:Nat} {ops:Array Oper} {Q:St->Prop} {done:List (List Nat×List Nat)} {l:List Oper} {S:St}
theorem tK (hc:ZV ops.toList done=true)(h:Q S):AD P n ops Q done [] S:=⟨[],.nil,by simpa using hc,h⟩
theorem Jn {F:List Nat}{c:Cnt}{b:Upd}(h:aB n P ops o F c b S)(k:AD P n ops Q (done++[(F,Nq o.dst b)]) l (S.app o.dst c b)) :
 AD P n ops Q done (o::l) S:=by
 obtain⟨rs,h1,h2,h3⟩:=k.ex
 exact⟨⟨F,o.dst,c,b⟩::rs,.cons h h1,by simpa[rH.fp]using h2,h3⟩
end
theorem R.drew {C:Ctx}{n:Nat}{S:St}{a:Act}{w:World}(h:R C n S a w):R C n S a { w with drawn:=w.drawn+1 }:=by
 obtain⟨g,h⟩:=h
 have hx:bQ w { w with drawn:=w.drawn+1 }:=⟨rfl,rfl,rfl,aaf _,λ_ _=>rfl⟩
 exact⟨g,h.app0 (d:=none) (c:=.any) (v:=undef) hx (λ_ h=>by cases h) trivial⟩
theorem Da {p:Nat->Prop}(h:∃k,p k):∃k,p k/\∀m,p m->k<=m:=by
 obtain⟨k,hk⟩:=h
 induction k using Nat.strongRecOn<;>grind
def uW (next:St->Prop)(Q:Exit->St->Prop):Exit->St->Prop
 | .normal,S=>next S
 | e,S=>Q e S
def j6 (id:Nat)(Q:Exit->St->Prop):Exit->St->Prop
 | .exit id',S=>if id'=id then Q .normal S else Q (.exit id') S
 | e,S=>Q e S
structure AW (P:Program)(n:Nat)(c:Code)(Q:Exit->St->Prop)(S:St):Prop where
 run:∀(C:Ctx) a w,R C n S a w->c.wp P (λe a w=>∃S',Q e S'/\R C n S' a w) a w
def Le (n:Nat)(S S':St):Prop:=∀(C:Ctx) a w,R C n S a w->R C n S' a w
section
variable {P:Program} {n:Nat} {Q:Exit->St->Prop} {S:St}
theorem bw {c:Code}{S':St}(h:Le n S S')(k:AW P n c Q S'):AW P n c Q S:=⟨λC a w hr=>k.run C a w (h C a w hr)⟩
theorem tL {x y:Code}(h:AW P n x (uW (AW P n y Q) Q) S):AW P n (.seq x y) Q S:=⟨λC a w hr=>
 wp_seq (wp_mono (h.run C a w hr) (λe a w hq=>by
  obtain⟨S',hq,hr⟩:=hq
  cases e<;>first|exact AW.run hq C a w hr|exact⟨S',hq,hr⟩))⟩
theorem mF {c:Code}(h:AW P n c (j6 id Q) S):AW P n (.block id c) Q S:=⟨λC a w hr=>
 wp_block (wp_mono (h.run C a w hr) (λe a w hq=>by
  obtain⟨S',hq,hr⟩:=hq
  cases e<;>grind[Exit.inBlock,j6]))⟩
theorem pD (h:Q .normal S):AW P n .skip Q S:=⟨λ_ _ _ hr=>wp_skip ⟨S,h,hr⟩⟩
theorem tM (h:Q .ret S):AW P n .ret Q S:=⟨λ_ _ _ hr=>wp_ret ⟨S,h,hr⟩⟩
theorem pE (h:Q (.exit id) S):AW P n (.exit id) Q S:=⟨λ_ _ _ hr=>wp_exit ⟨S,h,hr⟩⟩
theorem kQ {l:List Oper}(h:AL P n l.toArray (Q .normal) l S):AW P n (.region id l.toArray false) Q S:=⟨λC a w hr=>
 wp_region_lit (by
  have:=h.run C a w hr
  have key:∀(l':List Oper) a w,wpList P l.toArray (λe a w=>e=.normal/\∃S',Q .normal S'/\R C n S' a w) l' a w->wpList P l.toArray (λe a w=>∃S',Q e S'/\R C n S' a w) l' a w:=by
   intro l'
   induction l' with
   | nil=>rintro a w ⟨_,h⟩;exact h
   | cons o l' ih=>
    intro a w h
    unfold wpList at h ⊢
    split
    ·rename_i hw
     rw[aae hw]at h
     rcases h with h|⟨h,a0,w0,hq,_⟩
     all_goals grind[Oper.wp_monoQ]
    grind
  exact key l a w this)⟩
theorem bW {l:List Oper}(hm:P.follows .mixedOrders=true)(h:AD P n l.toArray (Q .normal) [] l S):AW P n (.region id l.toArray true) Q S:=⟨λC a w hr=>by
 obtain⟨rs,h1,h2,h3⟩:=h.ex
 refine wp_region_any hm (Nv (ops:=l.toArray) h1 (by simpa using h2) _ (λa w hr=>⟨_,h3,hr⟩) l.toArray.size (Array.replicate l.toArray.size false) aA ?_ ?_ a _ ?_)
 ·intro i o hi hE
  have:i<l.toArray.size:=(Array.getElem?_eq_some_iff.1 hi).1
  rw[aa7,Array.getElem?_replicate,aae this]at hE
  simp at hE
 ·omega
 ·have hlen:=h1.get.1
  rw[zD rs S 0 _ (λk hk=>by simp_all)]
  exact hr.drew⟩
theorem Jo {c:Code}{X:Type}(I:X->St)(mu:X->Nat)(x0:X)(h0:Le n S (I x0))
 (round:∀x,AW P n c (uW (λS'=>∃x',mu x'<mu x/\Le n S' (I x')) Q) (I x)):AW P n (.loop c) Q S:=by
 refine⟨?_⟩
 intro C a w hr
 let J:Act->World->Nat->Prop:=λa w m=>∃x,mu x=m/\R C n (I x) a w
 have key:∀m,∀a w,J a w m->(Code.loop c).wp P (λe a w=>∃S',Q e S'/\R C n S' a w) a w:=by
  intro m a w hJ
  classical
  let mm:Act->World->Nat:=λa w=>if h:∃k,J a w k then Classical.choose (Da h)else 0
  have hex:∃k,J a w k:=⟨m,hJ⟩
  refine wp_loop (λa w=>∃k,J a w k) mm hex ?_
  intro a w hk
  have hmm:mm a w=Classical.choose (Da hk):=dif_pos hk
  obtain⟨x,hx,hR⟩:=(Classical.choose_spec (Da hk)).1
  refine wp_mono ((round x).run C a w hR) (λe a' w' ⟨S',hq,hr'⟩=>?_)
  cases e with
  | normal=>
   obtain⟨x',hlt,hle⟩:=hq
   have hJ':J a' w' (mu x'):=⟨x',rfl,hle C a' w' hr'⟩
   have hex':∃k,J a' w' k:=⟨mu x',hJ'⟩
   refine⟨hex',?_⟩
   have h2:mm a' w'=Classical.choose (Da hex'):=dif_pos hex'
   have h3:=(Classical.choose_spec (Da hex')).2 _ hJ'
   omega
  | _=>exact⟨S',hq,hr'⟩
 exact key (mu x0) a w ⟨x0,rfl,h0 C a w hr⟩
end
theorem j7 {P:Program}{n:Nat}{Q:Exit->St->Prop}{S:St}{c:Operand}{x y:Code}{b:Bool}(hc:c=.tmp t)(hb:S.get t=bC b)
 (h1:b=true->AW P n x Q S) (h2:b=false->AW P n y Q S):AW P n (.cond c x y) Q S:=⟨λC a w hr=>by
 obtain⟨g,hg⟩:=hr
 have:=hg.slots t
 rw[hb]at this
 subst hc
 exact wp_cond_split (t:=b) this (λh=>(h1 h).run C a w ⟨g,hg⟩) (λh=>(h2 h).run C a w ⟨g,hg⟩)⟩
def g0:Gh:=⟨λ_=>none,λ_=>0,λ_=>undef⟩
inductive Ret where
 | per (A:PV)
 | own (e k:Nat) (es:List (List PV))
 | tup2 (c d:Ret)
 | tup3 (c d e:Ret)
def Ret.rep (N0:BP)(w w':World)(v:Value):Ret->Prop
 | .per A=>A.p N0 w' v
 | .own e k es=>(v=.slice none 0 0/\es=[])\/∃(q cap:Nat)(cs:Array Value),v=.slice (some ⟨q,0,none⟩) es.length cap/\w.heap.size<=q /\
  w'.heap[q]?=some (.cells cs e (0,0))/\es.length<=cap/\cap<=maxLen/\cs.size=cap*k /\
  ∀(i:Nat)(ps:List PV),es[i]?=some ps->ps.length=k/\∀(j:Nat)(A:PV),ps[j]?=some A->∃y,cs[i*k+j]?=some y/\y.oneCell'=true/\A.p (λb=>N0 b\/b=q) w' y
 | .tup2 c d=>∃x y,v=.tuple #[x,y]/\c.rep N0 w w' x/\d.rep N0 w w' y
 | .tup3 c d e=>∃x y z,v=.tuple #[x,y,z]/\c.rep N0 w w' x/\d.rep N0 w w' y/\e.rep N0 w w' z
def rJ (N0:BP)(w:World)(vs:List Value)(As:List Cnt):Prop:=
 vs.length=As.length/\∀(i:Nat)(v:Value)(c:Cnt),vs[i]?=some v->As[i]?=some c->crep ⟨w,N0,λ_=>False,g0⟩ (λ_=>0) g0 w v c
def Wd (P : Program) (f : FuncId) : Prop := ∃ fn, P.funcs[f]? = some fn /\ (fn.name == "runtime.NumGoroutine") = false /\ fn.body.isNone = false
structure Fn (P:Program)(f:FuncId)(As:List Cnt)(r:Ret):Prop where
 ent:Wd P f
 run:∀(N0:BP)(w:World)(vs:List Value),(∀b,N0 b->b<w.heap.size)->rJ N0 w vs As ->
  Calls P f vs.toArray w (λe w'=>∃v,e=.returned v/\bQ w w'/\r.rep N0 w w' v)
def Nw (As:List Cnt):St:=⟨λt=>(As[t]?).getD .any,λ_=>.none,λ_=>0⟩
def oG (P:Program)(n:Nat)(fn:Func)(S:St)(r:Ret):Prop:=
 ∀(C:Ctx) a w,(∀b,¬C.L b)->R C n S a w->∃v,(results fn a.tmps).run P w=.ok v w/\r.rep C.N0 C.W0 w v
theorem Nx {P : Program} {f : FuncId} {fn : Func} {body : Code} {As : List Cnt} {r : Ret} {n : Nat} (hf : P.funcs[f]? = some fn) (hb : fn.body = some body) (hm : (fn.name == "runtime.NumGoroutine") = false) (hn : fn.ntmps = n) (hl : As.length <= n)
 (h:AW P n body (λe S=>(e=.ret\/e=.normal)/\oG P n fn S r) (Nw As)) (hn1:Nat.ble n 1000=true:=by rfl):Fn P f As r:=by
 refine⟨⟨fn,hf,hm,by rw[hb];rfl⟩,?_⟩
 intro N0 w vs hN hargs
 refine calls_of_wp hf hb ?_
 have hsz:(vs.toArray++Array.replicate (fn.ntmps-vs.toArray.size) undef).size=n:=by have:=hargs.1;simp;omega
 have hR:R ⟨w,N0,λ_=>False,g0⟩ n (Nw As) { tmps:=vs.toArray++Array.replicate (fn.ntmps-vs.toArray.size) undef,defers:=[] } w:=by
  refine⟨g0,rfl,hsz,aaq hn1,λ_ _=>⟨rfl,rfl⟩,rfl,rfl,rfl,aaf _,λ_ _ _=>rfl,hN,λ_ _ h=>h,λb id e=>by simp[g0]at e,λt=>?_,λid=>trivial⟩
  show crep _ (λ_=>0) g0 w _ ((As[t]?).getD .any)
  cases hA:As[t]? with
  | none=>trivial
  | some c=>
   have ht:t<As.length:=by grind
   have hv:t<vs.length:=by have:=hargs.1;omega
   refine hargs.2 t _ c ?_ hA
   rw[aa7,Array.getElem?_append_left (by simpa using hv)]
   simp[hv]
 refine wp_mono (h.run _ _ _ hR) ?_
 rintro e a' w' ⟨S',⟨he,hres⟩,hr⟩
 obtain⟨v,h1,h2⟩:=hres _ a' w' (λ_ h=>h) hr
 obtain⟨g,hg⟩:=hr
 have hE:bQ w w':=⟨hg.os,hg.tape,hg.output,hg.size,λk hk=>hg.old k hk (λh=>h)⟩
 rcases he with rfl|rfl<;>exact⟨hg.defers,v,h1,v,rfl,hE,h2⟩
