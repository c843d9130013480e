/- Lemmas, walks. -/
import Derived.Test.YtecdgdoledkdfaaGreatJ10
import Derived.Shelf.SlSortCmp.NoneTotal
import Derived.Deep.QuietTactic
import Derived.BigQuiet
set_option maxRecDepth 10000
set_option maxHeartbeats 8000000
namespace Go.Proofs.YtecdgdoledkdfaaGreat
open Go.RowKit Go.Proofs.Tryz
def xG (s:Nat):Nat:=if s % 2=1 then(s / 2) ^^^ 3988292384 else s / 2
def UF:Nat->Nat->Nat
 | 0,s=>s
 | n+1,s=>UF n (xG s)
def Hu (s:Nat)(c:UInt8):Nat:=UF 8 (s ^^^ c.toNat)
def xH (s:Nat)(l:List UInt8):Nat:=l.foldl Hu s
def kM (l:List UInt8):Nat:=xH 4294967295 l ^^^ 4294967295
def gZ (s:Nat):List UInt8:=[UInt8.ofNat s,UInt8.ofNat (s / 256),UInt8.ofNat (s / 65536),UInt8.ofNat (s / 16777216)]
theorem B8 {s:Nat}(h:s<4294967296):xG s<4294967296:=by
 unfold xG
 split
 ·exact Nat.xor_lt_two_pow (n:=32) ae ae
 ·omega
theorem XF:∀(n s:Nat),s<4294967296->UF n s<4294967296:=by
 intro n
 induction n with
 | zero=>intro s h;exact h
 | succ n ih=>intro s h;exact ih _ (B8 h)
theorem JO {s:Nat}(h:s<4294967296)(c:UInt8):Hu s c<4294967296:=by
 have:=c.toNat_lt
 exact XF 8 _ (Nat.xor_lt_two_pow (n:=32) ae ae)
theorem JP:∀(l:List UInt8) {s:Nat},s<4294967296->xH s l<4294967296:=by
 intro l
 induction l with
 | nil=>intro s h;exact h
 | cons c l ih=>intro s h;exact ih (JO h c)
theorem vT (l:List UInt8):kM l<4294967296:=Nat.xor_lt_two_pow (n:=32) (JP l bP) bP
def gj:List UInt8->Nat
 | []=>0
 | c::l=>c.toNat+256*gj l
theorem vU:∀l:List UInt8,gj l<256 ^ l.length:=by
 intro l
 induction l with
 | nil=>simp[gj]
 | cons c l ih=>
  have:=c.toNat_lt
  rw[gj,aaD,Nat.pow_succ]
  omega
theorem PT:∀(a b:List UInt8),gj (a++b)=gj a+2 ^ (8*a.length)*gj b:=by
 intro a
 induction a with
 | nil=>intro b;simp[gj]
 | cons c a ih=>
  intro b
  rw[List.cons_append,gj,gj,ih,aaD,show 8*(a.length+1)=8*a.length+8 by omega,Nat.pow_add,Nat.mul_add,Nat.mul_right_comm]
  grind
theorem PU:∀{a b:List UInt8},a.length=b.length->gj a=gj b->a=b:=by
 intro a
 induction a with
 | nil=>grind
 | cons c a ih=>
  intro b h e
  cases b with
  | nil=>simp at h
  | cons d b=>
   have hc:=c.toNat_lt
   have hd:=d.toNat_lt
   rw[gj,gj]at e
   have e1:c=d:=abg.1 ae
   rw[e1,ih (by simpa using h) ae]
def zm (l:List UInt8):List UInt8:=aO (l.length:Nat)++l
def Tg (l:List UInt8):List UInt8:=zm l++gZ (kM (zm l))
def iz (b:List UInt8):List UInt8×Nat×Int:=
 if(bj b).2.2≠0 then([],0,(bj b).2.2)
 else if 32768<(bj b).1 then([],0,12)
 else if b.length<(bj b).2.1+(bj b).1+4 then([],0,10)
 else if(b.drop ((bj b).2.1+(bj b).1)).take 4=gZ (kM (b.take ((bj b).2.1+(bj b).1)))then((b.drop (bj b).2.1).take (bj b).1,(bj b).2.1+(bj b).1+4,0)
 else([],0,13)
def iA (b:List UInt8):List UInt8×Int:=if(iz b).2.2=0/\(iz b).2.1<b.length then([],14)else((iz b).1,(iz b).2.2)
theorem Ar (s:Nat):(gZ s).length=4:=rfl
theorem vV (l:List UInt8):(zm l).length=(aO (l.length:Nat)).length+l.length:=by grind[zm]
theorem B9 (l:List UInt8):(Tg l).length=(aO (l.length:Nat)).length+l.length+4:=by grind[Tg,vV,Ar]
theorem Y8 (l r:List UInt8)(h:l.length<=32768):bj (aO (l.length:Nat)++r)=(l.length,(aO (l.length:Nat)).length,0):=by
 have:=O7 l.length r ae
 grind[aO]
theorem UG {l x t r:List UInt8}(h:l.length<=32768)(hx:x.length=l.length)(ht:t.length=4) :
 iz (aO (l.length:Nat)++x++t++r)=if t=gZ (kM (aO (l.length:Nat)++x))then(x,(aO (l.length:Nat)).length+l.length+4,0)else([],0,13):=by
 have e0:aO (l.length:Nat)++x++t++r=aO (l.length:Nat)++(x++(t++r)):=aA
 unfold iz
 rw[e0,Y8 l _ h]
 simp only
 rw[aab aA,aab ae,aab (by grind)]
 have e1:((aO (l.length:Nat)++(x++(t++r))).drop ((aO (l.length:Nat)).length+l.length)).take 4=t:=by rw[<-List.drop_drop,List.drop_left,<-hx,List.drop_left,<-ht,List.take_left]
 have e2:(aO (l.length:Nat)++(x++(t++r))).take ((aO (l.length:Nat)).length+l.length)=aO (l.length:Nat)++x:=by rw[<-aal,<-hx,<-aai,List.take_left]
 simp_all
theorem PY {l:List UInt8}(h:l.length<=32768):iA (Tg l)=(l,0):=by
 have e:=UG (l:=l) (x:=l) (t:=gZ (kM (zm l))) (r:=[]) h rfl rfl
 rw[aan]at e
 grind[iA,Tg,zm,Ar]
theorem LC {b:List UInt8}(h:(iA b).2=0):Tg (iA b).1=b/\(iA b).1.length<=32768:=by
 unfold iA at h ⊢
 by_cases c:(iz b).2.2=0/\(iz b).2.1<b.length
 ·rw[aae c]at h;simp at h
 rw[aab c]at h ⊢
 simp only at h ⊢
 have c:b.length<=(iz b).2.1:=by grind
 unfold iz at h c ⊢
 by_cases c1:(bj b).2.2≠0
 ·rw[aae c1]at h;exact absurd h c1
 rw[aab c1]at h c ⊢
 by_cases c2:32768<(bj b).1
 ·rw[aae c2]at h;simp at h
 rw[aab c2]at h c ⊢
 by_cases c3:b.length<(bj b).2.1+(bj b).1+4
 ·rw[aae c3]at h;simp at h
 rw[aab c3]at h c ⊢
 by_cases c4:¬(b.drop ((bj b).2.1+(bj b).1)).take 4=gZ (kM (b.take ((bj b).2.1+(bj b).1)))
 ·rw[aab c4]at h;simp at h
 replace c4:=aaG.1 c4
 rw[aae c4]at h c ⊢
 simp only at c ⊢
 obtain⟨h1,h2,h3,h4⟩:=BS (l:=b) (by simpa using c1)
 have hl:((b.drop (bj b).2.1).take (bj b).1).length=(bj b).1:=by rw[aaK,abe];omega
 refine⟨?_,by rw[hl];omega⟩
 have e1:zm ((b.drop (bj b).2.1).take (bj b).1)=b.take ((bj b).2.1+(bj b).1):=by simp_all[zm,List.take_add,aO]
 unfold Tg
 rw[e1,<-c4]
 have:(b.drop ((bj b).2.1+(bj b).1)).take 4=b.drop ((bj b).2.1+(bj b).1):=aaj (by rw[abe];omega)
 rw[this,aa0]
structure Msg where
 kind:Int:=0
 ses:Int:=0
 num:Int:=0
 lim:Int:=0
 seed:Int:=0
 bits:Int:=0
 nxt:Int:=0
 err:Int:=0
 wants:Bool:=false
 same:Bool:=false
 last:Bool:=false
 flt:List Rg:=[]
 know:List Pc:=[]
 there:List UInt8:=[]
 rg:Rg:=⟨⟨#[]⟩,⟨#[]⟩,false⟩
 sum:Nat:=0
 its:List It:=[]
def Au:List It->Bool
 | []=>true
 | x::l=>dA x&&(!(l.any λy=>decide (y.key=x.key))&&Au l)
def bU (n:Int):Bool:=decide (0<=n/\n<=281474976710656)
def lK (m:Msg):Bool:=
 decide (1<=m.ses)&&bU m.ses&&bU m.num &&
 (if m.kind=1 then bU m.lim&&bU m.seed&&decide (0<=m.bits/\m.bits<=64)&&decide (bT m.flt)&&decide (aY m.know)&&(decide (m.there=[])||decide ((mn m.there).2=0))
 else if m.kind=3 then bU m.nxt
 else if m.kind=4 then gg m.rg
 else if m.kind=5 then bU m.nxt&&decide (m.its.length<=4096)&&Au m.its&&decide (aY m.know)&&(m.last||decide (m.know=[]))
 else decide (m.kind=2)||(decide (m.kind=6)&&decide (1<=m.err)&&bU m.err))
def jq (b:Bool):Int:=if b then 1 else 0
def da (m:Msg):List Int:=[m.kind,m.ses,m.num] ++
 (if m.kind=1 then [m.lim,m.seed,m.bits,jq m.wants]else if m.kind=2 then [jq m.same]else if m.kind=3 then [m.nxt]else if m.kind=5 then [m.nxt,jq m.last]else if m.kind=6 then [m.err]else [])
def C1 (s:Nat):List UInt8:=(List.range 8).map λi=>UInt8.ofNat (s / 256 ^ i)
def ew (m:Msg):List (List UInt8):=
 if m.kind=1 then [fc m.flt,eu m.know,m.there]else if m.kind=4 then [fc [m.rg],C1 m.sum]else if m.kind=5 then [fR m.its,eu m.know]else []
def txB (l:List UInt8):List UInt8:=bi ⟨l.toArray⟩
def gM (m:Msg):List UInt8:=(da m).flatMap aO++(ew m).flatMap txB
def eV (m:Msg):List UInt8×Int:=if lK m then(if(gM m).length<=32768 then(Tg (gM m),0)else([],12))else([],2)
def pg (m:Msg):Msg:=
 if m.kind=1 then { kind:=1,ses:=m.ses,num:=m.num,lim:=m.lim,seed:=m.seed,bits:=m.bits,wants:=m.wants,flt:=m.flt,know:=m.know,there:=m.there }
 else if m.kind=2 then { kind:=2,ses:=m.ses,num:=m.num,same:=m.same }
 else if m.kind=3 then { kind:=3,ses:=m.ses,num:=m.num,nxt:=m.nxt }
 else if m.kind=4 then { kind:=4,ses:=m.ses,num:=m.num,rg:=m.rg,sum:=m.sum }
 else if m.kind=5 then { kind:=5,ses:=m.ses,num:=m.num,nxt:=m.nxt,last:=m.last,its:=m.its,know:=m.know }
 else if m.kind=6 then { kind:=6,ses:=m.ses,num:=m.num,err:=m.err }
 else { kind:=m.kind,ses:=m.ses,num:=m.num }
abbrev Hv:Int:=281474976710656
def bM (l:List UInt8):Msg×List UInt8×Int:=
 let a:=af 1 6 l 0
 let b:=af 1 Hv a.2.1 a.2.2
 let c:=bI b.2.1 b.2.2
 ({ kind:=a.1,ses:=b.1,num:=c.1 },c.2.1,c.2.2)
def d7 (m:Msg)(l:List UInt8)(e:Int):Msg×List UInt8×Int:=
 if m.kind=1 then
  let a:=bI l e
  let b:=bI a.2.1 a.2.2
  let c:=af 0 64 b.2.1 b.2.2
  let d:=af 0 1 c.2.1 c.2.2
  ({ m with lim:=a.1,seed:=b.1,bits:=c.1,wants:=d.1==1 },d.2.1,d.2.2)
 else if m.kind=2 then
  let a:=af 0 1 l e
  ({ m with same:=a.1==1 },a.2.1,a.2.2)
 else if m.kind=3 then
  let a:=bI l e
  ({ m with nxt:=a.1 },a.2.1,a.2.2)
 else if m.kind=5 then
  let a:=bI l e
  let b:=af 0 1 a.2.1 a.2.2
  ({ m with nxt:=a.1,last:=b.1==1 },b.2.1,b.2.2)
 else if m.kind=6 then
  let a:=af 1 Hv l e
  ({ m with err:=a.1 },a.2.1,a.2.2)
 else(m,l,e)
def gu:Nat->List UInt8->Int->List (List UInt8)×List UInt8×Int
 | 0,l,e=>([],l,e)
 | n+1,l,e=>
  let a:=bm Hv l e
  let b:=gu n a.2.1 a.2.2
  (a.1::b.1,b.2.1,b.2.2)
def gv (k:Int):Nat:=if k=1 then 3 else if k=4\/k=5 then 2 else 0
def XG (l:List UInt8):Nat:=gj l
def dx (m:Msg)(p:List (List UInt8)):Msg×Int:=
 if m.kind=1 then
  let f:=dM (p.getD 0 [])
  if f.2≠0 then(m,f.2)else
  let k:=dI (p.getD 1 [])
  if k.2≠0 then(m,k.2)else({ m with flt:=f.1,know:=k.1,there:=p.getD 2 [] },0)
 else if m.kind=4 then
  let f:=dM (p.getD 0 [])
  if f.2≠0 then(m,f.2)else if f.1.length=1/\(p.getD 1 []).length=8 then({ m with rg:=f.1.getD 0 ⟨⟨#[]⟩,⟨#[]⟩,false⟩,sum:=XG (p.getD 1 []) },0)else(m,11)
 else if m.kind=5 then
  let f:=dF (p.getD 0 [])
  if f.2≠0 then(m,f.2)else
  let k:=dI (p.getD 1 [])
  if k.2≠0 then(m,k.2)else({ m with its:=f.1,know:=k.1 },0)
 else(m,0)
def vW (l:List UInt8):Msg×Int:=
 let a:=bM l
 let b:=d7 a.1 a.2.1 a.2.2
 let c:=gu (gv b.1.kind) b.2.1 b.2.2
 if dg c.2.1 c.2.2≠0 then({},dg c.2.1 c.2.2)else
 let d:=dx b.1 c.1
 if d.2≠0 then({},d.2)else if lK d.1 then(d.1,0)else({},11)
def lW (b:List UInt8):Msg×Int:=if(iA b).2≠0 then({},(iA b).2)else vW (iA b).1
end Go.Proofs.YtecdgdoledkdfaaGreat
namespace Go.Proofs.YtecdgdoledkdfaaGreat
open Go.RowKit Go.Shelf Go.Proofs.Tryz
def Gw (w w':World):Prop:=∃(q:Nat)(os:Array Obj),w'=Sort.grow (w.drewN q) os
theorem Gw.refl (w:World):Gw w w:=⟨0,#[],by simp[World.drewN]⟩
theorem Gw.drewN {w w':World}(h:Gw w w')(n:Nat):Gw w (w'.drewN n):=by
 obtain⟨q,os,rfl⟩:=h
 exact⟨q+n,os,by grind[World.drewN,Sort.grow]⟩
theorem Gw.drew {w w':World}(h:Gw w w'):Gw w w'.drew:=h.drewN 1
theorem Gw.alloc {w w':World}(h:Gw w w')(o:Obj):Gw w (w'.alloc o):=by
 obtain⟨q,os,rfl⟩:=h
 exact⟨q,os++#[o],by rw[Sort.alloc_eq_grow,Sort.grow_grow]⟩
theorem Gw.trans {a b c:World}(h:Gw a b)(k:Gw b c):Gw a c:=by
 obtain⟨q,os,rfl⟩:=h
 obtain⟨q',os',rfl⟩:=k
 exact⟨q+q',os++os',by grind[World.drewN,Sort.grow]⟩
theorem EA {β:Type}(d:Array β):d.extract 0 d.size=d:=aA
def ln {α:Type}[Inhabited α](cf:α->α->Int)(l:List α):List α:=(Sort.pdq (ltOf cf) l.toArray 0 l.length (Lib.bitLen l.length) true true).toList
section
variable {α:Type} [Inhabited α] {cf:α->α->Int}
theorem jP (hO:Sort.SWO (ltOf cf))(l:List α):(ln cf l).Perm l/\(ln cf l).Pairwise (λx y=>ltOf cf y x=false):=by
 have h:=Sort.pdq_sorts (ltOf cf) hO l.toArray 0 l.length (Lib.bitLen l.length) true true (aag _) aA (Or.inl rfl)
 unfold ln
 generalize Sort.pdq (ltOf cf) l.toArray 0 l.length (Lib.bitLen l.length) true true=d at h
 obtain⟨⟨h1,_,h3⟩,h4⟩:=h
 have hs:d.size=l.length:=by simpa using h1
 have e1:d.extract 0 l.length=d:=by rw[<-hs];exact EA d
 have e2:(l.toArray).extract 0 l.length=l.toArray:=aA
 rw[e1,e2]at h3
 refine⟨by simpa using h3,?_⟩
 rw[List.pairwise_iff_getElem]
 intro i j hi hj hij
 have:=h4 i j (aag _) hij (by rw[<-hs];simpa using hj)
 rw[getElem!_pos d j (by simpa using hj),getElem!_pos d i (by simpa using hi)]at this
 simpa using this
theorem qg (hO:Sort.SWO (ltOf cf))(l:List α):(ln cf l).length=l.length:=(jP hO l).1.length_eq
end
section
variable {P:Program}
theorem EB {α:Type}{F G:FuncId}{k e:Nat}{enc:α->List Value}(hE:Jj k enc){l l':List α}(hlen:l'.length=l.length)(hent:Wd P F)
 (hnil:∀w,Calls P F #[.slice none 0 0,.func (.func G) #[] #[]] w λe w'=>e=.returned (.tuple #[])/\w'=w)
 (hrun:∀(b cap:Nat)(w:World),b<w.heap.size->(∀i x,l[i]?=some x->∀j v,(enc x)[j]?=some v->w.cell? ⟨b,i*k+j,none⟩=some v/\w.frozen? ⟨b,i*k+j,none⟩=false) ->
   Calls P F #[.slice (some ⟨b,0,none⟩) l.length cap,.func (.func G) #[] #[]] w λe w'=>e=.returned (.tuple #[])/\∃(n:Nat)(os:Array Obj)(f:Array Value->Array Value),w'=Sort.grow (Sort.mapBlock (Sort.ahead w n) b f) os /\
    ∀cs:Array Value,(f cs).size=cs.size/\∀i x,l'[i]?=some x->∀j v,(enc x)[j]?=some v->i*k+j<cs.size->(f cs)[i*k+j]?=some v) :
 bZ P F [.row 1000 0,.per (ai (.func (.func G) #[] #[]))] [(1000,.row e k (l.map (fH enc)))] .any [(1000,.row e k (l'.map (fH enc)))]:=by
 refine⟨hent,?_⟩
 intro C w vs hW hN hO hvl hvs hb
 obtain⟨v0,v1,rfl⟩:∃v0 v1,vs=[v0,v1]:=by match vs,hvl with|[a,b],_=>exact⟨a,b,rfl⟩
 have h0:=hvs 0 v0 _ rfl rfl
 have h1:=hvs 1 v1 _ rfl rfl
 have e1:v1=.func (.func G) #[] #[]:=h1
 have e0:v0=C.G0.rh 1000:=h0.2 rfl
 subst e0 e1
 have other:∀(l:List α) id,id≠1000->fb id [(1000,Blk.row e k (l.map (fH enc)))]=.none:=λl id h=>by grind[fb,f8]
 have this1:∀(l:List α),fb 1000 [(1000,Blk.row e k (l.map (fH enc)))]=.row e k (l.map (fH enc)):=λl=>rfl
 have hrow:=hb 1000
 rw[this1]at hrow
 rcases hrow with⟨q1,q2⟩|⟨cap,cs,q1,q2,q3,q4,q5,q6,q7⟩
 ·have hl0:l=[]:=by simpa using q2
  have hl0':l'=[]:=aax (by rw[hlen,hl0];rfl)
  rw[q1]
  refine(hnil w).mono ?_
  rintro e' w' ⟨rfl,rfl⟩
  refine⟨_,C.G0,rfl,⟨rfl,rfl,rfl,aaf _,λ_ _ _=>rfl,λb id h=>⟨(hO b id h).1,.inr (hO b id h).2⟩,λ_ _=>⟨rfl,rfl⟩⟩,trivial,λid=>?_⟩
  by_cases hid:id=1000
  all_goals grind
 ·rw[aad]at q1 q4
  obtain⟨b,hb0⟩:∃b,b=C.G0.ph 1000:=⟨_,rfl⟩
  rw[<-hb0]at q1 q2 q3
  have hbl:=hO b 1000 q3
  have hcells:∀i x,l[i]?=some x->∀j v,(enc x)[j]?=some v->w.cell? ⟨b,i*k+j,none⟩=some v/\w.frozen? ⟨b,i*k+j,none⟩=false:=by
   intro i x hi j v hj
   obtain⟨_,g⟩:=q7 i (fH enc x) (by rw[List.getElem?_map,hi];rfl)
   obtain⟨y,y1,_,y3⟩:=g j (ai v) (by grind[fH])
   have y3:y=v:=y3
   grind[World.cell?,World.frozen?]
  rw[q1]
  refine(hrun b cap w hbl.1 hcells).mono ?_
  rintro e' w' ⟨rfl,n,os,f,rfl,hf⟩
  have hblock:∀b',b'<w.heap.size->b'≠b->(Sort.grow (Sort.mapBlock (Sort.ahead w n) b f) os).heap[b']?=w.heap[b']?:=λb' h h'=>by
   show((w.heap.modify b (Sort.onCells f))++os)[b']?=_
   rw[Array.getElem?_append_left (by simpa using h),Array.getElem?_modify,aab (Ne.symm h')]
  have hthis:(Sort.grow (Sort.mapBlock (Sort.ahead w n) b f) os).heap[b]?=some (.cells (f cs) e (0,0)):=by
   show((w.heap.modify b (Sort.onCells f))++os)[b]?=_
   rw[Array.getElem?_append_left (by simpa using hbl.1),Array.getElem?_modify,aae rfl,q2]
   rfl
  have hsz:w.heap.size<=(Sort.grow (Sort.mapBlock (Sort.ahead w n) b f) os).heap.size:=by grind
  refine⟨_,C.G0,rfl,⟨rfl,rfl,rfl,hsz,λb' h h'=>hblock b' h (λe=>h' (e▸hbl.2)),λb' id h=>⟨aa4 (hO b' id h).1 hsz,.inr (hO b' id h).2⟩,λ_ _=>⟨rfl,rfl⟩⟩,trivial,λid=>?_⟩
  by_cases hid:id=1000
  ·subst hid
   obtain⟨f1,f2⟩:=hf cs
   refine .inr ⟨cap,f cs,?_,?_,?_,by simpa[hlen]using q4,q5,by rw[f1];exact q6,?_⟩
   ·rw[<-hb0,aad,hlen];exact q1
   ·rw[<-hb0];exact hthis
   ·rw[<-hb0];exact q3
   ·intro i ps hi
    rw[List.getElem?_map]at hi
    obtain⟨x,hx,rfl⟩:=Option.map_eq_some_iff.1 hi
    refine⟨by simp[fH,hE.len],λj A hj=>?_⟩
    unfold fH at hj
    rw[List.getElem?_map]at hj
    obtain⟨v,hv,rfl⟩:=Option.map_eq_some_iff.1 hj
    have hj':j<k:=by rw[<-hE.len x];grind
    have hi':i<l'.length:=(aaM.1 hx).1
    have hlt:i*k+j<cs.size:=by
     rw[q6]
     have h2:(i+1)*k<=cap*k:=aaT k ae
     rw[Nat.add_mul,Nat.one_mul]at h2
     omega
    exact⟨v,f2 i x hx j v hv hlt,hE.one x v (aa3 hv),rfl⟩
  ·rw[other _ _ hid];trivial
theorem JQ {i j k:Nat}(h:j<k):(i*k+j) / k=i/\(i*k+j) % k=j:=by grind[Nat.add_mul_div_right,Nat.div_eq_of_lt,Nat.add_mul_mod_self_right,Nat.mod_eq_of_lt]
theorem put_get {β:Type}[Inhabited β](en:β->Value)(F:Array β)(cs:Array Value)(t:Nat)(h:t<cs.size)(hF:t<F.size):(Sort.putCells en 0 F cs)[t]?=some (en F[t]!):=by grind[Sort.putCells]
theorem uo {β:Type}[Inhabited β](en:β->Value)(F:Array β)(cs:Array Value):(Sort.putCells en 0 F cs).size=cs.size:=by unfold Sort.putCells;simp
theorem uq {α:Type}[Inhabited α]{ρ:Ren}{G k e:Nat}(L:SlLaysF0.n6 P ρ)(aE:∀w,(isAgg (ρ.t 24)).run P w=.ok true w)(zE:∀w,(Go.sizeOf (ρ.t 24)).run P w=.ok k w){enc:α->List Value}(hE:Jj k enc)
 {cf:α->α->Int} (hO:Sort.SWO (ltOf cf)) (eg:∀args w,(callFunc G args).run P w=.ok (.enter G args) w)
 (hc:∀x y w,Calls P G #[.agg (enc x).toArray,.agg (enc y).toArray] w λe w'=>e=.returned (.int .i64 (cf x y))/\Gw w w') (hent:Wd P (ρ.f 6)) (l:List α) (hl:l.length<4611686018427387904) :
 bZ P (ρ.f 6) [.row 1000 0,.per (ai (.func (.func G) #[] #[]))] [(1000,.row e k (l.map (fH enc)))] .any [(1000,.row e k ((ln cf l).map (fH enc)))]:=by
 refine EB hE (qg hO l) hent (λw=>AnyF.slices_SortFunc_none L none 0 _ w) ?_
 intro b cap w hb hcells
 have hH:Sort.HoldsK enc k w b 0 l.toArray:=by
  intro t ht
  rw[Sort.size_flatK]at ht
  have hk:0<k:=hE.pos
  have hi:t / k<l.length:=Nat.div_lt_of_lt_mul (by rw[Nat.mul_comm];simpa using ht)
  have hj:t % k<(enc (l[t / k])).length:=by rw[hE.len];exact abB _ hk
  have h1:=hcells (t / k) l[t / k] (aaa hi) (t % k) _ (aaa hj)
  rw[Sort.get_flatK _ _ _ _ ht,aaJ,show t / k*k+t % k=t from by rw[Nat.mul_comm];exact Nat.div_add_mod t k]at *
  rw[getElem!_pos l.toArray (t / k) (by simpa using hi),List.getElem_toArray,getElem!_pos _ (t % k) hj]
  exact h1
 have hcmp:CmpLays P G #[] enc k cf b 0 l.toArray.size w:=λm os dk _ x y=>hc x y _
 have:=AnyQ.slices_SortFunc_eq (P:=P) (ρ:=ρ) L k aE zE enc hE.len hE.one cf hO G #[] b 0 cap l.toArray w eg hcmp hH hb (by simpa using hl)
 rw[aaV]at this
 refine this.mono ?_
 rintro e' w' ⟨he,n,os,hw⟩
 have hs:=qg hO l
 unfold ln at hs ⊢
 generalize Sort.pdq (ltOf cf) l.toArray 0 l.length (Lib.bitLen l.length) true true=d at *
 rw[abp]at hs
 refine⟨he,n,os,Sort.putCells id 0 (Sort.flatK enc k d),hw,λcs=>⟨uo _ _ _,λi x hi j v hj hlt=>?_⟩⟩
 have hj':j<k:=by rw[<-hE.len x];grind
 have hi':i<d.size:=by grind
 have hlt':i*k+j<d.size*k:=by
  have:=aaT k (show i+1<=d.size from hi')
  rw[Nat.add_mul,Nat.one_mul]at this
  omega
 rw[put_get _ _ _ _ hlt (by rw[Sort.size_flatK];exact hlt'),Sort.get_flatK _ _ _ _ hlt',(JQ hj').1,(JQ hj').2]
 grind
theorem LD {α:Type}[Inhabited α]{ρ:Ren}{G e:Nat}(L:SlLaysF.n6 P ρ){enc:α->Value}(hE:OneCell enc)
 {cf:α->α->Int} (hO:Sort.SWO (ltOf cf)) (eg:∀args w,(callFunc G args).run P w=.ok (.enter G args) w)
 (hc:∀x y w,Calls P G #[enc x,enc y] w λe w'=>e=.returned (.int .i64 (cf x y))/\Gw w w') (hent:Wd P (ρ.f 6)) (l:List α) (hl:l.length<4611686018427387904) :
 bZ P (ρ.f 6) [.row 1000 0,.per (ai (.func (.func G) #[] #[]))] [(1000,.row e 1 (l.map (fH λx=>[enc x])))] .any [(1000,.row e 1 ((ln cf l).map (fH λx=>[enc x])))]:=by
 refine EB (enc:=λx=>[enc x]) ⟨bP,λ_=>rfl,λx v hv=>by simp at hv;subst hv;exact hE x⟩ (qg hO l) hent (λw=>AnyF.slices_SortFunc_none { L with } none 0 _ w) ?_
 intro b cap w hb hcells
 have hH:Sort.Holds enc w b 0 l.toArray:=by
  intro t ht
  have hi:t<l.length:=by simpa using ht
  have h1:=hcells t l[t] (aaa hi) 0 _ rfl
  rw[abF,abo]at h1
  rw[getElem!_pos l.toArray t (by simpa using hi),List.getElem_toArray,aaJ]
  exact h1
 have hcmp:CmpLays1 P G #[] enc cf b 0 l.toArray.size w:=λm os dk _ x y=>hc x y _
 have:=Any.slices_SortFunc_eq (P:=P) (ρ:=ρ) L enc hE cf hO G #[] b 0 cap l.toArray w eg hcmp hH hb (by simpa using hl)
 rw[aaV]at this
 refine this.mono ?_
 rintro e' w' ⟨he,n,os,hw⟩
 have hs:=qg hO l
 unfold ln at hs ⊢
 generalize Sort.pdq (ltOf cf) l.toArray 0 l.length (Lib.bitLen l.length) true true=d at *
 rw[abp]at hs
 refine⟨he,n,os,Sort.putCells enc 0 d,hw,λcs=>⟨uo _ _ _,λi x hi j v hj hlt=>?_⟩⟩
 grind[put_get]
end
theorem EC (s t:ByteArray)(hs:s.size<=1000000000000)(w:World) :
 Calls prog 119 #[.string s,.string t] w λe w'=>e=.returned (.int .i64 (cG s t))/\Gw w w':=by
 have HR:Hid (dZ s.data.toList t.data.toList=cG s t):=Lib.hid rfl
 have es:s.data.toList.length=s.size:=aA
 have et:t.data.toList.length=t.size:=aA
 generalize hR:cG s t=R at *
 clear hR
 go_enter func119,ntmps119
 go_wp2
 go_loopw [11] (λi wr=>∃k:Nat,k<=s.size/\k<=t.size/\i=.int .i64 k/\Hid (dZ (s.data.toList.drop k) (t.data.toList.drop k)=R)/\Gw w wr) (λi _=>s.size-(intOf i).toNat)
 case atStart=>exact⟨0,aag _,aag _,rfl,Lib.hid (by simpa using HR.out),Gw.refl _⟩
 case round=>
  obtain⟨k,hk,hk',rfl,HK,hx⟩:=hrel
  clear HR
  by_cases hlt:k<s.size/\k<t.size
  ·obtain⟨h1,h2⟩:=hlt
   have HS:Hid (dZ (s.data.toList.drop k) (t.data.toList.drop k)=if(s[k]'h1).toNat<(t[k]'h2).toNat then -1 else if(t[k]'h2).toNat<(s[k]'h1).toNat then 1 else dZ (s.data.toList.drop (k+1)) (t.data.toList.drop (k+1))):=
    Lib.hid (uc s.data.toList t.data.toList k ae ae)
   by_cases c1:(s[k]'h1).toNat<(t[k]'h2).toNat
   ·have HE:Hid (R = -1):=Lib.hid (by rw[<-HK.out,HS.out,aae c1])
    go_wp2
    go_quiet (fail)
    go_wp2
    go_ret
    exact⟨gD (ku HE.out.symm),hx.drewN _⟩
   ·by_cases c2:(t[k]'h2).toNat<(s[k]'h1).toNat
    ·have HE:Hid (R=1):=Lib.hid (by rw[<-HK.out,HS.out,aab c1,aae c2])
     go_wp2
     go_quiet (fail)
     go_wp2
     go_quiet (fail)
     go_wp2
     go_ret
     exact⟨gD (ku HE.out.symm),by first|exact hx.drewN _|exact(hx.drewN _).drewN _⟩
    ·have HE:Hid (dZ (s.data.toList.drop (k+1)) (t.data.toList.drop (k+1))=R):=Lib.hid (by rw[<-HK.out,HS.out,aab c1,aab c2])
     go_wp2
     go_quiet (fail)
     go_wp2
     go_quiet (fail)
     go_wp2
     go_roundw
     case rel=>exact⟨k+1,ae,ae,by go_num,HE,hx.drewN _⟩
     case measure=>simp[intOf];omega
  ·have HS:=Lib.hid (wV s.data.toList t.data.toList k ae ae ae)
   by_cases c1:s.size<t.size
   ·have HE:Hid (R = -1):=Lib.hid (by rw[<-HK.out,HS.out,aae ae])
    go_wp2
    go_ret
    exact⟨gD (ku HE.out.symm),hx⟩
   ·by_cases c2:t.size<s.size
    ·have HE:Hid (R=1):=Lib.hid (by rw[<-HK.out,HS.out,aab ae,aae ae])
     go_wp2
     go_ret
     exact⟨gD (ku HE.out.symm),hx⟩
    ·have HE:Hid (R=0):=Lib.hid (by rw[<-HK.out,HS.out,aab ae,aab ae])
     go_wp2
     go_ret
     exact⟨gD (ku HE.out.symm),hx⟩
end Go.Proofs.YtecdgdoledkdfaaGreat
namespace Go.Proofs.YtecdgdoledkdfaaGreat
open Go.RowKit Go.Proofs.Tryz
theorem JR:∀(a b:List UInt8),dZ b a = - dZ a b/\(dZ a b=0->a=b):=by
 intro a
 induction a with
 | nil=>intro b;cases b<;>simp[dZ]
 | cons x a ih=>
  intro b
  cases b with
  | nil=>simp[dZ]
  | cons y b=>
   obtain⟨h1,h2⟩:=ih b
   simp only[dZ]
   refine⟨?_,?_⟩
   ·rcases abG x.toNat y.toNat with q|q|q
    ·rw[aab ae,aae q,aae q];rfl
    ·rw[aab ae,aab ae,aab ae,aab ae];exact h1
    ·rw[aae q,aab ae,aae q]
   ·split
    ·intro h;omega
    ·split
     ·intro h;omega
     ·intro h
      rw[h2 h,abg.1 (show x.toNat=y.toNat by omega)]
theorem Wv:∀(a b c:List UInt8),dZ a a=0/\(dZ a b<=0->dZ b c<=0->dZ a c<=0):=by
 intro a
 induction a with
 | nil=>intro b c;cases b<;>cases c<;>simp[dZ]
 | cons x a ih=>
  intro b c
  refine⟨by simp[dZ,(ih a a).1],?_⟩
  cases b with
  | nil=>cases c<;>simp[dZ]
  | cons y b=>
   cases c with
   | nil=>simp[dZ]
   | cons z c=>
    obtain⟨_,h1⟩:=ih b c
    simp only[dZ]
    intro q1 q2
    split at q1
    ·split at q2
     ·rw[aae ae];decide
     ·split at q2
      ·omega
      ·rw[aae ae];decide
    ·split at q1
     ·omega
     ·split at q2
      ·rw[aae ae];decide
      ·split at q2
       ·omega
       ·rw[aab ae,aab ae];exact h1 q1 q2
instance oLE:LE ByteArray:=⟨λs t=>cG s t<=0⟩
instance oLT:LT ByteArray:=⟨λs t=>cG s t<0⟩
instance aaO (s t:ByteArray):Decidable (s<t):=inferInstanceAs (Decidable (cG s t<0))
instance aaP (s t:ByteArray):Decidable (s<=t):=inferInstanceAs (Decidable (cG s t<=0))
theorem Hw (s t:ByteArray):cG t s = - cG s t:=(JR _ _).1
theorem xI (s:ByteArray):cG s s=0:=(Wv _ [] []).1
theorem Y9 (s t:ByteArray):cG s t=0↔s=t:=by
 refine⟨λh=>?_,λh=>h▸xI s⟩
 have:=(JR s.data.toList t.data.toList).2 h
 exact ByteArray.ext (Array.toList_inj.1 this)
theorem ED (s t:ByteArray):cG s t<=0↔s<=t:=Iff.rfl
theorem iP (s t:ByteArray):cG s t<0↔s<t:=Iff.rfl
instance aaQ:Std.IsLinearOrder ByteArray where
 le_refl a:=(ED _ _).1 (Int.le_of_eq (xI a))
 le_trans a b c h1 h2:=(Wv _ _ _).2 h1 h2
 le_antisymm a b h1 h2:=(Y9 a b).1 (Int.le_antisymm h1 (by have:=(ED b a).2 h2;rw[Hw]at this;omega))
 le_total a b:=by rw[<-ED,<-ED,Hw a b];omega
instance aaR:Std.LawfulOrderLT ByteArray where
 lt_iff a b:=by rw[<-ED,<-ED,<-iP,Hw a b];omega
def gw (l:List Rn)(n:Int):Prop:=∃r∈l,jN r=true/\r.fr<=n/\n<=r.to
theorem jr (n:Int):¬gw [] n:=λ⟨_,h,_⟩=>by cases h
theorem d9 (x:Rn)(l:List Rn)(n:Int):gw (x::l) n↔(jN x=true/\x.fr<=n/\n<=x.to)\/gw l n:=by
 constructor
 ·rintro⟨r,hr,h⟩
  rcases aaU.1 hr with rfl|hr
  ·exact .inl h
  ·exact .inr ⟨r,hr,h⟩
 ·rintro(h|⟨r,hr,h⟩)
  ·exact⟨x,aa1,h⟩
  ·exact⟨r,aaY _ hr,h⟩
theorem sy (l m:List Rn)(n:Int):gw (l++m) n↔gw l n\/gw m n:=by induction l<;>grind[jr,d9]
theorem Av {l m:List Rn}(h:∀r,r∈l↔r∈m)(n:Int):gw l n↔gw m n:=
 ⟨λ⟨r,hr,q⟩=>⟨r,(h r).1 hr,q⟩,λ⟨r,hr,q⟩=>⟨r,(h r).2 hr,q⟩⟩
theorem ve (l:List Rn)(n:Int):gw (l.filter jN) n↔gw l n:=
 ⟨λ⟨r,hr,q⟩=>⟨r,(abt.1 hr).1,q⟩,λ⟨r,hr,q⟩=>⟨r,abt.2 ⟨hr,q.1⟩,q⟩⟩
theorem EE {l:List Rn}{n:Int}(h:gw l n):1<=n/\n<=1099511627776:=by
 obtain⟨r,_,h1,h2,h3⟩:=h
 have:=(cK r).1 h1
 omega
theorem Aw:ef []:=λi hi=>by simp at hi
theorem jQ (x:Rn)(l:List Rn):ef (x::l)↔jN x=true/\(∀y,l.head?=some y->x.to+2<=y.fr)/\ef l:=by
 constructor
 ·intro h
  refine⟨(h 0 aA aA).1,λy hy=>?_,λi hi hi'=>?_⟩
  ·cases l with
   | nil=>cases hy
   | cons z l=>
    cases hy
    have:=(h 1 aA aA).2 ae
    simpa using this
  ·have h1:=h (i+1) (by simpa using hi) (by simpa using hi)
   simp only[List.getElem_cons_succ,aa8]at h1
   refine⟨h1.1,λh0=>?_⟩
   have h2:=h1.2 ae
   grind
 ·rintro⟨h1,h2,h3⟩ i hi hi'
  cases i with
  | zero=>grind
  | succ i=>
   have h4:=h3 i (by simpa using hi) (by simpa using hi)
   simp only[List.getElem_cons_succ,aa8]
   refine⟨h4.1,λ_=>?_⟩
   cases i with
   | zero=>
    cases l<;>grind
   | succ i=>
    have:=h4.2 ae
    simpa using this
theorem qh {x:Rn}{l:List Rn}(h:ef (x::l)){n:Int}(hn:gw l n):x.to+2<=n:=by induction l generalizing x<;>grind[jr,jQ,cK,d9]
theorem xJ:∀{l m:List Rn},ef l->ef m->(∀n,gw l n↔gw m n)->l=m:=by
 intro l
 induction l with
 | nil=>
  intro m _ hm h
  cases m with
  | nil=>rfl
  | cons y m=>
   have hy:=((jQ _ _).1 hm).1
   have hy':=(cK y).1 hy
   exact absurd ((h y.fr).2 ((d9 _ _ _).2 (.inl ⟨hy,ae,ae⟩))) (jr _)
 | cons x l ih=>
  intro m hl hm h
  obtain⟨hx,_,hl'⟩:=(jQ _ _).1 hl
  have hx':=(cK x).1 hx
  cases m with
  | nil=>grind[d9,jr]
  | cons y m=>
   obtain⟨hy,_,hm'⟩:=(jQ _ _).1 hm
   have hy':=(cK y).1 hy
   have lowl:∀n,gw (x::l) n->x.fr<=n/\(n<=x.to\/x.to+2<=n):=λn hn=>by
    rcases(d9 _ _ _).1 hn with q|q
    ·omega
    ·have:=qh hl q;omega
   have lowm:∀n,gw (y::m) n->y.fr<=n/\(n<=y.to\/y.to+2<=n):=λn hn=>by
    rcases(d9 _ _ _).1 hn with q|q
    ·omega
    ·have:=qh hm q;omega
   have inl:∀n,x.fr<=n->n<=x.to->gw (x::l) n:=λn a b=>(d9 _ _ _).2 (.inl ⟨hx,a,b⟩)
   have inm:∀n,y.fr<=n->n<=y.to->gw (y::m) n:=λn a b=>(d9 _ _ _).2 (.inl ⟨hy,a,b⟩)
   have e1:x.fr=y.fr:=by
    have a:=lowm _ ((h x.fr).1 (inl _ ae ae))
    have b:=lowl _ ((h y.fr).2 (inm _ ae ae))
    omega
   have e2:x.to=y.to:=by
    rcases Int.lt_trichotomy x.to y.to with q|q|q
    ·have:=lowl _ ((h (x.to+1)).2 (inm _ ae ae));omega
    ·exact q
    ·have:=lowm _ ((h (y.to+1)).1 (inl _ ae ae));omega
   have e:x=y:=by cases x;simp_all
   subst e
   rw[ih hl' hm' (λn=>?_)]
   constructor
   ·intro q
    have:=qh hl q
    grind[d9]
   ·intro q
    have:=qh hm q
    grind[d9]
def Gl:Rn->List Rn->List Rn
 | c,[]=>[c]
 | c,r::l=>if r.fr-c.to<2 then Gl ⟨c.fr,max c.to r.to⟩ l else c::Gl r l
def mr:List Rn->List Rn
 | []=>[]
 | x::l=>Gl x l
theorem PZ:∀(l:List Rn)(c:Rn),∃z t,Gl c l=z::t/\z.fr=c.fr:=by
 intro l
 induction l with
 | nil=>intro c;exact⟨c,[],rfl,rfl⟩
 | cons r l ih=>
  intro c
  rw[Gl]
  split
  all_goals simp_all
def zn (l:List Rn):Prop:=l.Pairwise (λa b=>a.fr<=b.fr)
theorem XH:∀(l:List Rn)(c:Rn),zn (c::l)->(∀r∈c::l,jN r=true)->ef (Gl c l)/\∀n,gw (Gl c l) n↔gw (c::l) n:=by
 intro l
 induction l with
 | nil=>
  intro c _ h
  exact⟨(jQ c []).2 ⟨h c aA,λy hy=>by simp at hy,Aw⟩,λn=>Iff.rfl⟩
 | cons r l ih=>
  intro c hs h
  have hc:=h c aA
  have hr:=h r aA
  have hc':=(cK c).1 hc
  have hr':=(cK r).1 hr
  obtain⟨s1,s2⟩:=List.pairwise_cons.1 hs
  have s3:=s1 r aA
  obtain⟨s4,s5⟩:=List.pairwise_cons.1 s2
  rw[Gl]
  split
  ·rename_i g
   have hm:jN ⟨c.fr,max c.to r.to⟩=true:=(cK _).2 aL
   have:=ih ⟨c.fr,max c.to r.to⟩ (List.pairwise_cons.2 ⟨λz hz=>s1 z (aaY _ hz),s5⟩) (λz hz=>by grind)
   grind[d9]
  ·rename_i g
   have:=ih r s2 (λz hz=>h z (aaY _ hz))
   obtain⟨z,t,e1,e2⟩:=PZ l r
   grind[jQ,d9]
theorem qi {l:List Rn}(hs:zn l)(h:∀r∈l,jN r=true):ef (mr l)/\∀n,gw (mr l) n↔gw l n:=by
 cases l with
 | nil=>exact⟨Aw,λn=>Iff.rfl⟩
 | cons x l=>exact XH l x hs h
theorem UH:∀(l:List Rn)(c:Rn),(Gl c l).length<=l.length+1:=by
 intro l
 induction l<;>grind[Gl]
theorem Hx (l:List Rn):(mr l).length<=l.length:=by
 cases l with
 | nil=>exact aaf _
 | cons x l=>exact UH l x
def EF:List Rn->Rn->List Rn
 | [],x=>[x]
 | y::l,x=>if x.fr<=y.fr then x::y::l else y::EF l x
theorem EG:∀(l:List Rn)(x r:Rn),r∈EF l x↔r=x\/r∈l:=by
 intro l
 induction l<;>grind[EF]
theorem P0:∀(l:List Rn)(x:Rn),zn l->zn (EF l x):=by
 intro l
 induction l<;>grind[EF,zn,List.pairwise_cons,EG]
theorem P1:∀(l:List Rn)(x:Rn),(EF l x).length=l.length+1:=by
 intro l
 induction l<;>grind[EF]
def Hy (l:List Rn):List Rn:=l.foldr (λx a=>EF a x) []
theorem xK:∀(l:List Rn)(r:Rn),r∈Hy l↔r∈l:=by
 intro l
 induction l<;>grind[Hy,EG]
theorem EH:∀(l:List Rn),zn (Hy l):=by
 intro l
 induction l with
 | nil=>exact abD
 | cons x l ih=>exact P0 _ _ ih
theorem P2:∀(l:List Rn),(Hy l).length=l.length:=by
 intro l
 induction l<;>grind[Hy,P1]
def ofR (l:List Rn):List Rn:=mr (Hy (l.filter jN))
theorem xL (l:List Rn):ef (ofR l):=(qi (EH _) (λ_ hr=>(abt.1 ((xK _ _).1 hr)).2)).1
theorem qj (l:List Rn)(n:Int):gw (ofR l) n↔gw l n:=by
 unfold ofR
 rw[(qi (EH _) (λ_ hr=>(abt.1 ((xK _ _).1 hr)).2)).2 n,Av (xK _) n,ve]
theorem Ca (l:List Rn):(ofR l).length<=l.length:=by
 have h1:=Hx (Hy (l.filter jN))
 rw[P2]at h1
 exact abk h1 (List.length_filter_le _ _)
theorem Hz {l m:List Rn}(h:ef m)(e:∀n,gw m n↔gw l n):ofR l=m:=
 xJ (xL l) h (λn=>(qj l n).trans (e n).symm)
theorem P3 {l:List Rn}(h:ef l):ofR l=l:=Hz h (λ_=>Iff.rfl)
theorem HC {l s:List Rn}(hs:zn s)(h:∀r,r∈s↔r∈l.filter jN):mr s=ofR l:=by
 have:=qi hs (λr hr=>(abt.1 ((h r).1 hr)).2)
 refine(Hz this.1 (λn=>?_)).symm
 rw[this.2 n,Av h n,ve]
theorem EI {l m:List Rn}(h:∀n,gw l n↔gw m n):ofR l=ofR m:=Hz (xL m) (λn=>(qj m n).trans (h n).symm)
end Go.Proofs.YtecdgdoledkdfaaGreat
namespace Go.Proofs.YtecdgdoledkdfaaGreat
open Go.RowKit Go.Shelf Go.Proofs.Tryz
abbrev BT:={s:ByteArray // s.size<=1000000000000}
instance:Inhabited BT:=⟨⟨⟨#[]⟩,bP⟩⟩
def HG (x y:BT):Int:=cG x.1 y.1
theorem EJ:Sort.SWO (ltOf HG) where
 irrefl x:=by grind[ltOf,HG,xI]
 trans x y z h1 h2:=by grind[ltOf,HG,iP]
 ntrans x y z h1 h2:=by grind[ltOf,HG,iP]
def qF (l:List ByteArray):List ByteArray:=if h:∀s∈l,s.size<=1000000000000 then(ln HG (l.pmap Subtype.mk h)).map Subtype.val else l
theorem xM {l:List ByteArray}(h:∀s∈l,s.size<=1000000000000):(qF l).Perm l/\(qF l).Pairwise (λx y=>¬y<x):=by
 unfold qF
 rw[dif_pos h]
 obtain⟨h1,h2⟩:=jP EJ (l.pmap Subtype.mk h)
 refine⟨?_,?_⟩
 ·have:=h1.map Subtype.val
  rwa [List.map_pmap,List.pmap_eq_map,List.map_id']at this
 grind[ltOf,HG,iP]
abbrev BRn:={r:Rn // jN r=true}
instance:Inhabited BRn:=⟨⟨⟨1,1⟩,bP⟩⟩
def xN (x y:BRn):Int:=x.1.fr-y.1.fr
theorem Ax:Sort.SWO (ltOf xN) where
 irrefl x:=by unfold ltOf xN;simp
 trans x y z h1 h2:=by grind[ltOf,xN]
 ntrans x y z h1 h2:=by grind[ltOf,xN]
def nK (l:List Rn):List Rn:=if h:∀r∈l,jN r=true then(ln xN (l.pmap Subtype.mk h)).map Subtype.val else l
theorem EK {l:List Rn}(h:∀r∈l,jN r=true):(nK l).Perm l/\zn (nK l):=by
 unfold nK zn
 rw[dif_pos h]
 obtain⟨h1,h2⟩:=jP Ax (l.pmap Subtype.mk h)
 refine⟨?_,?_⟩
 ·have:=h1.map Subtype.val
  rwa [List.map_pmap,List.pmap_eq_map,List.map_id']at this
 grind[ltOf,xN]
theorem xO {F : FuncId} {fn : Func} (h : prog.funcs[F]? = some fn) (h1 : (fn.name == "runtime.NumGoroutine") = false) (h2 : fn.body.isNone = false) : Wd prog F := ⟨fn, h, h1, h2⟩
def so_str_ren:Go.Shelf.Ren:=⟨fun|6=>215|14=>255|15=>254|20=>287|21=>288|22=>289|23=>290|24=>291|25=>292|26=>293|27=>294|28=>285|29=>286|46=>325|47=>321|48=>322|49=>326|50=>327|57=>340|n=>n,fun|0=>0|3=>3|4=>4|5=>5|9=>9|22=>203|24=>9|25=>196|39=>305|45=>344|46=>345|50=>349|53=>180|55=>41|66=>374|70=>377|76=>392|77=>393|n=>n,λn=>n⟩
theorem XI:SlLaysF.n6 prog so_str_ren:={ mixed:=by kernel_rfl,f6:=⟨Tryz.f215.name,bP,func215.trans (aaA some (by kernel_rfl))⟩,f14:=⟨Tryz.f255.name,bP,func255.trans (aaA some (by kernel_rfl))⟩,f15:=func254.trans (aaA some (by kernel_rfl)),f20:=⟨Tryz.f287.name,bP,func287.trans (aaA some (by kernel_rfl))⟩,f21:=⟨Tryz.f288.name,bP,func288.trans (aaA some (by kernel_rfl))⟩,f22:=⟨Tryz.f289.name,bP,func289.trans (aaA some (by kernel_rfl))⟩,f23:=⟨Tryz.f290.name,bP,func290.trans (aaA some (by kernel_rfl))⟩,f24:=⟨Tryz.f291.name,bP,func291.trans (aaA some (by kernel_rfl))⟩,f25:=⟨Tryz.f292.name,bP,func292.trans (aaA some (by kernel_rfl))⟩,f26:=⟨Tryz.f293.name,bP,func293.trans (aaA some (by kernel_rfl))⟩,f27:=⟨Tryz.f294.name,bP,func294.trans (aaA some (by kernel_rfl))⟩,f28:=func285.trans (aaA some (by kernel_rfl)),f29:=func286.trans (aaA some (by kernel_rfl)),f46:=⟨Tryz.f325.name,bP,func325.trans (aaA some (by kernel_rfl))⟩,f47:=func321.trans (aaA some (by kernel_rfl)),f48:=func322.trans (aaA some (by kernel_rfl)),f49:=⟨Tryz.f326.name,bP,func326.trans (aaA some (by kernel_rfl))⟩,f50:=⟨Tryz.f327.name,bP,func327.trans (aaA some (by kernel_rfl))⟩,f57:=⟨Tryz.f340.name,bP,func340.trans (aaA some (by kernel_rfl))⟩,t0:=underlying0,a0:=Tryz.isAgg0,z0:=Tryz.sizeOf0,v0:=Tryz.zeroValue0,t3:=underlying3,a3:=Tryz.isAgg3,z3:=Tryz.sizeOf3,v3:=Tryz.zeroValue3,t4:=underlying4,a4:=Tryz.isAgg4,z4:=Tryz.sizeOf4,v4:=Tryz.zeroValue4,t5:=underlying5,a5:=Tryz.isAgg5,z5:=Tryz.sizeOf5,v5:=Tryz.zeroValue5,t9:=underlying9,a9:=Tryz.isAgg9,z9:=Tryz.sizeOf9,v9:=Tryz.zeroValue9,t22:=underlying203,a22:=Tryz.isAgg203,z22:=Tryz.sizeOf203,v22:=Tryz.zeroValue203,t25:=underlying196,a25:=Tryz.isAgg196,z25:=Tryz.sizeOf196,v25:=Tryz.zeroValue196,t39:=underlying305,a39:=Tryz.isAgg305,z39:=Tryz.sizeOf305,v39:=Tryz.zeroValue305,t45:=underlying344,a45:=Tryz.isAgg344,z45:=Tryz.sizeOf344,v45:=Tryz.zeroValue344,t46:=underlying345,a46:=Tryz.isAgg345,z46:=Tryz.sizeOf345,v46:=Tryz.zeroValue345,t50:=underlying349,a50:=Tryz.isAgg349,z50:=Tryz.sizeOf349,v50:=Tryz.zeroValue349,t53:=underlying180,a53:=Tryz.isAgg180,z53:=Tryz.sizeOf180,v53:=Tryz.zeroValue180,t55:=underlying41,a55:=Tryz.isAgg41,z55:=Tryz.sizeOf41,v55:=Tryz.zeroValue41,t66:=underlying374,a66:=Tryz.isAgg374,z66:=Tryz.sizeOf374,v66:=Tryz.zeroValue374,t70:=underlying377,a70:=Tryz.isAgg377,z70:=Tryz.sizeOf377,v70:=Tryz.zeroValue377,t76:=underlying392,a76:=Tryz.isAgg392,z76:=Tryz.sizeOf392,v76:=Tryz.zeroValue392,t77:=underlying393,a77:=Tryz.isAgg393,z77:=Tryz.sizeOf393,v77:=Tryz.zeroValue393,a24:=Tryz.isAgg9,z24:=Tryz.sizeOf9 }
theorem P4 (l:List ByteArray)(h:∀s∈l,s.size<=1000000000000)(hl:l.length<=1000000000) :
 bZ prog 215 [.row 1000 0,.per (ai (.func (.func 119) #[] #[]))] [(1000,.row 9 1 (l.map strP))] .any [(1000,.row 9 1 ((qF l).map strP))]:=by
 have:=LD (e:=9) (G:=119) XI (enc:=λx:BT=>Value.string x.1) (λ_=>rfl) EJ (enters_of func119 (by kernel_rfl) rfl)
  (λx y w=>EC x.1 y.1 x.2 w) (xO func215 (by kernel_rfl) (by kernel_rfl)) (l.pmap Subtype.mk h) (by rw[List.length_pmap];omega)
 have e1:(l.pmap Subtype.mk h).map (fH λx:BT=>[Value.string x.1])=l.map strP:=by rw[List.map_pmap];exact List.pmap_eq_map (f:=strP) h
 have e2:(ln HG (l.pmap Subtype.mk h)).map (fH λx:BT=>[Value.string x.1])=(qF l).map strP:=by unfold qF;rw[dif_pos h,List.map_map];rfl
 rw[e1,e2]at this
 exact this
def so_run_ren:Go.Shelf.Ren:=⟨fun|6=>295|14=>328|15=>254|20=>341|21=>342|22=>343|23=>344|24=>345|25=>346|26=>347|27=>348|28=>285|29=>286|46=>353|47=>321|48=>322|49=>354|50=>355|57=>360|n=>n,fun|0=>0|3=>3|4=>4|5=>5|9=>9|22=>125|24=>129|25=>359|39=>305|45=>344|46=>345|50=>349|53=>180|55=>41|66=>374|70=>377|76=>392|77=>393|n=>n,λn=>n⟩
theorem XJ:SlLaysF0.n6 prog so_run_ren:={ mixed:=by kernel_rfl,f6:=⟨Tryz.f295.name,bP,func295.trans (aaA some (by kernel_rfl))⟩,f14:=⟨Tryz.f328.name,bP,func328.trans (aaA some (by kernel_rfl))⟩,f15:=func254.trans (aaA some (by kernel_rfl)),f20:=⟨Tryz.f341.name,bP,func341.trans (aaA some (by kernel_rfl))⟩,f21:=⟨Tryz.f342.name,bP,func342.trans (aaA some (by kernel_rfl))⟩,f22:=⟨Tryz.f343.name,bP,func343.trans (aaA some (by kernel_rfl))⟩,f23:=⟨Tryz.f344.name,bP,func344.trans (aaA some (by kernel_rfl))⟩,f24:=⟨Tryz.f345.name,bP,func345.trans (aaA some (by kernel_rfl))⟩,f25:=⟨Tryz.f346.name,bP,func346.trans (aaA some (by kernel_rfl))⟩,f26:=⟨Tryz.f347.name,bP,func347.trans (aaA some (by kernel_rfl))⟩,f27:=⟨Tryz.f348.name,bP,func348.trans (aaA some (by kernel_rfl))⟩,f28:=func285.trans (aaA some (by kernel_rfl)),f29:=func286.trans (aaA some (by kernel_rfl)),f46:=⟨Tryz.f353.name,bP,func353.trans (aaA some (by kernel_rfl))⟩,f47:=func321.trans (aaA some (by kernel_rfl)),f48:=func322.trans (aaA some (by kernel_rfl)),f49:=⟨Tryz.f354.name,bP,func354.trans (aaA some (by kernel_rfl))⟩,f50:=⟨Tryz.f355.name,bP,func355.trans (aaA some (by kernel_rfl))⟩,f57:=⟨Tryz.f360.name,bP,func360.trans (aaA some (by kernel_rfl))⟩,t0:=underlying0,a0:=Tryz.isAgg0,z0:=Tryz.sizeOf0,v0:=Tryz.zeroValue0,t3:=underlying3,a3:=Tryz.isAgg3,z3:=Tryz.sizeOf3,v3:=Tryz.zeroValue3,t4:=underlying4,a4:=Tryz.isAgg4,z4:=Tryz.sizeOf4,v4:=Tryz.zeroValue4,t5:=underlying5,a5:=Tryz.isAgg5,z5:=Tryz.sizeOf5,v5:=Tryz.zeroValue5,t9:=underlying9,a9:=Tryz.isAgg9,z9:=Tryz.sizeOf9,v9:=Tryz.zeroValue9,t22:=underlying125,a22:=Tryz.isAgg125,z22:=Tryz.sizeOf125,v22:=Tryz.zeroValue125,t25:=underlying359,a25:=Tryz.isAgg359,z25:=Tryz.sizeOf359,v25:=Tryz.zeroValue359,t39:=underlying305,a39:=Tryz.isAgg305,z39:=Tryz.sizeOf305,v39:=Tryz.zeroValue305,t45:=underlying344,a45:=Tryz.isAgg344,z45:=Tryz.sizeOf344,v45:=Tryz.zeroValue344,t46:=underlying345,a46:=Tryz.isAgg345,z46:=Tryz.sizeOf345,v46:=Tryz.zeroValue345,t50:=underlying349,a50:=Tryz.isAgg349,z50:=Tryz.sizeOf349,v50:=Tryz.zeroValue349,t53:=underlying180,a53:=Tryz.isAgg180,z53:=Tryz.sizeOf180,v53:=Tryz.zeroValue180,t55:=underlying41,a55:=Tryz.isAgg41,z55:=Tryz.sizeOf41,v55:=Tryz.zeroValue41,t66:=underlying374,a66:=Tryz.isAgg374,z66:=Tryz.sizeOf374,v66:=Tryz.zeroValue374,t70:=underlying377,a70:=Tryz.isAgg377,z70:=Tryz.sizeOf377,v70:=Tryz.zeroValue377,t76:=underlying392,a76:=Tryz.isAgg392,z76:=Tryz.sizeOf392,v76:=Tryz.zeroValue392,t77:=underlying393,a77:=Tryz.isAgg393,z77:=Tryz.sizeOf393,v77:=Tryz.zeroValue393 }
theorem P5 (x y:Rn)(hx:jN x=true)(hy:jN y=true)(w:World) :
 Calls prog 296 #[.agg #[.int .i64 x.fr,.int .i64 x.to],.agg #[.int .i64 y.fr,.int .i64 y.to]] w λe w'=>e=.returned (.int .i64 (x.fr-y.fr))/\Gw w w':=by
 have h1:=(cK x).1 hx
 have h2:=(cK y).1 hy
 go_enter func296,ntmps296
 go_wp2
 go_ret
 exact⟨rfl,((Gw.refl w).alloc _).alloc _⟩
theorem P6 (l:List Rn)(h:∀r∈l,jN r=true)(hl:l.length<=1000000000) :
 bZ prog 295 [.row 1000 0,.per (ai (.func (.func 296) #[] #[]))] [(1000,.row 129 2 (l.map rnP))] .any [(1000,.row 129 2 ((nK l).map rnP))]:=by
 have:=uq (e:=129) (k:=2) (G:=296) XJ Tryz.isAgg129 Tryz.sizeOf129 (enc:=λx:BRn=>encRn x.1) ⟨bP,λ_=>rfl,λx=>Ek.one x.1⟩ Ax (enters_of func296 (by kernel_rfl) rfl)
  (λx y w=>P5 x.1 y.1 x.2 y.2 w) (xO func295 (by kernel_rfl) (by kernel_rfl)) (l.pmap Subtype.mk h) (by rw[List.length_pmap];omega)
 have e1:(l.pmap Subtype.mk h).map (fH λx:BRn=>encRn x.1)=l.map rnP:=by rw[List.map_pmap];exact List.pmap_eq_map (f:=rnP) h
 have e2:(ln xN (l.pmap Subtype.mk h)).map (fH λx:BRn=>encRn x.1)=(nK l).map rnP:=by unfold nK;rw[dif_pos h,List.map_map];rfl
 rw[e1,e2]at this
 exact this
theorem jZ {α:Type}(A:List α)(x y:α)(T:List α)(j:Nat)(hj:j=A.length):(A++x::T).set j y=A++y::T:=by subst hj;simp
theorem JS {α:Type}(l:List α):l=[]\/∃(l':List α)(y:α),l=l'++[y]:=by
 rcases List.eq_nil_or_concat l with h|⟨a,y,h⟩
 all_goals grind
theorem iB {α β:Type}(f:α->β)(l:List α)(j:Nat)(y:α):(l.map f).set j (f y)=(l.set j y).map f:=by rw[List.map_set]
section
variable {P:Program} {n t:Nat} {ops:Array Oper} {o:Oper} {S:St}
theorem vX {ty ty':TypeId}{x y:Operand}{k:IntKind}{u v z:Int}(hp:Pl n o t)(ho:o.op=.call { callee:=.builtin .max,args:=#[x,y],argTypes:=#[ty,ty'] })(hx:S.opd x=iC k u)(hy:S.opd y=iC k v)(hz:(if v>u then v else u)=z):aB n P ops o (aG x++aG y) (iC k z) [] S:=
 hz▸NS hp ho hx hy
end
abbrev JT (l:List Rn):Ret:=.own 129 2 (l.map rnP)
abbrev P7 (l:List Rn):Blk:=.row 129 2 (l.map rnP)
theorem P8 (l:List Rn)(hl:l.length<=1000000000):Fn prog 256 [ia l] (JT (ofR l)):=by
 by_cases hok:ef l
 ·rw[P3 hok]
  exact Al l hl hok
 have h0:=ui l hl false (by simp[hok])
 generalize hT:l.filter jN=T at *
 have hTr:∀x∈T,jN x=true:=λx hx=>by rw[<-hT]at hx;grind
 have hTl:T.length<=1000000000:=by rw[<-hT];grind
 have hs:=P6 T hTr hTl
 obtain⟨hp,hsr⟩:=EK hTr
 have hR:=HC (l:=l) hsr (λr=>by rw[hp.mem_iff,hT])
 have hQr:∀x∈nK T,jN x=true:=λx hx=>hTr x (hp.mem_iff.1 hx)
 have hQl:(nK T).length=T.length:=hp.length_eq
 rw[<-hR]
 generalize nK T=Q at *
 generalize hRR:mr Q=R
 clear hR hp hsr hok
 refine fi func256 ntmps256 ?_
 (refine au h0 ?_;refine ah λhc=>?_)
 refine bw (bS 3 600 129 2 rfl rfl) ?_
 refine aj (X:=Nat×List Rn) (λx=>x.1<=l.length/\x.2++(l.drop x.1).filter jN=T)
  (λx=>aF [(3,.row 600 0),(14,ia l),(15,iC .i64 (l.length:Nat)),(16,iC .i64 (x.1:Nat))] [(600,P7 x.2)]) (λx=>l.length-x.1) (0,[]) ⟨aag _,by simp[hT]⟩ ?_
 rintro⟨k,ac⟩ ⟨g1,g2⟩
 simp only at g1 g2 ⊢
 by_cases hk:k<l.length
 ·have hir:=B1 l[k]
  have hlen:ac.length<=1000000000:=by
   have:=aaA List.length g2
   grind
  rw[List.drop_eq_getElem_cons hk,List.filter_cons]at g2
  cases hr:jN l[k]with
  | false=>
   rw[hr]at hir g2
   clear hTr hQr hs
   (refine au hir ?_;repeat' first|apply aw|refine ah λhc=>?_)
   refine⟨(k+1,ac),⟨aL,by simpa using g2⟩,aL,?_⟩
   exact ab
  | true=>
   rw[hr]at hir g2
   clear hTr hQr hs
   (refine au hir ?_;repeat' first|apply aw|refine ah λhc=>?_)
   refine⟨(k+1,ac++[l[k]]),⟨aL,by simpa using g2⟩,aL,az (aU 600 601) (az (aU 601 600) ?_)⟩
   exact ab
 ·have hkl:k=l.length:=ae
  subst hkl
  rw[aba]at g2
  simp at g2
  subst g2
  (refine ee (gn [(1000,600)] hs) ?_;refine ah λhc=>?_)
  clear hs hTr hT
  refine bw (bS 6 700 129 2 rfl rfl) ?_
  refine aj (X:=Nat×List Rn) (λx=>x.1<=Q.length/\x.2.length<=x.1/\((x.2=[]/\x.1=0)\/∃o y,x.2=o++[y]/\jN y=true/\o++Gl y (Q.drop x.1)=R))
   (λx=>aF [(6,.row 700 0),(29,.row 600 0),(30,iC .i64 (Q.length:Nat)),(31,iC .i64 (x.1:Nat))] [(600,P7 Q),(700,P7 x.2)]) (λx=>Q.length-x.1) (0,[]) ⟨aag _,aaf _,.inl ⟨rfl,rfl⟩⟩ ?_
  rintro⟨k,out⟩ ⟨g1,g0,g2⟩
  simp only at g1 g0 g2 ⊢
  by_cases hk:k<Q.length
  ·have hxr:=hQr _ (aar hk)
   have hdr:=List.drop_eq_getElem_cons hk
   generalize hx:Q[k]=x at *
   have HQ:(Q.map rnP)[k]?=some (rnP x):=by rw[List.getElem?_map,aaa hk,hx];rfl
   have hxi:=(cK x).1 hxr
   clear hQr
   rcases g2 with⟨rfl,rfl⟩|⟨o,y,rfl,hyr,g2⟩
   ·have g4:[]++Gl x (Q.drop 1)=R:=by
     rw[abu]at hdr
     rw[<-hRR,hdr];rfl
    (refine w0 ?_;repeat' first|apply aw|refine ah λhc=>?_|((first|apply aH rfl|apply aJ rfl);(focus (try apply ag rfl rfl rfl rfl rfl);((apply bn 5;(focus rfl);exact aD ⟨rfl,rfl,rfl⟩ rfl aS aS rfl rfl rfl HQ rfl rfl rfl)));refine w0 ?_))
    refine⟨(1,[x]),⟨aL,aaf _,.inr ⟨[],x,rfl,hxr,g4⟩⟩,aL,az (aU 700 701) (az (aU 701 700) ?_)⟩
    exact ab
   ·have hyi:=(cK y).1 hyr
    rw[hdr,Gl]at g2
    have hL1:(o++[y]).length=o.length+1:=aA
    have hM:(if x.to>y.to then x.to else y.to)=max y.to x.to:=ae
    have hmr:jN ⟨y.fr,max y.to x.to⟩=true:=(cK _).2 aL
    generalize max y.to x.to=M at *
    generalize hL:o++[y]=L at *
    have hLi:((L.length:Int)-1).toNat=o.length:=ae
    have HY:(L.map rnP)[((L.length:Int)-1).toNat]?=some (rnP y):=by
     rw[List.getElem?_map,hLi,<-hL]
     simp
    have HS1:(L.map rnP).set ((L.length:Int)-1).toNat (cN (rnP y) 1 [ai (.int .i64 M)])=(o++[(⟨y.fr,M⟩:Rn)]).map rnP:=by rw[show(L.map rnP).set ((L.length:Int)-1).toNat (cN (rnP y) 1 [ai (.int .i64 M)])=(L.set ((L.length:Int)-1).toNat ⟨y.fr,M⟩).map rnP from iB rnP L _ (⟨y.fr,M⟩:Rn),<-hL,jZ o y _ [] _ (by rw[hL];omega)]
    have hML:(o++[(⟨y.fr,M⟩:Rn)]).length=L.length:=by rw[<-hL];simp
    by_cases c:x.fr-y.to<2
    ·rw[aae c]at g2
     (repeat' (first|((first|apply aH rfl|apply cB rfl|apply aJ rfl|apply cC rfl);focus (first|((apply bn 19;(focus rfl);exact vX ⟨rfl,rfl,rfl⟩ rfl rfl rfl hM))|(apply gR;(focus rfl);apply ag rfl rfl rfl rfl rfl;((apply bn 19;(focus rfl);exact vX ⟨rfl,rfl,rfl⟩ rfl rfl rfl hM)))))|refine oq ?_|refine bW cI ?_|(refine dW rfl rfl ⟨λhc=>?_,λhc=>?_⟩<;>(repeat rw[aad]at hc)<;>(try exact cj hc))|((first|apply aH rfl|apply cB rfl|apply aJ rfl|apply cC rfl);focus (first|((apply bn 5;(focus rfl);first|exact bV ⟨rfl,rfl,rfl⟩ rfl aS rfl rfl rfl HY rfl|exact aD ⟨rfl,rfl,rfl⟩ rfl aS aS rfl rfl rfl HQ rfl rfl rfl))|(apply gR;(focus rfl);apply ag rfl rfl rfl rfl rfl;((apply bn 5;(focus rfl);first|exact bV ⟨rfl,rfl,rfl⟩ rfl aS rfl rfl rfl HY rfl|exact aD ⟨rfl,rfl,rfl⟩ rfl aS aS rfl rfl rfl HQ rfl rfl rfl)))|((apply bn 6;(focus rfl);exact aW ⟨rfl,rfl⟩ rfl aS rfl rfl rfl rfl HY rfl (bd rfl rfl rfl) rfl HS1))|(apply gR;(focus rfl);apply ag rfl rfl rfl rfl rfl;((apply bn 6;(focus rfl);exact aW ⟨rfl,rfl⟩ rfl aS rfl rfl rfl rfl HY rfl (bd rfl rfl rfl) rfl HS1)))))|((first|refine dX rfl rfl rfl ⟨λhc=>?_,λhc=>?_⟩|refine dY rfl rfl rfl ⟨λhc=>?_,λhc=>?_⟩)<;>(fail_if_success (have q:(true=true):=hc))<;>(fail_if_success (have q:(false=false):=hc))<;>(repeat rw[aad]at hc)<;>(try exact cj hc))|refine aQ rfl rfl (λhc=>?_) ?_))
     refine⟨(k+1,_),⟨aL,aL,.inr ⟨o,_,rfl,hmr,g2⟩⟩,aL,?_⟩
     exact ab
    ·rw[aab c]at g2
     (refine w0 ?_;repeat' first|apply aw|refine ah λhc=>?_|((first|apply aH rfl|apply aJ rfl);(focus (try apply ag rfl rfl rfl rfl rfl);((apply bn 5;(focus rfl);first|exact bV ⟨rfl,rfl,rfl⟩ rfl aS rfl rfl rfl HY rfl|exact aD ⟨rfl,rfl,rfl⟩ rfl aS aS rfl rfl rfl HQ rfl rfl rfl)));refine w0 ?_))
     refine⟨(k+1,L++[x]),⟨aL,bD,.inr ⟨L,x,rfl,hxr,by simp only;rw[<-hL,aal];exact g2⟩⟩,aL,az (aU 700 701) (az (aU 701 700) ?_)⟩
     exact ab
  ·have hkl:k=Q.length:=ae
   subst hkl
   have g3:out=R:=by
    rcases g2 with⟨a,b⟩|⟨o,y,a,_,b⟩
    ·rw[a,<-hRR,aax b];rfl
    ·rw[aba]at b
     rw[a,<-b];rfl
   clear g2 hRR hQr
   (refine w0 ?_;refine ah λhc=>?_)
   refine dr ?_
   exact cJ rfl rfl rfl g3
end Go.Proofs.YtecdgdoledkdfaaGreat
namespace Go.Proofs.YtecdgdoledkdfaaGreat
open Go.RowKit Go.Proofs.Tryz
def d8 (l:List Rn)(n:Int):Bool:=l.any λr=>jN r&&(decide (r.fr<=n)&&decide (n<=r.to))
theorem kW (l:List Rn)(n:Int):d8 l n=true↔gw l n:=by grind[d8,gw]
def lp:List Int->Int->List Int
 | [],n=>[n]
 | x::l,n=>if x<n then x::lp l n else if x=n then x::l else n::x::l
theorem EL:∀(l:List Int)(n m:Int),m∈lp l n↔m=n\/m∈l:=by
 intro l
 induction l<;>grind[lp]
abbrev P9 (l:List Int):Prop:=l.Pairwise (·<·)
theorem UI:∀(l:List Int)(n:Int),P9 l->P9 (lp l n):=by
 intro l
 induction l<;>grind[lp,List.pairwise_cons,EL]
def xP (e:List Int)(r:Rn):List Int:=if jN r then lp (lp e r.fr) (r.to+1)else e
def gx (e:List Int)(l:List Rn):List Int:=l.foldl xP e
theorem UJ {e:List Int}{r:Rn}(h:P9 e):P9 (xP e r):=by grind[xP,UI]
theorem vY:∀(l:List Rn)(e:List Int),P9 e->P9 (gx e l):=by
 intro l
 induction l with
 | nil=>intro e h;exact h
 | cons r l ih=>intro e h;exact ih _ (UJ h)
theorem Qc:∀(l:List Rn)(e:List Int)(m:Int),m∈gx e l↔m∈e\/∃r∈l,jN r=true/\(m=r.fr\/m=r.to+1):=by
 intro l
 induction l with
 | nil=>intro e m;simp[gx]
 | cons r l ih=>
  intro e m
  show m∈gx (xP e r) l↔_
  rw[ih]
  grind[xP,EL]
theorem sA:∀(l:List Rn)(e:List Int),(gx e l).length<=e.length+2*l.length:=by
 have h1:∀(l:List Int)(n:Int),(lp l n).length<=l.length+1:=by
  intro l
  induction l<;>grind[lp]
 intro l
 induction l<;>grind[gx,xP]
def kj (f:Int->Bool):List Int->List Rn
 | e::e'::E=>(if f e then [⟨e,e'-1⟩]else [])++kj f (e'::E)
 | _=>[]
theorem sB (f:Int->Bool):∀(E:List Int)(e:Int),P9 (e::E)->(∀m∈e::E,1<=m/\m<=1099511627777)->∀r∈kj f (e::E),jN r=true/\e<=r.fr:=by
 intro E
 induction E with
 | nil=>grind[kj]
 | cons e' E ih=>
  intro e h hm r hr
  obtain⟨h1,h2⟩:=List.pairwise_cons.1 h
  have h3:=h1 e' aA
  rw[kj,aaS]at hr
  rcases hr with hr|hr
  ·split at hr
   ·have hr:r=⟨e,e'-1⟩:=by simpa using hr
    subst hr
    have a:=hm e aA
    have b:=hm e' aA
    grind[cK]
   ·simp at hr
  grind
theorem Qd (f:Int->Bool):∀(E:List Int),P9 E->(∀m∈E,1<=m/\m<=1099511627777)->zn (kj f E):=by
 intro E
 induction E with
 | nil=>intro _ _;exact abD
 | cons e E ih=>
  intro h hm
  cases E with
  | nil=>exact abD
  | cons e' E=>
   obtain⟨h1,h2⟩:=List.pairwise_cons.1 h
   have hm':∀m∈e'::E,1<=m/\m<=1099511627777:=λm q=>hm m (by grind)
   have h3:=ih h2 hm'
   rw[kj]
   split
   ·refine List.pairwise_cons.2 ⟨λz hz=>?_,h3⟩
    have:=(sB f E e' h2 hm' z hz).2
    have:=h1 e' aA
    simp only;omega
   ·exact h3
structure Cst (f:Int->Bool)(M:Int->Prop):Prop where
 mid:∀e n,e<=n->(∀m,M m->m<=e\/n<m)->f e=f n
 lo:∀n,(∀m,M m->n<m)->f n=false
 hi:∀n,(∀m,M m->m<=n)->f n=false
theorem Qf {f:Int->Bool}{M:Int->Prop}(hf:Cst f M):∀(E:List Int)(e:Int),P9 (e::E)->(∀m∈e::E,1<=m/\m<=1099511627777)->(∀m,M m->m<=e\/m∈E)->∀n,e<=n->(gw (kj f (e::E)) n↔f n=true):=by
 intro E
 induction E with
 | nil=>
  intro e _ _ hM n hn
  have:f n=false:=hf.hi n (λm hm=>by grind)
  rw[this]
  simp[kj,jr]
 | cons e' E ih=>
  intro e h hm hM n hn
  obtain⟨h1,h2⟩:=List.pairwise_cons.1 h
  have h3:=h1 e' aA
  have hm':∀m∈e'::E,1<=m/\m<=1099511627777:=λm q=>hm m (by grind)
  obtain⟨h4,_⟩:=List.pairwise_cons.1 h2
  have a:=hm e aA
  have b:=hm e' aA
  rw[kj,sy]
  by_cases c:n<e'
  ·have hno:¬gw (kj f (e'::E)) n:=λ⟨r,hr,_,q,_⟩=>by
    have:=(sB f E e' h2 hm' r hr).2
    omega
   have he:f e=f n:=hf.mid e n hn (λm q=>by grind)
   rw[<-he]
   grind[jr,d9,cK]
  grind[d9,jr]
def UK (f:Int->Bool)(a b:List Rn):List Rn:=mr (kj f (gx (gx [] a) b))
def C2 (keep:Bool->Bool->Bool)(a b:List Rn)(n:Int):Bool:=keep (d8 a n) (d8 b n)
abbrev Ww (a b:List Rn)(m:Int):Prop:=m∈gx (gx [] a) b
theorem sD (a b:List Rn)(m:Int):Ww a b m↔(∃r∈a,jN r=true/\(m=r.fr\/m=r.to+1))\/∃r∈b,jN r=true/\(m=r.fr\/m=r.to+1):=by grind[Qc]
theorem Ay {l:List Rn}{e n:Int}(hen:e<=n)(h:∀r∈l,jN r=true->(r.fr<=e\/n<r.fr)/\(r.to+1<=e\/n<r.to+1)):d8 l e=d8 l n:=by
 rw[aav,kW,kW]
 refine⟨λ⟨r,hr,c,q⟩=>?_,λ⟨r,hr,c,q⟩=>?_⟩
 ·have:=h r hr c
  exact⟨r,hr,c,ae,ae⟩
 ·have:=h r hr c
  exact⟨r,hr,c,ae,ae⟩
theorem Qg {l:List Rn}{n:Int}(h:∀r∈l,jN r=true->n<r.fr\/r.to+1<=n):d8 l n=false:=by
 rw[<-aaB,kW]
 rintro⟨r,hr,c,q⟩
 have:=h r hr c
 omega
theorem UL {keep:Bool->Bool->Bool}(hk:keep false false=false)(a b:List Rn):Cst (C2 keep a b) (Ww a b):=by
 have inA:∀r∈a,jN r=true->Ww a b r.fr/\Ww a b (r.to+1):=λr hr c=>⟨(sD _ _ _).2 (.inl ⟨r,hr,c,.inl rfl⟩),(sD _ _ _).2 (.inl ⟨r,hr,c,.inr rfl⟩)⟩
 have inB:∀r∈b,jN r=true->Ww a b r.fr/\Ww a b (r.to+1):=λr hr c=>⟨(sD _ _ _).2 (.inr ⟨r,hr,c,.inl rfl⟩),(sD _ _ _).2 (.inr ⟨r,hr,c,.inr rfl⟩)⟩
 refine⟨λe n hen h=>?_,λn h=>?_,λn h=>?_⟩
 ·unfold C2
  rw[Ay hen (λr hr c=>⟨h _ (inA r hr c).1,h _ (inA r hr c).2⟩),Ay hen (λr hr c=>⟨h _ (inB r hr c).1,h _ (inB r hr c).2⟩)]
 all_goals grind[C2,Qg]
theorem JU {a b:List Rn}{m:Int}(h:Ww a b m):1<=m/\m<=1099511627777:=by
 rcases(sD _ _ _).1 h with⟨r,_,c,q⟩|⟨r,_,c,q⟩ <;>
 ·have:=(cK r).1 c
  omega
theorem Qh {keep:Bool->Bool->Bool}(hk:keep false false=false)(a b:List Rn):ef (UK (C2 keep a b) a b)/\∀n,gw (UK (C2 keep a b) a b) n↔C2 keep a b n=true:=by
 have hc:=UL hk a b
 have hup:P9 (gx (gx [] a) b):=vY _ _ (vY _ _ abD)
 have hrg:∀m∈gx (gx [] a) b,1<=m/\m<=1099511627777:=λm hm=>JU hm
 unfold UK
 unfold Ww at hc
 generalize C2 keep a b=f at *
 generalize gx (gx [] a) b=E at *
 have hR:∀r∈kj f E,jN r=true:=λr hr=>by
  cases E with
  | nil=>simp[kj]at hr
  | cons e E=>exact(sB f E e hup hrg r hr).1
 have h1:=qi (Qd f E hup hrg) hR
 refine⟨h1.1,λn=>?_⟩
 rw[h1.2 n]
 cases E with
 | nil=>
  rw[hc.lo n (λm hm=>by simp at hm)]
  simp[kj,jr]
 | cons e E=>
  by_cases q:e<=n
  ·grind[Qf]
  ·rw[hc.lo n (λm hm=>by grind[List.pairwise_cons])]
   refine⟨λ⟨r,hr,_,z,_⟩=>?_,λz=>by cases z⟩
   have:=(sB f E e hup hrg r hr).2
   omega
theorem Qi {keep:Bool->Bool->Bool}(hk:keep false false=false){a b m:List Rn}(h:ef m)(e:∀n,gw m n↔C2 keep a b n=true):UK (C2 keep a b) a b=m:=
 xJ (Qh hk a b).1 h (λn=>((Qh hk a b).2 n).trans (e n).symm)
theorem XK (a b:List Rn):UK (C2 (λx y=>x||y) a b) a b=ofR (a++b):=by grind[Qi,xL,qj,sy,C2,kW]
