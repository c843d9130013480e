/- Texts joined: CrcP FrP MsP So SoC Ord. -/
import Derived.Test.YtaclhhkblbacgaaGreatJ17
import Derived.Shelf.SlSortCmp.NoneTotal
import Derived.Deep.QuietTactic
import Derived.BigQuiet
set_option maxRecDepth 10000
set_option maxHeartbeats 8000000
namespace Go.Proofs.YtaclhhkblbacgaaGreat
open Go.RowKit Go.Proofs.Tryz
def vc (s:Nat):Nat:=if s % 2=1 then(s / 2) ^^^ 3988292384 else s / 2
def Qi:Nat→Nat→Nat
 | 0,s=>s
 | n+1,s=>Qi n (vc s)
def EJ (s:Nat)(c:UInt8):Nat:=Qi 8 (s ^^^ c.toNat)
def vd (s:Nat)(l:List UInt8):Nat:=l.foldl EJ s
def jW (l:List UInt8):Nat:=vd 4294967295 l ^^^ 4294967295
def gb (s:Nat):List UInt8:=[UInt8.ofNat s,UInt8.ofNat (s / 256),UInt8.ofNat (s / 65536),UInt8.ofNat (s / 16777216)]
theorem zq {s:Nat}(h:s<4294967296):vc s<4294967296:=by
 unfold vc
 split
 ·exact Nat.xor_lt_two_pow (n:=32) ab ab
 ·omega
theorem SH:∀(n s:Nat),s<4294967296→Qi n s<4294967296:=by
 intro n
 induction n with
 | zero=>intro s h;exact h
 | succ n ih=>intro s h;exact ih _ (zq h)
theorem Gp {s:Nat}(h:s<4294967296)(c:UInt8):EJ s c<4294967296:=by
 have:=c.toNat_lt
 exact SH 8 _ (Nat.xor_lt_two_pow (n:=32) ab ab)
theorem Gq:∀(l:List UInt8) {s:Nat},s<4294967296→vd s l<4294967296:=by
 intro l
 induction l with
 | nil=>intro s h;exact h
 | cons c l ih=>intro s h;exact ih (Gp h c)
theorem tD (l:List UInt8):jW l<4294967296:=Nat.xor_lt_two_pow (n:=32) (Gq l bz) bz
def fJ:List UInt8→Nat
 | []=>0
 | c::l=>c.toNat+256*fJ l
theorem zr:∀l:List UInt8,fJ l<256 ^ l.length:=by
 intro l
 induction l with
 | nil=>simp[fJ]
 | cons c l ih=>
  have:=c.toNat_lt
  rw[fJ,Wh,Nat.pow_succ]
  omega
theorem Ms:∀(a b:List UInt8),fJ (a++b)=fJ a+2 ^ (8*a.length)*fJ b:=by
 intro a
 induction a with
 | nil=>intro b;simp[fJ]
 | cons c a ih=>
  intro b
  rw[List.cons_append,fJ,fJ,ih,Wh,show 8*(a.length+1)=8*a.length+8 by omega,Nat.pow_add,Nat.mul_add,Nat.mul_right_comm]
  have:256*(2 ^ (8*a.length)*fJ b)=2 ^ (8*a.length)*fJ b*2 ^ 8:=by rw[Nat.mul_comm 256]
  omega
theorem Mt:∀{a b:List UInt8},a.length=b.length→fJ a=fJ b→a=b:=by
 intro a
 induction a with
 | nil=>intro b h _;exact(Wf h.symm).symm
 | cons c a ih=>
  intro b h e
  cases b with
  | nil=>simp at h
  | cons d b=>
   have hc:=c.toNat_lt
   have hd:=d.toNat_lt
   rw[fJ,fJ]at e
   have e1:c=d:=Xj.1 ab
   rw[e1,ih (by simpa using h) ab]
def xQ (l:List UInt8):List UInt8:=aJ (l.length:Nat)++l
def RI (l:List UInt8):List UInt8:=xQ l++gb (jW (xQ l))
def jl (b:List UInt8):List UInt8×Nat×Int:=
 if(bv b).2.2≠0 then([],0,(bv b).2.2)
 else if 32768<(bv b).1 then([],0,12)
 else if b.length<(bv b).2.1+(bv b).1+4 then([],0,10)
 else if(b.drop ((bv b).2.1+(bv b).1)).take 4=gb (jW (b.take ((bv b).2.1+(bv b).1)))then((b.drop (bv b).2.1).take (bv b).1,(bv b).2.1+(bv b).1+4,0)
 else([],0,13)
def kM (b:List UInt8):List UInt8×Int:=if(jl b).2.2=0∧(jl b).2.1<b.length then([],14)else((jl b).1,(jl b).2.2)
theorem xR (s:Nat):(gb s).length=4:=rfl
theorem tE (l:List UInt8):(xQ l).length=(aJ (l.length:Nat)).length+l.length:=by unfold xQ;rw[V5]
theorem Gr (l:List UInt8):(RI l).length=(aJ (l.length:Nat)).length+l.length+4:=by unfold RI;rw[V5,tE,xR]
theorem Ud (l r:List UInt8)(h:l.length≤32768):bv (aJ (l.length:Nat)++r)=(l.length,(aJ (l.length:Nat)).length,0):=by
 have:=LH l.length r ab
 unfold aJ
 simpa using this
theorem Qj {l x t r:List UInt8}(h:l.length≤32768)(hx:x.length=l.length)(ht:t.length=4) :
 jl (aJ (l.length:Nat)++x++t++r)=if t=gb (jW (aJ (l.length:Nat)++x))then(x,(aJ (l.length:Nat)).length+l.length+4,0)else([],0,13):=by
 have e0:aJ (l.length:Nat)++x++t++r=aJ (l.length:Nat)++(x++(t++r)):=au
 unfold jl
 rw[e0,Ud l _ h]
 simp only
 rw[V3 au,V3 ab,V3 (by simp only[V5];omega)]
 have e1:((aJ (l.length:Nat)++(x++(t++r))).drop ((aJ (l.length:Nat)).length+l.length)).take 4=t:=by
  rw[←List.drop_drop,List.drop_left,←hx,List.drop_left,←ht,List.take_left]
 have e2:(aJ (l.length:Nat)++(x++(t++r))).take ((aJ (l.length:Nat)).length+l.length)=aJ (l.length:Nat)++x:=by
  rw[←V9,←hx,←V5,List.take_left]
 have e3:((aJ (l.length:Nat)++(x++(t++r))).drop (aJ (l.length:Nat)).length).take l.length=x:=by
  rw[List.drop_left,←hx,List.take_left]
 rw[e1,e2,e3]
theorem Mu {l:List UInt8}(h:l.length≤32768):kM (RI l)=(l,0):=by
 have e:=Qj (l:=l) (x:=l) (t:=gb (jW (xQ l))) (r:=[]) h rfl rfl
 rw[Wg]at e
 unfold kM
 rw[show RI l=aJ (l.length:Nat)++l++gb (jW (xQ l))from rfl,e,V6 (show gb (jW (xQ l))=gb (jW (aJ (l.length:Nat)++l))from rfl)]
 simp only
 rw[V3 (fun q=>by have:=q.2;simp only[V5,xR]at this;omega)]
structure Msg where
 kind:Int:=0
 ses:Int:=0
 num:Int:=0
 lim:Int:=0
 seed:Int:=0
 bits:Int:=0
 nxt:Int:=0
 err:Int:=0
 wants:Bool:=false
 same:Bool:=false
 last:Bool:=false
 flt:List Rg:=[]
 know:List Pc:=[]
 there:List UInt8:=[]
 rg:Rg:=⟨⟨#[]⟩,⟨#[]⟩,false⟩
 sum:Nat:=0
 its:List It:=[]
def wF:List It→Bool
 | []=>true
 | x::l=>eC x&&(!(l.any fun y=>decide (y.key=x.key))&&wF l)
def bJ (n:Int):Bool:=decide (0≤n∧n≤281474976710656)
def j8 (m:Msg):Bool:=
 decide (1≤m.ses)&&bJ m.ses&&bJ m.num &&
 (if m.kind=1 then bJ m.lim&&bJ m.seed&&decide (0≤m.bits∧m.bits≤64)&&decide (cb m.flt)&&decide (aX m.know)&&(decide (m.there=[])||decide ((nb m.there).2=0))
 else if m.kind=3 then bJ m.nxt
 else if m.kind=4 then fX m.rg
 else if m.kind=5 then bJ m.nxt&&decide (m.its.length≤4096)&&wF m.its&&decide (aX m.know)&&(m.last||decide (m.know=[]))
 else decide (m.kind=2)||(decide (m.kind=6)&&decide (1≤m.err)&&bJ m.err))
def iZ (b:Bool):Int:=if b then 1 else 0
def cV (m:Msg):List Int:=[m.kind,m.ses,m.num] ++
 (if m.kind=1 then [m.lim,m.seed,m.bits,iZ m.wants]else if m.kind=2 then [iZ m.same]else if m.kind=3 then [m.nxt]else if m.kind=5 then [m.nxt,iZ m.last]else if m.kind=6 then [m.err]else [])
def Ap (s:Nat):List UInt8:=(List.range 8).map fun i=>UInt8.ofNat (s / 256 ^ i)
def eu (m:Msg):List (List UInt8):=
 if m.kind=1 then [fH m.flt,fw m.know,m.there]else if m.kind=4 then [fH [m.rg],Ap m.sum]else if m.kind=5 then [fG m.its,fw m.know]else []
def txB (l:List UInt8):List UInt8:=bu ⟨l.toArray⟩
def gv (m:Msg):List UInt8:=(cV m).flatMap aJ++(eu m).flatMap txB
def ev (m:Msg):List UInt8×Int:=if j8 m then(if(gv m).length≤32768 then(RI (gv m),0)else([],12))else([],2)
def nK (m:Msg):Msg:=
 if m.kind=1 then { kind:=1,ses:=m.ses,num:=m.num,lim:=m.lim,seed:=m.seed,bits:=m.bits,wants:=m.wants,flt:=m.flt,know:=m.know,there:=m.there }
 else if m.kind=2 then { kind:=2,ses:=m.ses,num:=m.num,same:=m.same }
 else if m.kind=3 then { kind:=3,ses:=m.ses,num:=m.num,nxt:=m.nxt }
 else if m.kind=4 then { kind:=4,ses:=m.ses,num:=m.num,rg:=m.rg,sum:=m.sum }
 else if m.kind=5 then { kind:=5,ses:=m.ses,num:=m.num,nxt:=m.nxt,last:=m.last,its:=m.its,know:=m.know }
 else if m.kind=6 then { kind:=6,ses:=m.ses,num:=m.num,err:=m.err }
 else { kind:=m.kind,ses:=m.ses,num:=m.num }
abbrev pO:Int:=281474976710656
def ca (l:List UInt8):Msg×List UInt8×Int:=
 let a:=af 1 6 l 0
 let b:=af 1 pO a.2.1 a.2.2
 let c:=aO b.2.1 b.2.2
 ({ kind:=a.1,ses:=b.1,num:=c.1 },c.2.1,c.2.2)
def d0 (m:Msg)(l:List UInt8)(e:Int):Msg×List UInt8×Int:=
 if m.kind=1 then
  let a:=aO l e
  let b:=aO a.2.1 a.2.2
  let c:=af 0 64 b.2.1 b.2.2
  let d:=af 0 1 c.2.1 c.2.2
  ({ m with lim:=a.1,seed:=b.1,bits:=c.1,wants:=d.1==1 },d.2.1,d.2.2)
 else if m.kind=2 then
  let a:=af 0 1 l e
  ({ m with same:=a.1==1 },a.2.1,a.2.2)
 else if m.kind=3 then
  let a:=aO l e
  ({ m with nxt:=a.1 },a.2.1,a.2.2)
 else if m.kind=5 then
  let a:=aO l e
  let b:=af 0 1 a.2.1 a.2.2
  ({ m with nxt:=a.1,last:=b.1==1 },b.2.1,b.2.2)
 else if m.kind=6 then
  let a:=af 1 pO l e
  ({ m with err:=a.1 },a.2.1,a.2.2)
 else(m,l,e)
def gc:Nat→List UInt8→Int→List (List UInt8)×List UInt8×Int
 | 0,l,e=>([],l,e)
 | n+1,l,e=>
  let a:=aW pO l e
  let b:=gc n a.2.1 a.2.2
  (a.1::b.1,b.2.1,b.2.2)
def gn (k:Int):Nat:=if k=1 then 3 else if k=4∨k=5 then 2 else 0
def SI (l:List UInt8):Nat:=fJ l
def ej (m:Msg)(p:List (List UInt8)):Msg×Int:=
 if m.kind=1 then
  let f:=dG (p.getD 0 [])
  if f.2≠0 then(m,f.2)else
  let k:=dc (p.getD 1 [])
  if k.2≠0 then(m,k.2)else({ m with flt:=f.1,know:=k.1,there:=p.getD 2 [] },0)
 else if m.kind=4 then
  let f:=dG (p.getD 0 [])
  if f.2≠0 then(m,f.2)else if f.1.length=1∧(p.getD 1 []).length=8 then({ m with rg:=f.1.getD 0 ⟨⟨#[]⟩,⟨#[]⟩,false⟩,sum:=SI (p.getD 1 []) },0)else(m,11)
 else if m.kind=5 then
  let f:=dd (p.getD 0 [])
  if f.2≠0 then(m,f.2)else
  let k:=dc (p.getD 1 [])
  if k.2≠0 then(m,k.2)else({ m with its:=f.1,know:=k.1 },0)
 else(m,0)
def zt (l:List UInt8):Msg×Int:=
 let a:=ca l
 let b:=d0 a.1 a.2.1 a.2.2
 let c:=gc (gn b.1.kind) b.2.1 b.2.2
 if di c.2.1 c.2.2≠0 then({},di c.2.1 c.2.2)else
 let d:=ej b.1 c.1
 if d.2≠0 then({},d.2)else if j8 d.1 then(d.1,0)else({},11)
def Ci (b:List UInt8):Msg×Int:=if(kM b).2≠0 then({},(kM b).2)else zt (kM b).1
end Go.Proofs.YtaclhhkblbacgaaGreat
namespace Go.Proofs.YtaclhhkblbacgaaGreat
open Go.RowKit Go.Shelf Go.Proofs.Tryz
def Gw (w w':World):Prop:=∃(q:Nat)(os:Array Obj),w'=Sort.grow (w.drewN q) os
theorem Gw.refl (w:World):Gw w w:=⟨0,#[],by simp[World.drewN]⟩
theorem Gw.drewN {w w':World}(h:Gw w w')(n:Nat):Gw w (w'.drewN n):=by
 obtain⟨q,os,rfl⟩:=h
 exact⟨q+n,os,by simp[World.drewN,Sort.grow,Nat.add_assoc]⟩
theorem Gw.drew {w w':World}(h:Gw w w'):Gw w w'.drew:=h.drewN 1
theorem Gw.alloc {w w':World}(h:Gw w w')(o:Obj):Gw w (w'.alloc o):=by
 obtain⟨q,os,rfl⟩:=h
 exact⟨q,os++#[o],by rw[Sort.alloc_eq_grow,Sort.grow_grow]⟩
theorem Gw.trans {a b c:World}(h:Gw a b)(k:Gw b c):Gw a c:=by
 obtain⟨q,os,rfl⟩:=h
 obtain⟨q',os',rfl⟩:=k
 exact⟨q+q',os++os',by simp[World.drewN,Sort.grow,Nat.add_assoc]⟩
theorem Cj {β:Type}(d:Array β):d.extract 0 d.size=d:=au
def kN {α:Type}[Inhabited α](cf:α→α→Int)(l:List α):List α:=(Sort.pdq (ltOf cf) l.toArray 0 l.length (Lib.bitLen l.length) true true).toList
section
variable {α:Type} [Inhabited α] {cf:α→α→Int}
theorem jw (hO:Sort.SWO (ltOf cf))(l:List α):(kN cf l).Perm l∧(kN cf l).Pairwise (fun x y=>ltOf cf y x=false):=by
 have h:=Sort.pdq_sorts (ltOf cf) hO l.toArray 0 l.length (Lib.bitLen l.length) true true (Wa _) au (Or.inl rfl)
 unfold kN
 generalize Sort.pdq (ltOf cf) l.toArray 0 l.length (Lib.bitLen l.length) true true=d at h
 obtain⟨⟨h1,_,h3⟩,h4⟩:=h
 have hs:d.size=l.length:=by simpa using h1
 have e1:d.extract 0 l.length=d:=by rw[←hs];exact Cj d
 have e2:(l.toArray).extract 0 l.length=l.toArray:=au
 rw[e1,e2]at h3
 refine⟨by simpa using h3,?_⟩
 rw[List.pairwise_iff_getElem]
 intro i j hi hj hij
 have:=h4 i j (Wa _) hij (by rw[←hs];simpa using hj)
 rw[getElem!_pos d j (by simpa using hj),getElem!_pos d i (by simpa using hi)]at this
 simpa using this
theorem oJ (hO:Sort.SWO (ltOf cf))(l:List α):(kN cf l).length=l.length:=(jw hO l).1.length_eq
end
section
variable {P:Program}
theorem Ck {α:Type}{F G:FuncId}{k e:Nat}{enc:α→List Value}(hE:J7 k enc){l l':List α}(hlen:l'.length=l.length)(hent:Rr P F)
 (hnil:∀w,Calls P F #[.slice none 0 0,.func (.func G) #[] #[]] w fun e w'=>e=.returned (.tuple #[])∧w'=w)
 (hrun:∀(b cap:Nat)(w:World),b<w.heap.size→(∀i x,l[i]?=some x→∀j v,(enc x)[j]?=some v→w.cell? ⟨b,i*k+j,none⟩=some v∧w.frozen? ⟨b,i*k+j,none⟩=false) →
   Calls P F #[.slice (some ⟨b,0,none⟩) l.length cap,.func (.func G) #[] #[]] w fun e w'=>e=.returned (.tuple #[])∧∃(n:Nat)(os:Array Obj)(f:Array Value→Array Value),w'=Sort.grow (Sort.mapBlock (Sort.ahead w n) b f) os ∧
    ∀cs:Array Value,(f cs).size=cs.size∧∀i x,l'[i]?=some x→∀j v,(enc x)[j]?=some v→i*k+j<cs.size→(f cs)[i*k+j]?=some v) :
 dh P F [.row 1000 0,.per (ak (.func (.func G) #[] #[]))] [(1000,.row e k (l.map (fv enc)))] .any [(1000,.row e k (l'.map (fv enc)))]:=by
 refine⟨hent,?_⟩
 intro C w vs hW hN hO hvl hvs hb
 obtain⟨v0,v1,rfl⟩:∃v0 v1,vs=[v0,v1]:=by match vs,hvl with|[a,b],_=>exact⟨a,b,rfl⟩
 have h0:=hvs 0 v0 _ rfl rfl
 have h1:=hvs 1 v1 _ rfl rfl
 have e1:v1=.func (.func G) #[] #[]:=h1
 have e0:v0=C.G0.rh 1000:=h0.2 rfl
 subst e0 e1
 have other:∀(l:List α) id,id≠1000→eO id [(1000,Blk.row e k (l.map (fv enc)))]=.none:=fun l id h=>by simp[eO,gB h]
 have this1:∀(l:List α),eO 1000 [(1000,Blk.row e k (l.map (fv enc)))]=.row e k (l.map (fv enc)):=fun l=>rfl
 have hrow:=hb 1000
 rw[this1]at hrow
 rcases hrow with⟨q1,q2⟩|⟨cap,cs,q1,q2,q3,q4,q5,q6,q7⟩
 ·have hl0:l=[]:=by simpa using q2
  have hl0':l'=[]:=Wf (by rw[hlen,hl0];rfl)
  rw[q1]
  refine(hnil w).mono ?_
  rintro e' w' ⟨rfl,rfl⟩
  refine⟨_,C.G0,rfl,⟨rfl,rfl,rfl,V8 _,fun _ _ _=>rfl,fun b id h=>⟨(hO b id h).1,.inr (hO b id h).2⟩,fun _ _=>⟨rfl,rfl⟩⟩,trivial,fun id=>?_⟩
  by_cases hid:id=1000
  ·subst hid
   exact .inl ⟨q1,by rw[hl0'];rfl⟩
  ·rw[other _ _ hid];trivial
 ·rw[V7]at q1 q4
  obtain⟨b,hb0⟩:∃b,b=C.G0.ph 1000:=⟨_,rfl⟩
  rw[←hb0]at q1 q2 q3
  have hbl:=hO b 1000 q3
  have hcells:∀i x,l[i]?=some x→∀j v,(enc x)[j]?=some v→w.cell? ⟨b,i*k+j,none⟩=some v∧w.frozen? ⟨b,i*k+j,none⟩=false:=by
   intro i x hi j v hj
   obtain⟨_,g⟩:=q7 i (fv enc x) (by rw[List.getElem?_map,hi];rfl)
   obtain⟨y,y1,_,y3⟩:=g j (ak v) (by unfold fv;rw[List.getElem?_map,hj];rfl)
   have y3:y=v:=y3
   subst y3
   refine⟨by simp[World.cell?,q2,y1],by simp[World.frozen?,q2]⟩
  rw[q1]
  refine(hrun b cap w hbl.1 hcells).mono ?_
  rintro e' w' ⟨rfl,n,os,f,rfl,hf⟩
  have hblock:∀b',b'<w.heap.size→b'≠b→(Sort.grow (Sort.mapBlock (Sort.ahead w n) b f) os).heap[b']?=w.heap[b']?:=fun b' h h'=>by
   show((w.heap.modify b (Sort.onCells f))++os)[b']?=_
   rw[Array.getElem?_append_left (by simpa using h),Array.getElem?_modify,V3 (XJ h')]
  have hthis:(Sort.grow (Sort.mapBlock (Sort.ahead w n) b f) os).heap[b]?=some (.cells (f cs) e (0,0)):=by
   show((w.heap.modify b (Sort.onCells f))++os)[b]?=_
   rw[Array.getElem?_append_left (by simpa using hbl.1),Array.getElem?_modify,V6 rfl,q2]
   rfl
  have hsz:w.heap.size≤(Sort.grow (Sort.mapBlock (Sort.ahead w n) b f) os).heap.size:=by
   show _≤((w.heap.modify b (Sort.onCells f))++os).size
   simp
  refine⟨_,C.G0,rfl,⟨rfl,rfl,rfl,hsz,fun b' h h'=>hblock b' h (fun e=>h' (e▸hbl.2)),fun b' id h=>⟨WY (hO b' id h).1 hsz,.inr (hO b' id h).2⟩,fun _ _=>⟨rfl,rfl⟩⟩,trivial,fun id=>?_⟩
  by_cases hid:id=1000
  ·subst hid
   obtain⟨f1,f2⟩:=hf cs
   refine .inr ⟨cap,f cs,?_,?_,?_,by simpa[hlen]using q4,q5,by rw[f1];exact q6,?_⟩
   ·rw[←hb0,V7,hlen];exact q1
   ·rw[←hb0];exact hthis
   ·rw[←hb0];exact q3
   ·intro i ps hi
    rw[List.getElem?_map]at hi
    obtain⟨x,hx,rfl⟩:=Option.map_eq_some_iff.1 hi
    refine⟨by simp[fv,hE.len],fun j A hj=>?_⟩
    unfold fv at hj
    rw[List.getElem?_map]at hj
    obtain⟨v,hv,rfl⟩:=Option.map_eq_some_iff.1 hj
    have hj':j<k:=by
     rw[←hE.len x];exact(Ws.1 hv).1
    have hi':i<l'.length:=(Ws.1 hx).1
    have hlt:i*k+j<cs.size:=by
     rw[q6]
     have h2:(i+1)*k≤cap*k:=WQ k ab
     rw[XH,Nat.one_mul]at h2
     omega
    exact⟨v,f2 i x hx j v hv hlt,hE.one x v (WK hv),rfl⟩
  ·rw[other _ _ hid];trivial
theorem Gs {i j k:Nat}(h:j<k):(i*k+j) / k=i∧(i*k+j) % k=j:=by
 have hk:0<k:=ab
 refine⟨?_,?_⟩
 ·rw[Nat.add_comm,Nat.add_mul_div_right _ _ hk,Nat.div_eq_of_lt h,WF]
 ·rw[Nat.add_comm,Nat.add_mul_mod_self_right,Nat.mod_eq_of_lt h]
theorem put_get {β:Type}[Inhabited β](en:β→Value)(F:Array β)(cs:Array Value)(t:Nat)(h:t<cs.size)(hF:t<F.size):(Sort.putCells en 0 F cs)[t]?=some (en F[t]!):=by
 unfold Sort.putCells
 rw[Array.getElem?_mapIdx,WS h]
 simp only[W5]
 rw[V6 ⟨Wa _,ab⟩,Nat.sub_zero]
theorem rP {β:Type}[Inhabited β](en:β→Value)(F:Array β)(cs:Array Value):(Sort.putCells en 0 F cs).size=cs.size:=by
 unfold Sort.putCells;simp
theorem rQ {α:Type}[Inhabited α]{ρ:Ren}{G k e:Nat}(L:SlLaysF0.n6 P ρ)(aE:∀w,(isAgg (ρ.t 24)).run P w=.ok true w)(zE:∀w,(Go.sizeOf (ρ.t 24)).run P w=.ok k w){enc:α→List Value}(hE:J7 k enc)
 {cf:α→α→Int} (hO:Sort.SWO (ltOf cf)) (eg:∀args w,(callFunc G args).run P w=.ok (.enter G args) w)
 (hc:∀x y w,Calls P G #[.agg (enc x).toArray,.agg (enc y).toArray] w fun e w'=>e=.returned (.int .i64 (cf x y))∧Gw w w') (hent:Rr P (ρ.f 6)) (l:List α) (hl:l.length<4611686018427387904) :
 dh P (ρ.f 6) [.row 1000 0,.per (ak (.func (.func G) #[] #[]))] [(1000,.row e k (l.map (fv enc)))] .any [(1000,.row e k ((kN cf l).map (fv enc)))]:=by
 refine Ck hE (oJ hO l) hent (fun w=>AnyF.slices_SortFunc_none L none 0 _ w) ?_
 intro b cap w hb hcells
 have hH:Sort.HoldsK enc k w b 0 l.toArray:=by
  intro t ht
  rw[Sort.size_flatK]at ht
  have hk:0<k:=hE.pos
  have hi:t / k<l.length:=Nat.div_lt_of_lt_mul (by rw[Nat.mul_comm];simpa using ht)
  have hj:t % k<(enc (l[t / k])).length:=by rw[hE.len];exact XG _ hk
  have h1:=hcells (t / k) l[t / k] (V4 hi) (t % k) _ (V4 hj)
  rw[Sort.get_flatK _ _ _ _ ht,WF,show t / k*k+t % k=t from by rw[Nat.mul_comm];exact Nat.div_add_mod t k]at *
  rw[getElem!_pos l.toArray (t / k) (by simpa using hi),List.getElem_toArray,getElem!_pos _ (t % k) hj]
  exact h1
 have hcmp:CmpLays P G #[] enc k cf b 0 l.toArray.size w:=fun m os dk _ x y=>hc x y _
 have:=AnyQ.slices_SortFunc_eq (P:=P) (ρ:=ρ) L k aE zE enc hE.len hE.one cf hO G #[] b 0 cap l.toArray w eg hcmp hH hb (by simpa using hl)
 rw[WR]at this
 refine this.mono ?_
 rintro e' w' ⟨he,n,os,hw⟩
 have hs:=oJ hO l
 unfold kN at hs ⊢
 generalize Sort.pdq (ltOf cf) l.toArray 0 l.length (Lib.bitLen l.length) true true=d at *
 rw[W9]at hs
 refine⟨he,n,os,Sort.putCells id 0 (Sort.flatK enc k d),hw,fun cs=>⟨rP _ _ _,fun i x hi j v hj hlt=>?_⟩⟩
 have hj':j<k:=by rw[←hE.len x];exact(Ws.1 hj).1
 have hi':i<d.size:=by simpa using(Ws.1 hi).1
 have hlt':i*k+j<d.size*k:=by
  have:=WQ k (show i+1≤d.size from hi')
  rw[XH,Nat.one_mul]at this
  omega
 rw[put_get _ _ _ _ hlt (by rw[Sort.size_flatK];exact hlt'),Sort.get_flatK _ _ _ _ hlt',(Gs hj').1,(Gs hj').2]
 have ex:d[i]! = x:=by
  rw[getElem!_pos d i hi']
  have:=(Ws.1 hi).2
  simpa using this
 obtain⟨q1,q2⟩:=Ws.1 hj
 rw[ex,getElem!_pos _ j q1,q2]
 rfl
theorem IJ {α:Type}[Inhabited α]{ρ:Ren}{G e:Nat}(L:SlLaysF.n6 P ρ){enc:α→Value}(hE:OneCell enc)
 {cf:α→α→Int} (hO:Sort.SWO (ltOf cf)) (eg:∀args w,(callFunc G args).run P w=.ok (.enter G args) w)
 (hc:∀x y w,Calls P G #[enc x,enc y] w fun e w'=>e=.returned (.int .i64 (cf x y))∧Gw w w') (hent:Rr P (ρ.f 6)) (l:List α) (hl:l.length<4611686018427387904) :
 dh P (ρ.f 6) [.row 1000 0,.per (ak (.func (.func G) #[] #[]))] [(1000,.row e 1 (l.map (fv fun x=>[enc x])))] .any [(1000,.row e 1 ((kN cf l).map (fv fun x=>[enc x])))]:=by
 refine Ck (enc:=fun x=>[enc x]) ⟨bz,fun _=>rfl,fun x v hv=>by simp at hv;subst hv;exact hE x⟩ (oJ hO l) hent (fun w=>AnyF.slices_SortFunc_none { L with } none 0 _ w) ?_
 intro b cap w hb hcells
 have hH:Sort.Holds enc w b 0 l.toArray:=by
  intro t ht
  have hi:t<l.length:=by simpa using ht
  have h1:=hcells t l[t] (V4 hi) 0 _ rfl
  rw[Xr,WW]at h1
  rw[getElem!_pos l.toArray t (by simpa using hi),List.getElem_toArray,WF]
  exact h1
 have hcmp:CmpLays1 P G #[] enc cf b 0 l.toArray.size w:=fun m os dk _ x y=>hc x y _
 have:=Any.slices_SortFunc_eq (P:=P) (ρ:=ρ) L enc hE cf hO G #[] b 0 cap l.toArray w eg hcmp hH hb (by simpa using hl)
 rw[WR]at this
 refine this.mono ?_
 rintro e' w' ⟨he,n,os,hw⟩
 have hs:=oJ hO l
 unfold kN at hs ⊢
 generalize Sort.pdq (ltOf cf) l.toArray 0 l.length (Lib.bitLen l.length) true true=d at *
 rw[W9]at hs
 refine⟨he,n,os,Sort.putCells enc 0 d,hw,fun cs=>⟨rP _ _ _,fun i x hi j v hj hlt=>?_⟩⟩
 obtain⟨q1,q2⟩:=Ws.1 hj
 obtain rfl:j=0:=by simpa using q1
 have hi':i<d.size:=by simpa using(Ws.1 hi).1
 rw[Xr,WW]at hlt ⊢
 rw[put_get _ _ _ _ hlt hi']
 have ex:d[i]! = x:=by
  rw[getElem!_pos d i hi']
  have:=(Ws.1 hi).2
  simpa using this
 rw[ex]
 simpa using q2
end
theorem Cm (s t:ByteArray)(hs:s.size≤1000000000000)(w:World) :
 Calls prog 146 #[.string s,.string t] w fun e w'=>e=.returned (.int .i64 (cP s t))∧Gw w w':=by
 have HR:Hid (dr s.data.toList t.data.toList=cP s t):=Lib.hid rfl
 have es:s.data.toList.length=s.size:=au
 have et:t.data.toList.length=t.size:=au
 generalize hR:cP s t=R at *
 clear hR
 go_enter func146,ntmps146
 go_wp2
 go_loopw [11] (fun i wr=>∃k:Nat,k≤s.size∧k≤t.size∧i=.int .i64 k∧Hid (dr (s.data.toList.drop k) (t.data.toList.drop k)=R)∧Gw w wr) (fun i _=>s.size-(intOf i).toNat)
 case atStart=>exact⟨0,Wa _,Wa _,rfl,Lib.hid (by simpa using HR.out),Gw.refl _⟩
 case round=>
  obtain⟨k,hk,hk',rfl,HK,hx⟩:=hrel
  clear HR
  by_cases hlt:k<s.size∧k<t.size
  ·obtain⟨h1,h2⟩:=hlt
   have HS:Hid (dr (s.data.toList.drop k) (t.data.toList.drop k)=if(s[k]'h1).toNat<(t[k]'h2).toNat then -1 else if(t[k]'h2).toNat<(s[k]'h1).toNat then 1 else dr (s.data.toList.drop (k+1)) (t.data.toList.drop (k+1))):=
    Lib.hid (rF s.data.toList t.data.toList k ab ab)
   by_cases c1:(s[k]'h1).toNat<(t[k]'h2).toNat
   ·have HE:Hid (R = -1):=Lib.hid (by rw[←HK.out,HS.out,V6 c1])
    go_wp2
    go_quiet (fail)
    go_wp2
    go_ret
    exact⟨pz (pA HE.out.symm),hx.drewN _⟩
   ·by_cases c2:(t[k]'h2).toNat<(s[k]'h1).toNat
    ·have HE:Hid (R=1):=Lib.hid (by rw[←HK.out,HS.out,V3 c1,V6 c2])
     go_wp2
     go_quiet (fail)
     go_wp2
     go_quiet (fail)
     go_wp2
     go_ret
     exact⟨pz (pA HE.out.symm),by first|exact hx.drewN _|exact(hx.drewN _).drewN _⟩
    ·have HE:Hid (dr (s.data.toList.drop (k+1)) (t.data.toList.drop (k+1))=R):=Lib.hid (by rw[←HK.out,HS.out,V3 c1,V3 c2])
     go_wp2
     go_quiet (fail)
     go_wp2
     go_quiet (fail)
     go_wp2
     go_roundw
     case rel=>exact⟨k+1,ab,ab,by go_num,HE,hx.drewN _⟩
     case measure=>simp[intOf];omega
  ·have HS:=Lib.hid (uB s.data.toList t.data.toList k ab ab ab)
   by_cases c1:s.size<t.size
   ·have HE:Hid (R = -1):=Lib.hid (by rw[←HK.out,HS.out,V6 ab])
    go_wp2
    go_ret
    exact⟨pz (pA HE.out.symm),hx⟩
   ·by_cases c2:t.size<s.size
    ·have HE:Hid (R=1):=Lib.hid (by rw[←HK.out,HS.out,V3 ab,V6 ab])
     go_wp2
     go_ret
     exact⟨pz (pA HE.out.symm),hx⟩
    ·have HE:Hid (R=0):=Lib.hid (by rw[←HK.out,HS.out,V3 ab,V3 ab])
     go_wp2
     go_ret
     exact⟨pz (pA HE.out.symm),hx⟩
end Go.Proofs.YtaclhhkblbacgaaGreat
namespace Go.Proofs.YtaclhhkblbacgaaGreat
open Go.RowKit Go.Proofs.Tryz
theorem Gu:∀(a b:List UInt8),dr b a = - dr a b∧(dr a b=0→a=b):=by
 intro a
 induction a with
 | nil=>intro b;cases b<;>simp[dr]
 | cons x a ih=>
  intro b
  cases b with
  | nil=>simp[dr]
  | cons y b=>
   obtain⟨h1,h2⟩:=ih b
   simp only[dr]
   refine⟨?_,?_⟩
   ·rcases XA x.toNat y.toNat with q|q|q
    ·rw[V3 ab,V6 q,V6 q];rfl
    ·rw[V3 ab,V3 ab,V3 ab,V3 ab];exact h1
    ·rw[V6 q,V3 ab,V6 q]
   ·split
    ·intro h;omega
    ·split
     ·intro h;omega
     ·intro h
      rw[h2 h,Xj.1 (show x.toNat=y.toNat by omega)]
theorem RJ:∀(a b c:List UInt8),dr a a=0∧(dr a b≤0→dr b c≤0→dr a c≤0):=by
 intro a
 induction a with
 | nil=>intro b c;cases b<;>cases c<;>simp[dr]
 | cons x a ih=>
  intro b c
  refine⟨by simp[dr,(ih a a).1],?_⟩
  cases b with
  | nil=>cases c<;>simp[dr]
  | cons y b=>
   cases c with
   | nil=>simp[dr]
   | cons z c=>
    obtain⟨_,h1⟩:=ih b c
    simp only[dr]
    intro q1 q2
    split at q1
    ·split at q2
     ·rw[V6 ab];decide
     ·split at q2
      ·omega
      ·rw[V6 ab];decide
    ·split at q1
     ·omega
     ·split at q2
      ·rw[V6 ab];decide
      ·split at q2
       ·omega
       ·rw[V3 ab,V3 ab];exact h1 q1 q2
instance V1:LE ByteArray:=⟨fun s t=>cP s t≤0⟩
instance V2:LT ByteArray:=⟨fun s t=>cP s t<0⟩
instance VR (s t:ByteArray):Decidable (s<t):=inferInstanceAs (Decidable (cP s t<0))
instance VS (s t:ByteArray):Decidable (s≤t):=inferInstanceAs (Decidable (cP s t≤0))
theorem EK (s t:ByteArray):cP t s = - cP s t:=(Gu _ _).1
theorem ve (s:ByteArray):cP s s=0:=(RJ _ [] []).1
theorem Vj (s t:ByteArray):cP s t=0↔s=t:=by
 refine⟨fun h=>?_,fun h=>h▸ve s⟩
 have:=(Gu s.data.toList t.data.toList).2 h
 exact ByteArray.ext (Array.toList_inj.1 this)
theorem Cn (s t:ByteArray):cP s t≤0↔s≤t:=Iff.rfl
theorem i7 (s t:ByteArray):cP s t<0↔s<t:=Iff.rfl
instance VT:Std.IsLinearOrder ByteArray where
 le_refl a:=(Cn _ _).1 (Int.le_of_eq (ve a))
 le_trans a b c h1 h2:=(RJ _ _ _).2 h1 h2
 le_antisymm a b h1 h2:=(Vj a b).1 (Int.le_antisymm h1 (by have:=(Cn b a).2 h2;rw[EK]at this;omega))
 le_total a b:=by rw[←Cn,←Cn,EK a b];omega
instance VU:Std.LawfulOrderLT ByteArray where
 lt_iff a b:=by rw[←Cn,←Cn,←i7,EK a b];omega
end Go.Proofs.YtaclhhkblbacgaaGreat
