/- Lemmas, walks. -/
import Derived.Test.YtecdgdoledkdfaaGreatJ09
import Derived.Laws.MakeOwn
import Derived.Lib.BufferWrite
set_option maxRecDepth 10000
set_option maxHeartbeats 8000000
namespace Go.Proofs.YtecdgdoledkdfaaGreat
open Go.RowKit Go.Proofs.Tryz
variable {ty ty':TypeId} {x y:Operand} {k:IntKind} {p q z e:Int} {ids:List Nat} {l:List UInt8}
section
variable {P:Program} {n t:Nat} {ops:Array Oper} {o:Oper} {S:St}
theorem B4 (hp:Pl n o t)(ho:o.op=.binOp .and ty x y ty')(hx:S.opd x=iC k p)(hy:S.opd y=iC k q)(hz:bits .and k p q=z):aB n P ops o (aG x++aG y) (iC k z) [] S:=
 aZ hp λC T g a w hA hR=>by
  have h1:=bf (x:=x) hA (λk h=>by simp[h]) hR hx
  have h2:=bf (x:=y) hA (λk h=>by simp[h]) hR hy
  subst hz
  refine⟨.int k (bits .and k p q),fL ho h1 h2 ?_,rfl⟩
  rw[show eqGuard .and ty x y (.int k p) (.int k q)=pure ()from rfl]
  simp only[binOp_and]
  rfl
theorem Wu (hp:Pl n o t)(ho:o.op=.binOp .or ty x y ty')(hx:S.opd x=iC k p)(hy:S.opd y=iC k q)(hz:bits .or k p q=z):aB n P ops o (aG x++aG y) (iC k z) [] S:=
 aZ hp λC T g a w hA hR=>by
  have h1:=bf (x:=x) hA (λk h=>by simp[h]) hR hx
  have h2:=bf (x:=y) hA (λk h=>by simp[h]) hR hy
  subst hz
  refine⟨.int k (bits .or k p q),fL ho h1 h2 ?_,rfl⟩
  rw[show eqGuard .or ty x y (.int k p) (.int k q)=pure ()from rfl]
  simp only[binOp_or]
  rfl
theorem B5 {k':IntKind}(hp:Pl n o t)(ho:o.op=.binOp .shl ty x y ty')(hx:S.opd x=iC k p)(hy:S.opd y=iC k' q)(hq:0<=q)(hz:k.wrap (p*2 ^ min q.toNat k.bits)=z):aB n P ops o (aG x++aG y) (iC k z) [] S:=
 aZ hp λC T g a w hA hR=>by
  have h1:=bf (x:=x) hA (λk h=>by simp[h]) hR hx
  have h2:=bf (x:=y) hA (λk h=>by simp[h]) hR hy
  subst hz
  refine⟨.int k (k.wrap (p*2 ^ min q.toNat k.bits)),fL ho h1 h2 ?_,rfl⟩
  rw[show eqGuard .shl ty x y (.int k p) (.int k' q)=pure ()from rfl]
  simp_all[binOp_shl,shift_shl_any]
theorem jX {k':IntKind}(hp:Pl n o t)(ho:o.op=.binOp .shr ty x y ty')(hx:S.opd x=iC k p)(hy:S.opd y=iC k' q)(hq:0<=q)(hz:p / 2 ^ min q.toNat k.bits=z):aB n P ops o (aG x++aG y) (iC k z) [] S:=
 aZ hp λC T g a w hA hR=>by
  have h1:=bf (x:=x) hA (λk h=>by simp[h]) hR hx
  have h2:=bf (x:=y) hA (λk h=>by simp[h]) hR hy
  subst hz
  refine⟨.int k (p / 2 ^ min q.toNat k.bits),fL ho h1 h2 ?_,rfl⟩
  rw[show eqGuard .shr ty x y (.int k p) (.int k' q)=pure ()from rfl]
  simp_all[binOp_shr,shift_shr_any]
theorem kV (h1:0<=z)(h2:z<=18446744073709551615):IntKind.u64.wrap z=z:=by grind[IntKind.wrap,IntKind.bits,IntKind.signed]
theorem PC {t e bytes:Nat}(hT:TI P t e 1 bytes)(z:Value)(hz:(P.info? e).bind (·.zero)=some z)(hz1:z.cells=#[z])(kl:IntKind)(n:Int)(h0:0<=n)(hb:n<=1099511627776)(hb1:bytes<=64)(w:World) :
 (Instr.makeSlice t (.int kl n) (.int kl n)).run P w=.ok (.slice (some ⟨w.heap.size,0,none⟩) n.toNat n.toNat) (w.alloc (.cells (Array.replicate n.toNat z) e)):=by
 obtain⟨i,z',hi,hz',h1,h2,h3⟩:=hT.info
 rw[hi]at hz
 simp only[Option.bind_some]at hz
 rw[hz']at hz
 obtain rfl:=Option.some.inj hz
 have hle:(i.bytes:Int)*n<=64*1099511627776:=Int.mul_le_mul ae hb h0 ae
 have:=run_make (P:=P) w t e i z' hT.und hi hz' kl kl n n h0 (aby _) ae ae
 rw[this,h1,hz1]
 congr 3
 unfold madeCells
 grind
theorem Ew {ty e bytes:Nat}{kk:IntKind}{m:Nat}{z:Value}(hp:Pl n o t)(ho:o.op=.makeSlice ty x x)(hT:vI P ty e 1 bytes)(hz:ky P e z)(hz1:z.cells=#[z])(h1:z.oneCell'=true)(hby:Nat.ble bytes 64=true)
 (hx:S.opd x=iC kk q) (hq:q=(m:Int)) (hm:m<=1000000000) :
 aB n P ops o ((2*t+1)::aG x) (.row t (S.ver t+1)) [(t,S.ver t+1,.row e 1 (List.replicate m [ai z]))] S:=
 rM hp aA λC T g a w hA hR=>by
  have h:=bf (x:=x) hA (λk h=>by simp[h]) hR hx
  subst hq
  have hrun:=PC hT.h z hz.h hz1 kk (m:Int) ae ae (aaq hby) w
  rw[Int.toNat_natCast]at hrun
  refine⟨.slice (some ⟨w.heap.size,0,none⟩) m m,w.alloc (.cells (Array.replicate m z) e),w.heap.size,?_,(bQ.refl w).alloc _,aaf _,gU _ _,λvr' hvr hst=>⟨?_,?_⟩⟩
  ·simp_all[execOp]
  ·exact⟨by rw[hvr,aae rfl];exact aaf _,λ_=>(aae rfl).symm⟩
  ·have hph:(g.mk1 t w.heap.size (.slice (some ⟨w.heap.size,0,none⟩) m m)).ph t=w.heap.size:=aae rfl
   have hrh:(g.mk1 t w.heap.size (.slice (some ⟨w.heap.size,0,none⟩) m m)).rh t=.slice (some ⟨w.heap.size,0,none⟩) m m:=aae rfl
   refine .inr ⟨m,Array.replicate m z,by rw[hrh,hph,List.length_replicate],by rw[hph];exact heap_alloc_new w _,by rw[hph];exact aae rfl,aA,by unfold maxLen;omega,aA,λi ps hi=>?_⟩
   rw[List.getElem?_replicate]at hi
   split at hi
   ·rename_i him
    cases hi
    refine⟨rfl,λj A hj=>?_⟩
    cases j with
    | zero=>simp at hj;subst hj;exact⟨z,by simp[him],h1,rfl⟩
    | succ j=>simp at hj
   ·cases hi
theorem JI {dT sT e bytes:Nat}{id vr:Nat}{es:List (List PV)}{u:ByteArray}(hp:Pl n o t)(ho:o.op=.call { callee:=.builtin .copy,args:=#[x,y],argTypes:=#[dT,sT] })(hT:vI P dT e 1 bytes)
 (hx:S.opd x=.row id vr) (hv:S.ver id=vr) (hb:S.blk id=.row e 1 es) (hy:S.opd y=sC u) (hl:u.size=es.length) (h0:0<es.length) :
 aB n P ops o ((2*id+1)::(aG x++aG y)) (iC .i64 ((u.size:Nat):Int)) [(id,vr,.row e 1 (u.data.toList.map byteP))] S:=by
 refine⟨?_⟩
 intro C T hA a w ⟨g,hR⟩
 have hxe:=aM (x:=x) hA (λk h=>by simp[h]) hR
 rw[hx]at hxe
 have hvt:=(hA.2 id aA).2
 have hev:=hxe.2 (by rw[hvt,hv])
 have hye:=bf (x:=y) hA (λk h=>by simp[h]) hR hy
 have hB:=hR.blks id
 rw[(hA.2 id aA).1,hb]at hB
 rcases hB with⟨_,rfl⟩|⟨cap,cs,q1,q2,q3,q4,q5,q6,q7⟩
 ·simp at h0
 rw[q1]at hev
 have hinf:(P.info? e).map (·.size)=some 1:=by
  obtain⟨i,z',hi,hz',h1,h2,h3⟩:=hT.h.info
  rw[hi,Option.map_some,h1]
 have hrun:=Lib.run_copy_row_string (P:=P) w dT sT o.type e (g.ph id) 0 es.length cap u cs e hT.h.und hinf q2 ae ae
 unfold jg
 rw[aae (hp.wanted a)]
 unfold Oper.wp
 have hex:(execOp a.eval o).run P w=.ok (.value (goInt u.size)) (w.setRow (g.ph id) (cs.toList.take 0++Lib.byteCells u.data.toList++cs.toList.drop (0+u.size)).toArray):=by simp only[execOp,ho,resolve,invoke,builtin,Sem.run_bind,Sem.run_pure,Result.andThen_ok,List.map_toArray,List.map_cons,List.map_nil,hev,hye,hrun]
 rw[hex,Oper.upon_value]
 have hst:=pI (cs':=(cs.toList.take 0++Lib.byteCells u.data.toList++cs.toList.drop (0+u.size)).toArray) hR rfl q2 q3
 have hver:(T.app o.dst (iC .i64 ((u.size:Nat):Int)) [(id,vr,.row e 1 (u.data.toList.map byteP))]).ver=T.ver:=by
  funext i'
  rw[St.app_some_ver]
  grind
 refine⟨g,hR.app1 hp.dOk (by rw[hver];exact hst) rfl ?_⟩
 rw[hver]
 have hul:u.data.toList.length=u.size:=by rw[abp];rfl
 have hcap:u.size<=cs.size:=ae
 have hbl:(Lib.byteCells u.data.toList).length=u.size:=by simp[Lib.byteCells,hul]
 refine .inr ⟨cap,_,by rw[aad,hul,hl];exact q1,setRow_heap _ _ _ _ _ _ q2,q3,by rw[aad];omega,q5,by simp[hbl];omega,λi ps hi=>?_⟩
 rw[List.getElem?_map]at hi
 cases hc:u.data.toList[i]? with
 | none=>rw[hc]at hi;cases hi
 | some c=>
  rw[hc]at hi;cases hi
  refine⟨rfl,λj A hj=>?_⟩
  cases j with
  | succ j=>simp[byteP]at hj
  | zero=>
   simp[byteP]at hj;subst hj
   have hil:i<u.size:=by rw[<-hul];grind
   refine⟨.int .u8 (c.toNat:Int),?_,rfl,rfl⟩
   rw[abd,List.take_zero,aaE,aaz (by rw[hbl];omega)]
   grind[Lib.byteCells]
end
section
variable {P:Program} {n:Nat} {ops:Array Oper} {o:Oper} {S:St} {t:Nat}
def ul (ids:List Nat):List Nat:=ids.map λi=>2*i+1
theorem xy:∀i∈ids,2*i+1∈ul ids:=λi hi=>List.mem_map.2 ⟨i,hi,rfl⟩
theorem jp.mono {F F':List Nat}{c:Cnt}(h:jp F S ids x c)(hF:∀k∈F,k∈F'):jp F' S ids x c:=
 λn C T g a w hA hR=>h n C T g a w ⟨λt ht=>hA.1 t (hF _ ht),λi hi=>hA.2 i (hF _ hi)⟩ hR
inductive jf (S:St)(ids:List Nat):List Operand->List Cnt->Prop
 | nil:jf S ids [] []
 | cons {x:Operand} {c:Cnt} {xs:List Operand} {cs:List Cnt} (h:jp (ej S x++ul ids) S ids x c) (t:jf S ids xs cs):jf S ids (x::xs) (c::cs)
theorem jf.gives {xs:List Operand}{cs:List Cnt}(h:jf S ids xs cs){F:List Nat}(hF:∀k∈fZ S xs,k∈F)(hI:∀k∈ul ids,k∈F):nI F S ids xs cs:=by
 induction h with
 | nil=>exact .nil
 | cons h t ih=>
  refine .cons (h.mono (λk hk=>?_)) (ih (λk hk=>hF k (by grind[fZ])))
  grind[fZ]
theorem Ex {c:Cnt}{A:PV}(hx:S.opd x=c)(h:cc S ids c A):jp (ej S x++ul ids) S ids x (.per A):=Uu hx h (λk hk=>by simp[ej,hk]) (λi hi=>by simp[xy i hi])
theorem dj {A:PV}(hx:S.opd x=.per A):jp (ej S x++ul ids) S ids x (.per A):=Ex hx .per
theorem JJ {k:Nat}{es:List (List PV)}(hx:S.opd x=.per (cn k es)):jp (ej S x++ul ids) S ids x (.bor k es):=Xz hx (λk hk=>by simp[ej,hk])
theorem dl {id vr e:Nat}{cells:List Cnt}{As:List PV}(hx:S.opd x=.ptr id vr 0)(hv:S.ver id=vr)(hb:S.blk id=.box e cells)(hi:pd id ids=true)(h:cd S ids cells As):jp (ej S x++ul ids) S ids x (.per (em As)):=
 Xy hx hv hb hi h (λk hk=>by simp[ej,hk]) (λi hi=>by simp[xy i hi])
theorem um {f:FuncId}{xs:List Operand}{As:List Cnt}{r:Ret}(hf:Fn P f As r)(hp:Pl n o t:=by exact⟨rfl,rfl,rfl⟩)(ho:kx o f xs:=by exact⟨_,rfl⟩)(hpl:r.plain=true:=by rfl)(ha:Hm r:=by infer_instance)(hg:jf S ids xs As) :
 aB n P ops o (fZ S xs++ul ids) (ww t 0 r) [] S:=PB hp ho hf hpl ha (hg.gives (λ_ h=>by simp[h]) (λ_ h=>by simp[h]))
instance aaN (c:UInt8):Hl (byteP c):=by unfold byteP;infer_instance
end
def PD (h:Int)(c:UInt8):Int:=IntKind.u64.wrap (bits BinOp.xor IntKind.u64 h (c.toNat:Int)*1099511628211)
def B6 (h:Int)(l:List UInt8):Int:=l.foldl PD h
def un (h:Int):Int:=bits BinOp.xor IntKind.u64 h (h / 4294967296)
def gY (seed:Int)(l:List UInt8):Int:=un (B6 (bits BinOp.xor IntKind.u64 14695981039346656037 seed) l)
theorem xz (h:Int)(l:List UInt8)(c:UInt8):B6 h (l++[c])=PD (B6 h l) c:=by simp[B6]
theorem lm (n:Int):0<=IntKind.u64.wrap n:=by rw[IntKind.wrap_u64];omega
theorem xA (c:UInt8):IntKind.u64.wrap (c.toNat:Int)=(c.toNat:Int):=by have:=c.toNat_lt;rw[IntKind.wrap_u64];omega
theorem vS (a b:Int):0<=bits BinOp.xor IntKind.u64 a b:=lm _
theorem Uv (h:Int)(c:UInt8):0<=PD h c:=lm _
theorem xB (n:Int):IntKind.u64.wrap n<18446744073709551616:=by rw[IntKind.wrap_u64];omega
theorem XA (h:Int)(l:List UInt8)(h0:h<18446744073709551616):B6 h l<18446744073709551616:=by
 rcases List.eq_nil_or_concat l with rfl|⟨l',c,rfl⟩
 ·exact h0
 ·rw[List.concat_eq_append,B6,List.foldl_append];exact xB _
theorem PE {seed X:Int}(l:List UInt8)(h:bits BinOp.xor IntKind.u64 14695981039346656037 seed=X)(h0:0<=B6 X l) :
 IntKind.u64.wrap ((B6 X l).tdiv 4294967296)=B6 X l / 4294967296:=by
 have h1:=XA X l (by rw[<-h];exact xB _)
 rw[abf h0,IntKind.wrap_u64]
 omega
theorem An {seed X:Int}(l:List UInt8)(h:bits BinOp.xor IntKind.u64 14695981039346656037 seed=X):gY seed l=un (B6 X l):=by rw[<-h];rfl
theorem Hn (h:Int)(l:List UInt8)(h0:0<=h):0<=B6 h l:=by
 rcases List.eq_nil_or_concat l with rfl|⟨l',c,rfl⟩
 ·exact h0
 simp_all[xz,Uv]
theorem Ho (h:Int)(l m:List UInt8):B6 h (l++m)=B6 (B6 h l) m:=by simp[B6]
theorem Ao (seed:Int)(v:Value)(l:List UInt8)(w:World)(hv:Bs w v l) :
 Calls prog 352 #[.int .u64 seed,v] w λe w'=>e=.returned (.int .u64 (gY seed l))/\w=w':=by
 obtain⟨a,c,b,o,rfl,h1,h2,h3,h4⟩:=hv.open
 have h5:=qQ h1 h2
 clear hv h1 h2
 have hX0:=vS 14695981039346656037 seed
 generalize hX:bits BinOp.xor IntKind.u64 14695981039346656037 seed=X at *
 go_enter func352,ntmps352
 go_wp2
 have HX:=Lib.hid hX
 clear hX
 go_loop [5,6] (λh' i=>∃(k:Nat),k<=l.length/\i=.int .i64 k/\h'=.int .u64 (B6 X (l.take k))) (λ_ i=>l.length-(intOf i).toNat)
 case atStart=>exact⟨0,aag _,rfl,rfl⟩
 case round=>
  obtain⟨k,hk,rfl,rfl⟩:=hrel
  by_cases hlt:k<l.length
  ·obtain rfl:=h3 ae
   have hc':=h4 k hlt
   have HS:=Lib.hid (iU l k hlt)
   clear h3 h4
   go_wp2
   go_round
   case rel=>exact⟨k+1,ae,by go_num,by rw[HS.out,xz,PD,xA]⟩
   case measure=>simp[intOf];omega
  ·have hnn:=Hn X (l.take k) hX0
   go_wp2
   go_ret
   refine⟨gD (ku ?_),rfl⟩
   rw[An _ HX.out,un,show l.take k=l from aaj ae,PE _ HX.out (Hn _ _ hX0)]
theorem xC (seed:Int)(v:Value)(ls:List (List UInt8))(w:World)(hv:YM w v ls) :
 Calls prog 265 #[.int .u64 seed,v] w λe w'=>e=.returned (.int .u64 (gY seed ls.flatten))/\w=w':=by
 obtain⟨vs,hl,hs,hb⟩:=hv
 obtain⟨a,c,b,o,rfl,h1,h2,h3,h4⟩:=hs.open1
 have h5:=qQ h1 h2
 clear hs h1 h2
 have hX0:=vS 14695981039346656037 seed
 generalize hX:bits BinOp.xor IntKind.u64 14695981039346656037 seed=X at *
 have HL:=Lib.hid hl
 clear hl
 go_enter func265,ntmps265
 go_wp2
 have HX:=Lib.hid hX
 clear hX
 go_loop [5,14] (λh' i=>∃(k:Nat),k<=vs.length/\i=.int .i64 k/\h'=.int .u64 (B6 X (ls.take k).flatten)) (λ_ i=>vs.length-(intOf i).toNat)
 case atStart=>exact⟨0,aag _,rfl,rfl⟩
 case round=>
  obtain⟨k,hk,rfl,rfl⟩:=hrel
  by_cases hlt:k<vs.length
  ·obtain rfl:=h3 ae
   have hc':=h4 k hlt
   have HS:=Lib.hid (iU ls k (by have:=HL.out;omega))
   obtain⟨a1,c1,b1,o1,hv1,g1,g2,g3,g4⟩:=(hb k hlt (by have:=HL.out;omega)).open
   have g5:=qQ g1 g2
   rw[hv1]at hc'
   clear h3 h4 hb g1 g2 hv1
   generalize hp:ls[k]=p at *
   have HP:=Lib.hid hp
   clear hp
   go_wp2
   go_loop [5,20] (λh' i=>∃(j:Nat),j<=p.length/\i=.int .i64 j/\h'=.int .u64 (B6 (B6 X (ls.take k).flatten) (p.take j))) (λ_ i=>p.length-(intOf i).toNat)
   case atStart=>exact⟨0,aag _,rfl,rfl⟩
   case round=>
    obtain⟨j,hj,rfl,rfl⟩:=hrel
    by_cases hjt:j<p.length
    ·obtain rfl:=g3 ae
     have gc':=g4 j hjt
     have GS:=Lib.hid (iU p j hjt)
     clear g3 g4
     go_wp2
     go_round
     case rel=>exact⟨j+1,ae,by go_num,by rw[GS.out,xz,PD,xA]⟩
     case measure=>simp[intOf];omega
    ·clear g3 g4
     obtain rfl:j=p.length:=ae
     go_wp2
     go_round
     case rel=>exact⟨k+1,ae,by go_num,by rw[HS.out];simp[Ho]⟩
     case measure=>simp[intOf];omega
  ·have hnn:=Hn X (ls.take k).flatten hX0
   go_wp2
   go_ret
   refine⟨gD (ku ?_),rfl⟩
   rw[An _ HX.out,un,show ls.take k=ls from aaj (by have:=HL.out;omega)]
def fj (bits seed:Int)(l:List UInt8)(i:Int):Nat:=(gY (IntKind.u64.wrap (seed+IntKind.u64.wrap i)) l % bits).toNat
theorem mW (bits seed:Int)(l:List UInt8)(i:Int)(h:1<=bits):(fj bits seed l i:Int)<bits:=by
 unfold fj
 have:=Int.emod_nonneg (gY (IntKind.u64.wrap (seed+IntKind.u64.wrap i)) l) (show bits≠0 by omega)
 have:=Int.emod_lt_of_pos (gY (IntKind.u64.wrap (seed+IntKind.u64.wrap i)) l) (show 0<bits by omega)
 omega
def kL (r c:Int):List UInt8:=aO r++aO c
theorem JK (r c:Int):[r,c].flatMap aO=kL r c:=by simp[kL]
theorem Y5 {r c:Int}(hr:bF r)(hc:bF c):∀n∈[r,c],bF n:=by grind
theorem PF {r c:Int}(h:gc r c=true):bF r/\bF c:=by grind[gc,bF]
def nY (n:Nat):UInt8:=UInt8.ofNat (2 ^ (n % 8))
def eH (row:List UInt8)(n:Nat):Bool:=((row[n / 8]?.getD 0) &&& nY n) != 0
theorem PG (x:UInt8)(n:Nat):bits BinOp.and IntKind.u8 (x.toNat:Int) ((2 ^ (n % 8):Nat):Int)=((x &&& nY n).toNat:Int):=by
 have:∀k:Fin 8,∀x:Fin 256,bits BinOp.and IntKind.u8 (x.val:Int) ((2 ^ k.val:Nat):Int)=((UInt8.ofNat x.val &&& UInt8.ofNat (2 ^ k.val)).toNat:Int):=by decide +kernel
 have:=this ⟨n % 8,abB _ bP⟩ ⟨x.toNat,x.toNat_lt⟩
 simp_all[nY]
def Uw (row:List UInt8)(bits seed:Int)(l:List UInt8)(k:Nat):Bool:=(List.range k).all (λ(i:Nat)=>eH row (fj bits seed l (i:Int)))
theorem PH (row:List UInt8)(bits seed:Int)(l:List UInt8)(k:Nat):Uw row bits seed l (k+1)=(Uw row bits seed l k&&eH row (fj bits seed l (k:Int))):=by grind[Uw]
def B7 (row:List UInt8)(bits probes seed:Int)(r c:Int):Bool:=gc r c&&Uw row bits seed (kL r c) probes.toNat
def PI (bits probes:Int)(row:List UInt8):List UInt8:=[bits,probes].flatMap aO++bi ⟨row.toArray⟩
theorem jY (n:Int)(h:bF n):(aO n).length<=9:=by
 have h':=h
 grind[bF,bv]
section
variable {bits probes seed:Int} {row:List UInt8}
end
theorem Hp {l':List UInt8}{x:Int}(h:bI l e=(x,l',0)):e=0:=by grind[bI]
theorem i9 {lo hi:Int}{l':List UInt8}{x:Int}(h:af lo hi l e=(x,l',0)):e=0/\lo<=x/\x<=hi/\bI l e=(x,l',0):=by grind[af,Hp]
theorem Ap {most:Int}{l':List UInt8}{s:List UInt8}(h:bm most l e=(s,l',0)):∃x l1,af 0 most l e=(x,l1,0)/\s=l1.take x.toNat/\l'=l1.drop x.toNat/\0<=x/\x<=l1.length:=by grind[bm,af]
theorem Ey (h:dg l e=0):e=0/\l=[]:=by
 unfold dg at h
 split at h
 all_goals grind
def pe (bits:Int)(s:List UInt8):Prop:=0<bits.toNat % 8/\0<(s.getD (s.length-1) 0).toNat / 2 ^ (bits.toNat % 8)
theorem Ux (x:UInt8)(j:Nat)(hj:j<8)(h:0<x.toNat / 2 ^ j):∃k,j<=k/\k<8/\(x &&& nY k != 0)=true:=by
 have:∀j:Fin 8,∀x:Fin 256,0<x.val / 2 ^ j.val->∃k:Fin 8,j.val<=k.val/\(UInt8.ofNat x.val &&& nY k.val != 0)=true:=by decide +kernel
 obtain⟨k,h1,h2⟩:=this ⟨j,hj⟩ ⟨x.toNat,x.toNat_lt⟩ h
 exact⟨k.val,h1,k.isLt,by simpa using h2⟩
theorem Uy {bits:Int}{row:List UInt8}(h1:1<=bits)(hl:row.length=(bits.toNat+7) / 8)(h:∀n,eH row n=true->(n:Int)<bits):¬pe bits row:=by
 rintro⟨ha,hb⟩
 obtain⟨k,k1,k2,k3⟩:=Ux _ _ (abB _ bP) hb
 have:=h (8*(row.length-1)+k) (by
  unfold eH
  rw[show(8*(row.length-1)+k) / 8=row.length-1 by omega,show nY (8*(row.length-1)+k)=nY k by grind[nY]]
  simpa using k3)
 omega
def sv (bs:List Bool)(bits seed:Int)(l:List UInt8)(k:Nat):Bool:=(List.range k).all (λ(i:Nat)=>bs.getD (fj bits seed l (i:Int)) false)
theorem Hq (bs:List Bool)(bits seed:Int)(l:List UInt8)(k:Nat):sv bs bits seed l (k+1)=(sv bs bits seed l k&&bs.getD (fj bits seed l (k:Int)) false):=by grind[sv]
theorem Hr {bs:List Bool}{bits seed:Int}{l:List UInt8}{k q:Nat}(hk:k<q)(h:bs.getD (fj bits seed l (k:Int)) false=false):sv bs bits seed l q=false:=by grind[sv]
def xD (bs:List Bool)(bits probes seed:Int)(r c:Int):Bool:=gc r c&&sv bs bits seed (kL r c) probes.toNat
theorem Uz {top N:BP}{w:World}{v:Value}(h:eW top N 1 [[aK l]] w v):YM w v [l]:=by
 obtain⟨ad,c,b,of,h1,h2,h3,h4,h5,h6⟩:=h
 obtain⟨_,q⟩:=h6 0 [aK l] rfl
 obtain⟨y,r1,_,r3⟩:=q 0 (aK l) rfl
 refine⟨[y],rfl,⟨ad,c,b,of,h1,h2,h3,λh0=>(h5 h0).1,h4,λi x hx j u hu=>?_⟩,λi h h'=>?_⟩
 ·grind[WY]
 ·obtain rfl:i=0:=by simp at h;omega
  exact wy r3
theorem UA (seed:Int)(l:List UInt8):Fn prog 265 [iC .u64 seed,.bor 1 [[aK l]]] (.per (ai (.int .u64 (gY seed l)))):=by
 refine⟨⟨_,func265,by kernel_rfl,by kernel_rfl⟩,λN0 w vs _ ha=>?_⟩
 obtain⟨v,u,rfl,h1,h2⟩:=sa ha
 obtain rfl:v=.int .u64 seed:=h1
 refine Calls.mono (xC seed u [l] w (Uz h2)) ?_
 rintro e w' ⟨rfl,rfl⟩
 exact⟨_,rfl,bQ.refl _,by simp;rfl⟩
theorem XB (seed:Int)(l:List UInt8):Fn prog 352 [iC .u64 seed,dw l] (.per (ai (.int .u64 (gY seed l)))):=by
 refine⟨⟨_,func352,by kernel_rfl,by kernel_rfl⟩,λN0 w vs _ ha=>?_⟩
 obtain⟨v,u,rfl,h1,h2⟩:=sa ha
 obtain rfl:v=.int .u64 seed:=h1
 refine Calls.mono (Ao seed u l w (wy h2)) ?_
 rintro e w' ⟨rfl,rfl⟩
 exact⟨_,rfl,bQ.refl _,rfl⟩
abbrev Z3 (bits probes seed:Int)(row:List UInt8):PV:=em [ai (.int .i64 bits),ai (.int .i64 probes),ai (.int .u64 seed),cn 1 (row.map byteP)]
abbrev Y6 (row:List UInt8):Blk:=.row 5 1 (row.map byteP)
structure Y7 (bits probes:Int)(row:List UInt8):Prop where
 b1:1<=bits
 b2:bits<=4096
 p1:1<=probes
 p2:probes<=8
 len:row.length=(bits.toNat+7) / 8
theorem Aq (n:Nat):List.replicate n [ai (.int .u8 0)]=(List.replicate n (0:UInt8)).map byteP:=by rw[List.map_replicate];rfl
theorem PJ {row:List UInt8}{bits seed:Int}{l:List UInt8}{k q:Nat}(hk:k<q)(h:eH row (fj bits seed l (k:Int))=false):Uw row bits seed l q=false:=by
 rw[Uw,List.all_eq_false]
 grind
theorem PK {row:List UInt8}{m:Nat}(h:m / 8<row.length):bits BinOp.and IntKind.u8 ((row[m / 8].toNat:Nat):Int) ((2 ^ (m % 8):Nat):Int)=0↔eH row m=false:=by
 rw[PG]
 unfold eH
 rw[aaa h,Option.getD_some]
 simp only[bne_eq_false_iff_eq]
 constructor
 ·intro q;exact abg.1 (by simpa using q)
 ·intro q;rw[q];rfl
theorem UB {m:Nat}:IntKind.u8.wrap (1*2 ^ min (((m % 8:Nat):Int)).toNat IntKind.u8.bits)=((2 ^ (m % 8):Nat):Int):=by
 rw[Int.toNat_natCast]
 have h:m % 8<8:=abB _ bP
 have:∀k:Fin 8,IntKind.u8.wrap (1*2 ^ min k.val IntKind.u8.bits)=((2 ^ k.val:Nat):Int):=bP
 exact this ⟨m % 8,h⟩
instance (b:Int) (s:List UInt8):Decidable (pe b s):=by unfold pe;infer_instance
theorem PL (bits probes seed:Int)(h1:1<=bits)(h2:bits<=4096)(h3:1<=probes)(h4:probes<=8) :
 bZ prog 188 [iC .i64 bits,iC .i64 probes,iC .u64 seed] [] (.tup2 (.ptr 3000 0 0) (iC .i64 0)) [(3000,.box 260 [iC .i64 bits,iC .i64 probes,iC .u64 seed,.row 3001 0]),(3001,Y6 (List.replicate ((bits.toNat+7) / 8) 0))]:=by
 refine cp func188 ntmps188 ?_
 (repeat' (first|((first|apply aH rfl|apply cB rfl|apply aJ rfl|apply cC rfl);focus (first|((exact Ew (m:=(bits.toNat+7) / 8) ⟨rfl,rfl,rfl⟩ rfl aS aS rfl rfl rfl rfl ae ae))|(apply gR;(focus rfl);apply ag rfl rfl rfl rfl rfl;((exact Ew (m:=(bits.toNat+7) / 8) ⟨rfl,rfl,rfl⟩ rfl aS aS rfl rfl rfl rfl ae ae)))))|refine oq ?_|refine bW cI ?_|(refine dW rfl rfl ⟨λhc=>?_,λhc=>?_⟩<;>(repeat rw[aad]at hc)<;>(try exact cj hc))|((first|refine dX rfl rfl rfl ⟨λhc=>?_,λhc=>?_⟩|refine dY rfl rfl rfl ⟨λhc=>?_,λhc=>?_⟩)<;>(fail_if_success (have q:(true=true):=hc))<;>(fail_if_success (have q:(false=false):=hc))<;>(repeat rw[aad]at hc)<;>(try exact cj hc))|refine aQ rfl rfl (λhc=>?_) ?_))
 (refine⟨(by first|exact .inl rfl|exact .inr rfl),rX [(31,3000),(29,3001)] rfl rfl ?_ ?_ ?_⟩;(focus (repeat (first|exact bG.nil|(refine bG.cons rfl ?_ ?_;(focus first|rfl|skip))))))
 ·first|exact aaA (Blk.row _ 1) (Aq _)|exact aaA (Blk.row _ 1) (Aq _).symm
 ·exact bG.nil
 ·exact nd rfl rfl
 ·exact bh rfl rfl
theorem PM (r c:Int)(hr:bF r)(hc:bF c):Fn prog 356 [vb r c] (gN (kL r c)):=by
 have h:=jL [] [r,c] aA (Y5 hr hc)
 rw[aaE,JK]at h
 refine fi func356 ntmps356 ?_
 (refine au h ?_)
 exact dr (cJ rfl rfl rfl rfl)
theorem PN (bits probes seed:Int)(row l:List UInt8)(i:Nat)(hi:i<=1000)(h1:1<=bits)(h2:bits<=4096) :
 Fn prog 357 [.per (Z3 bits probes seed row),.per (aK l),iC .i64 (i:Nat)] (.tup2 (eA ((fj bits seed l i / 8:Nat):Int)) (.per (ai (.int .u8 ((2 ^ (fj bits seed l i % 8):Nat):Int))))):=by
 have hlt:=mW bits seed l i h1
 have hwi:IntKind.u64.wrap (i:Int)=(i:Int):=kV ae ae
 have hH:=UA (IntKind.u64.wrap (seed+i)) l
 have hP:(gY (IntKind.u64.wrap (seed+i)) l).tmod bits=((fj bits seed l i:Nat):Int):=by grind[gY,un,vS,fj,Int.toNat_of_nonneg,Int.emod_nonneg]
 have hsh:=@UB (fj bits seed l i)
 generalize gY (IntKind.u64.wrap (seed+i)) l=H at *
 generalize fj bits seed l i=m at *
 have hm8:((m / 8:Nat):Int)=(m:Int) / 8:=ae
 have hm9:((m % 8:Nat):Int)=(m:Int) % 8:=ae
 rw[hm9]at hsh
 rw[hm8]
 refine fi func357 ntmps357 ?_
 (repeat' (first|((first|apply aH rfl|apply cB rfl|apply aJ rfl|apply cC rfl);focus (first|((apply bn 10;(focus rfl);exact dR ⟨rfl,rfl,rfl⟩ rfl aS aS rfl (by with_reducible exact kV ae ae)))|(apply gR;(focus rfl);apply ag rfl rfl rfl rfl rfl;((apply bn 10;(focus rfl);exact dR ⟨rfl,rfl,rfl⟩ rfl aS aS rfl (by with_reducible exact kV ae ae))))|((apply bn 8;(focus rfl);exact iI ⟨rfl,rfl,rfl⟩ rfl rfl rfl rfl ((dB ae ae).trans (by assumption))))|(apply gR;(focus rfl);apply ag rfl rfl rfl rfl rfl;((apply bn 8;(focus rfl);exact iI ⟨rfl,rfl,rfl⟩ rfl rfl rfl rfl ((dB ae ae).trans (by assumption)))))|((exact tP ⟨rfl,rfl,rfl⟩ rfl rfl rfl ae hP))|(apply gR;(focus rfl);apply ag rfl rfl rfl rfl rfl;((exact tP ⟨rfl,rfl,rfl⟩ rfl rfl rfl ae hP)))|((exact B5 ⟨rfl,rfl,rfl⟩ rfl rfl rfl ae hsh))|(apply gR;(focus rfl);apply ag rfl rfl rfl rfl rfl;((exact B5 ⟨rfl,rfl,rfl⟩ rfl rfl rfl ae hsh)))))|refine oq ?_|refine bW cI ?_|(refine dW rfl rfl ⟨λhc=>?_,λhc=>?_⟩<;>(repeat rw[aad]at hc)<;>(try exact cj hc))|((first|apply aH rfl|apply cB rfl|apply aJ rfl|apply cC rfl);focus (first|exact nS (hH)))|((first|refine dX rfl rfl rfl ⟨λhc=>?_,λhc=>?_⟩|refine dY rfl rfl rfl ⟨λhc=>?_,λhc=>?_⟩)<;>(fail_if_success (have q:(true=true):=hc))<;>(fail_if_success (have q:(false=false):=hc))<;>(repeat rw[aad]at hc)<;>(try exact cj hc))|refine aQ rfl rfl (λhc=>?_) ?_))
 exact dV (aq rfl rfl) (aq rfl rfl)
theorem XC (bits probes seed:Int)(row:List UInt8)(hb:Y7 bits probes row)(r c:Int):Fn prog 350 [.per (Z3 bits probes seed row),vb r c] (dE (B7 row bits probes seed r c)):=by
 obtain⟨b1,b2,p1,p2,hlen⟩:=hb
 have h1:=p8 r c
 cases hr:gc r c with
 | false=>
  rw[hr]at h1
  rw[show B7 row bits probes seed r c=false by grind[B7]]
  refine fi func350 ntmps350 ?_
  (refine au h1 ?_;repeat' first|apply aw|refine ah λhc=>?_)
  exact dz
 | true=>
  rw[hr]at h1
  obtain⟨o1,o2⟩:=PF hr
  have h2:=(PM r c o1 o2).frz
  rw[show B7 row bits probes seed r c=Uw row bits seed (kL r c) probes.toNat by grind[B7]]
  generalize kL r c=l at *
  refine fi func350 ntmps350 ?_
  (refine bt h1 h2 ?_;repeat' first|apply aw|refine ah λhc=>?_)
  refine aj (X:=Nat) (λk=>(k:Int)<=probes/\Uw row bits seed l k=true)
   (λk=>aF [(0,.per (Z3 bits probes seed row)),(5,.per (aK l)),(28,iC .i64 probes),(29,iC .i64 (k:Nat))] []) (λk=>probes.toNat-k) 0 ⟨ae,rfl⟩ ?_
  rintro k ⟨hk,hP⟩
  by_cases hlt:(k:Int)<probes
  ·have h3:=PN bits probes seed row l k ae b1 b2
   have hml:=mW bits seed l k b1
   have hs1:=PH row bits seed l k
   have hs2:=@PJ row bits seed l k probes.toNat ae
   rw[hP,aaX]at hs1
   generalize fj bits seed l k=m at *
   have hm8:m / 8<row.length:=ae
   have haz:=PK hm8
   clear h1 h2 hP
   (repeat' (first|((first|apply aH rfl|apply cB rfl|apply aJ rfl|apply cC rfl);focus (first|((exact B4 ⟨rfl,rfl,rfl⟩ rfl rfl rfl rfl))|(apply gR;(focus rfl);apply ag rfl rfl rfl rfl rfl;((exact B4 ⟨rfl,rfl,rfl⟩ rfl rfl rfl rfl)))))|refine oq ?_|refine bW cI ?_|(refine dW rfl rfl ⟨λhc=>?_,λhc=>?_⟩<;>(repeat rw[aad]at hc)<;>(try exact cj hc))|((first|apply aH rfl|apply cB rfl|apply aJ rfl|apply cC rfl);focus (first|exact nS (h3)))|((first|refine dX rfl rfl rfl ⟨λhc=>?_,λhc=>?_⟩|refine dY rfl rfl rfl ⟨λhc=>?_,λhc=>?_⟩)<;>(fail_if_success (have q:(true=true):=hc))<;>(fail_if_success (have q:(false=false):=hc))<;>(repeat rw[aad]at hc)<;>(try exact cj hc))|refine aQ rfl rfl (λhc=>?_) ?_))
   ·rw[hs2 (haz.1 hc)]
    exact dz
   ·have hm1:eH row m=true:=by grind
    rw[hm1]at hs1
    refine⟨k+1,⟨ae,hs1⟩,ae,?_⟩
    exact ab
  ·have hkp:probes.toNat=k:=ae
   rw[hkp,hP]
   (refine w0 ?_;refine ah λhc=>?_)
   exact dz
def mn (b:List UInt8):(Int×Int×List UInt8)×Int:=
 let p:=af 1 4096 b 0
 let q:=af 1 8 p.2.1 p.2.2
 let s:=bm 281474976710656 q.2.1 q.2.2
 let e:=dg s.2.1 s.2.2
 if e≠0 then((0,0,[]),e)else if s.1.length=(p.1.toNat+7) / 8/\¬pe p.1 s.1 then((p.1,q.1,s.1),0)else((0,0,[]),11)
theorem sw {b:List UInt8}{p q:Int×List UInt8×Int}{s:List UInt8×List UInt8×Int}(h1:af 1 4096 b 0=p)(h2:af 1 8 p.2.1 p.2.2=q)(h3:bm 281474976710656 q.2.1 q.2.2=s)(h4:dg s.2.1 s.2.2=0) :
 1<=p.1/\p.1<=4096/\1<=q.1/\q.1<=8/\s.1.length<=b.length:=by
 obtain⟨s1,s2,s3⟩:=s
 obtain⟨q1,q2,q3⟩:=q
 obtain⟨p1,p2,p3⟩:=p
 simp only at h1 h2 h3 h4 ⊢
 obtain⟨rfl,_⟩:=Ey h4
 obtain⟨x,l1,a1,a2,a3,a4,a5⟩:=Ap h3
 obtain⟨rfl,_,_,_⟩:=i9 a1
 obtain⟨rfl,b1,b2,_⟩:=i9 h2
 obtain⟨_,c1,c2,_⟩:=i9 h1
 grind[aC]
theorem sx (s:List UInt8):(ByteArray.mk s.toArray).size=s.length:=by simp[ByteArray.size]
theorem JL {s:List UInt8}(h1:1<=p)(hl:s.length=(p.toNat+7) / 8):∃hk:(((ByteArray.mk s.toArray).size:Int)-1).toNat<(ByteArray.mk s.toArray).data.toList.length,
 (pe p s↔(p % 8>0/\(((ByteArray.mk s.toArray).data.toList[(((ByteArray.mk s.toArray).size:Int)-1).toNat].toNat:Nat):Int) / 2 ^ min (p % 8).toNat IntKind.u8.bits>0)):=by
 obtain⟨n,rfl⟩:=Int.eq_ofNat_of_zero_le (show 0<=p by omega)
 have h0:0<s.length:=ae
 have e1:(((ByteArray.mk s.toArray).size:Int)-1).toNat=s.length-1:=by rw[sx];omega
 refine⟨by rw[e1];grind,?_⟩
 have e2:((n:Int) % 8).toNat=n % 8:=ae
 have e3:min (n % 8) IntKind.u8.bits=n % 8:=by show min (n % 8) 8=_;omega
 grind[pe]
theorem Hs (b:List UInt8)(hb:b.length<=1000000)(seed:Int){x:Int×Int×List UInt8}(h:mn b=(x,e))(he:e≠0):Fn prog 102 [dw b,iC .u64 seed] (.tup2 (.per (ai (.pointer none))) (eA e)):=by
 dsimp only [mn]at h
 have h1:=dq b 0 1 4096
 generalize hp:af 1 4096 b 0=p at *
 have h2:=dq p.2.1 p.2.2 1 8
 generalize hq:af 1 8 p.2.1 p.2.2=q at *
 have h3:=nA q.2.1 q.2.2 281474976710656
 generalize hs:bm 281474976710656 q.2.1 q.2.2=s at *
 have h4:=Ad s.2.1 s.2.2
 generalize hE:dg s.2.1 s.2.2=v at *
 by_cases hv:v=0
 ·subst hv
  obtain⟨a1,a2,a3,a4,a5⟩:=sw hp hq hs hE
  clear hp hq hs hE
  have h5:=PL p.1 q.1 seed a1 a2 a3 a4
  have hSz:=sx s.1
  rw[aab aA]at h
  split at h
  ·grind
  ·rename_i hno
   obtain rfl:(11:Int)=e:=aaA Prod.snd h
   clear h
   by_cases hlen:s.1.length=(p.1.toNat+7) / 8
   ·obtain⟨hk,hT⟩:=JL a1 hlen
    have hT:=hT.1 (Decidable.of_not_not λq=>hno ⟨hlen,q⟩)
    generalize hZ:(((ByteArray.mk s.1.toArray).data.toList[(((ByteArray.mk s.1.toArray).size:Int)-1).toNat]'hk).toNat:Int) / 2 ^ min (p.1 % 8).toNat IntKind.u8.bits=Z at *
    clear hno
    refine fi func102 ntmps102 ?_
    (repeat' (first|((first|apply aH rfl|apply cB rfl|apply aJ rfl|apply cC rfl);focus (first|((apply bn 13;(focus rfl);exact mK ⟨rfl,rfl,rfl⟩ rfl aS rfl rfl ae hk))|(apply gR;(focus rfl);apply ag rfl rfl rfl rfl rfl;((apply bn 13;(focus rfl);exact mK ⟨rfl,rfl,rfl⟩ rfl aS rfl rfl ae hk)))|((exact jX ⟨rfl,rfl,rfl⟩ rfl rfl rfl ae hZ))|(apply gR;(focus rfl);apply ag rfl rfl rfl rfl rfl;((exact jX ⟨rfl,rfl,rfl⟩ rfl rfl rfl ae hZ)))))|refine oq ?_|refine bW cI ?_|(refine dW rfl rfl ⟨λhc=>?_,λhc=>?_⟩<;>(repeat rw[aad]at hc)<;>(try exact cj hc))|((first|apply aH rfl|apply cB rfl|apply aJ rfl|apply cC rfl);focus (first|exact OB (mR b ae)|exact ot (h1)|exact ot (h2)|exact ot (h3)|exact ot (h4)|exact Xi [(3000,650),(3001,651)] (h5)))|((first|refine dX rfl rfl rfl ⟨λhc=>?_,λhc=>?_⟩|refine dY rfl rfl rfl ⟨λhc=>?_,λhc=>?_⟩)<;>(fail_if_success (have q:(true=true):=hc))<;>(fail_if_success (have q:(false=false):=hc))<;>(repeat rw[aad]at hc)<;>(try exact cj hc))|refine aQ rfl rfl (λhc=>?_) ?_))
    exact dV (cS rfl) (aq rfl rfl)
   ·clear hno
    refine fi func102 ntmps102 ?_
    (have kn1:=mR b ae;have kr1:=h1;have kr2:=h2;have kr3:=h3;have kr4:=h4;have km1:=(show fK [(3000,650),(3001,651)] _ _ _ _ _ _ from h5);refine w0 ?_;(repeat' first|apply aw|refine ah λhc=>?_);all_goals clear km1 kr4 kr3 kr2 kr1 kn1)
    ·exact dV (cS rfl) (aq rfl rfl)
    all_goals (exfalso;simp only[List.length_replicate]at *;omega)
 ·rw[aae hv]at h
  obtain rfl:v=e:=aaA Prod.snd h
  refine fi func102 ntmps102 ?_
  (refine wO h1 h2 h3 h4 (mR b ae) ?_;refine ah λhc=>?_)
  exact dV (cS rfl) (aq rfl rfl)
theorem xE (b:List UInt8)(hb:b.length<=1000000)(seed:Int){bits probes:Int}{row:List UInt8}(h:mn b=((bits,probes,row),0)) :
 Y7 bits probes row/\Fn prog 102 [dw b,iC .u64 seed] (.tup2 (.per (Z3 bits probes seed row)) (eA 0)):=by
 dsimp only [mn]at h
 have h1:=dq b 0 1 4096
 generalize hp:af 1 4096 b 0=p at *
 have h2:=dq p.2.1 p.2.2 1 8
 generalize hq:af 1 8 p.2.1 p.2.2=q at *
 have h3:=nA q.2.1 q.2.2 281474976710656
 generalize hs:bm 281474976710656 q.2.1 q.2.2=s at *
 have h4:=Ad s.2.1 s.2.2
 generalize hE:dg s.2.1 s.2.2=v at *
 by_cases hv:v=0
 ·subst hv
  obtain⟨a1,a2,a3,a4,a5⟩:=sw hp hq hs hE
  clear hp hq hs hE
  rw[aab aA]at h
  split at h
  ·rename_i hok
   obtain⟨hlen,hnt⟩:=hok
   simp only[Prod.mk.injEq,and_true]at h
   obtain⟨rfl,rfl,rfl⟩:=h
   have h5:=PL p.1 q.1 seed a1 a2 a3 a4
   have hSz:=sx s.1
   refine⟨⟨a1,a2,a3,a4,hlen⟩,?_⟩
   obtain⟨hk,hT⟩:=JL a1 hlen
   rw[hT]at hnt
   have hlz:(ByteArray.mk s.1.toArray).size=((List.replicate ((p.1.toNat+7) / 8) (0:UInt8)).map byteP).length:=by simp[hSz,hlen]
   have hl0:0<((List.replicate ((p.1.toNat+7) / 8) (0:UInt8)).map byteP).length:=bD
   generalize hZ:(((ByteArray.mk s.1.toArray).data.toList[(((ByteArray.mk s.1.toArray).size:Int)-1).toNat]'hk).toNat:Int) / 2 ^ min (p.1 % 8).toNat IntKind.u8.bits=Z at *
   clear hT
   refine fi func102 ntmps102 ?_
   (repeat' (first|((first|apply aH rfl|apply cB rfl|apply aJ rfl|apply cC rfl);focus (first|((apply bn 13;(focus rfl);exact mK ⟨rfl,rfl,rfl⟩ rfl aS rfl rfl ae hk))|(apply gR;(focus rfl);apply ag rfl rfl rfl rfl rfl;((apply bn 13;(focus rfl);exact mK ⟨rfl,rfl,rfl⟩ rfl aS rfl rfl ae hk)))|((exact jX ⟨rfl,rfl,rfl⟩ rfl rfl rfl ae hZ))|(apply gR;(focus rfl);apply ag rfl rfl rfl rfl rfl;((exact jX ⟨rfl,rfl,rfl⟩ rfl rfl rfl ae hZ)))|((exact JI ⟨rfl,rfl,rfl⟩ rfl aS rfl rfl rfl rfl hlz hl0))|(apply gR;(focus rfl);apply ag rfl rfl rfl rfl rfl;((exact JI ⟨rfl,rfl,rfl⟩ rfl aS rfl rfl rfl rfl hlz hl0)))))|refine oq ?_|refine bW cI ?_|(refine dW rfl rfl ⟨λhc=>?_,λhc=>?_⟩<;>(repeat rw[aad]at hc)<;>(try exact cj hc))|((first|apply aH rfl|apply cB rfl|apply aJ rfl|apply cC rfl);focus (first|exact OB (mR b ae)|exact ot (h1)|exact ot (h2)|exact ot (h3)|exact ot (h4)|exact Xi [(3000,650),(3001,651)] (h5)))|((first|refine dX rfl rfl rfl ⟨λhc=>?_,λhc=>?_⟩|refine dY rfl rfl rfl ⟨λhc=>?_,λhc=>?_⟩)<;>(fail_if_success (have q:(true=true):=hc))<;>(fail_if_success (have q:(false=false):=hc))<;>(repeat rw[aad]at hc)<;>(try exact cj hc))|refine aQ rfl rfl (λhc=>?_) ?_))
   all_goals
    refine⟨.inl rfl,lQ (iW 651 _ 5 1 rfl rfl) (lQ (tZ 650 _ _ rfl rfl rfl) (Ds rfl ?_ ?_))⟩
    ·exact cS rfl
    ·exact aq rfl rfl
  grind
 grind
def boolP (b:Bool):List PV:=[ai (.bool b)]
abbrev qy (bs:List Bool)(probes seed:Int):PV:=cu [cn 1 (bs.map boolP),ai (.int .i64 probes),ai (.int .u64 seed)]
abbrev iO (bs:List Bool):Blk:=.row 4 1 (bs.map boolP)
theorem xF (n:Nat):List.replicate n [ai (.bool false)]=(List.replicate n false).map boolP:=by rw[List.map_replicate];rfl
theorem UD {x:UInt8}{n:Nat}:(((x.toNat / 2 ^ (n % 8):Nat):Int) % 2=1)↔(x &&& nY n != 0)=true:=by
 have:∀k:Fin 8,∀x:Fin 256,((((UInt8.ofNat x.val).toNat / 2 ^ k.val:Nat):Int) % 2=1)↔(UInt8.ofNat x.val &&& UInt8.ofNat (2 ^ k.val) != 0)=true:=by decide +kernel
 have:=this ⟨n % 8,abB _ bP⟩ ⟨x.toNat,x.toNat_lt⟩
 simp_all[nY]
theorem UE (n:Nat)(hn:n<=4096)(probes seed:Int):bZ prog 175 [iC .i64 (n:Nat),iC .i64 probes,iC .u64 seed] [] (rZ [.row 3000 0,iC .i64 probes,iC .u64 seed]) [(3000,iO (List.replicate n false))]:=by
 refine cp func175 ntmps175 ?_
 (repeat' (first|((first|apply aH rfl|apply cB rfl|apply aJ rfl|apply cC rfl);focus (first|((exact Ew (m:=n) ⟨rfl,rfl,rfl⟩ rfl aS aS rfl rfl rfl rfl ae ae))|(apply gR;(focus rfl);apply ag rfl rfl rfl rfl rfl;((exact Ew (m:=n) ⟨rfl,rfl,rfl⟩ rfl aS aS rfl rfl rfl rfl ae ae)))))|refine oq ?_|refine bW cI ?_|(refine dW rfl rfl ⟨λhc=>?_,λhc=>?_⟩<;>(repeat rw[aad]at hc)<;>(try exact cj hc))|((first|refine dX rfl rfl rfl ⟨λhc=>?_,λhc=>?_⟩|refine dY rfl rfl rfl ⟨λhc=>?_,λhc=>?_⟩)<;>(fail_if_success (have q:(true=true):=hc))<;>(fail_if_success (have q:(false=false):=hc))<;>(repeat rw[aad]at hc)<;>(try exact cj hc))|refine aQ rfl rfl (λhc=>?_) ?_))
 (refine⟨(by first|exact .inl rfl|exact .inr rfl),dv [(8,3000)] rfl rfl ?_ ?_⟩;(focus (repeat (first|exact bG.nil|(refine bG.cons rfl ?_ ?_;(focus first|rfl|skip))))))
 ·first|exact aaA (Blk.row _ 1) (xF _)|exact aaA (Blk.row _ 1) (xF _).symm
 ·exact bG.nil
 ·exact La rfl aS aS rfl rfl rfl rfl rfl rfl
theorem PO (bs:List Bool)(probes seed r c:Int)(i:Nat)(hi:i<=1000)(h1:1<=bs.length)(h2:bs.length<=4096)(hr:bF r)(hc:bF c) :
 Fn prog 338 [.per (qy bs probes seed),vb r c,iC .i64 (i:Nat)] (eA ((fj bs.length seed (kL r c) i:Nat):Int)):=by
 have hlt:=mW bs.length seed (kL r c) i ae
 have hwi:IntKind.u64.wrap (i:Int)=(i:Int):=kV ae ae
 have hp:=p7 [r,c] aA (Y5 hr hc)
 rw[JK]at hp
 have hH:=XB (IntKind.u64.wrap (seed+i)) (kL r c)
 have hP:(gY (IntKind.u64.wrap (seed+i)) (kL r c)).tmod bs.length=((fj bs.length seed (kL r c) i:Nat):Int):=by grind[gY,un,vS,fj,Int.toNat_of_nonneg,Int.emod_nonneg]
 generalize gY (IntKind.u64.wrap (seed+i)) (kL r c)=H at *
 generalize fj bs.length seed (kL r c) i=m at *
 generalize kL r c=l at *
 have hmm:(m:Int)=(m:Int):=rfl
 refine fi func338 ntmps338 ?_
 (repeat' (first|((first|apply aH rfl|apply cB rfl|apply aJ rfl|apply cC rfl);focus (first|((apply bn 10;(focus rfl);exact dR ⟨rfl,rfl,rfl⟩ rfl aS aS rfl (by with_reducible exact kV ae ae)))|(apply gR;(focus rfl);apply ag rfl rfl rfl rfl rfl;((apply bn 10;(focus rfl);exact dR ⟨rfl,rfl,rfl⟩ rfl aS aS rfl (by with_reducible exact kV ae ae))))|((apply bn 10;(focus rfl);exact dR ⟨rfl,rfl,rfl⟩ rfl aS aS rfl (by with_reducible exact dB ae ae)))|(apply gR;(focus rfl);apply ag rfl rfl rfl rfl rfl;((apply bn 10;(focus rfl);exact dR ⟨rfl,rfl,rfl⟩ rfl aS aS rfl (by with_reducible exact dB ae ae))))|((exact tP ⟨rfl,rfl,rfl⟩ rfl rfl rfl ae hP))|(apply gR;(focus rfl);apply ag rfl rfl rfl rfl rfl;((exact tP ⟨rfl,rfl,rfl⟩ rfl rfl rfl ae hP)))))|refine oq ?_|refine bW cI ?_|(refine dW rfl rfl ⟨λhc=>?_,λhc=>?_⟩<;>(repeat rw[aad]at hc)<;>(try exact cj hc))|((first|apply aH rfl|apply cB rfl|apply aJ rfl|apply cC rfl);focus (first|exact nS (hp)|exact nS (hH)))|((first|refine dX rfl rfl rfl ⟨λhc=>?_,λhc=>?_⟩|refine dY rfl rfl rfl ⟨λhc=>?_,λhc=>?_⟩)<;>(fail_if_success (have q:(true=true):=hc))<;>(fail_if_success (have q:(false=false):=hc))<;>(repeat rw[aad]at hc)<;>(try exact cj hc))|refine aQ rfl rfl (λhc=>?_) ?_))
 exact uZ
theorem XD (bs:List Bool)(probes seed r c:Int)(h1:1<=bs.length)(h2:bs.length<=4096)(p1:0<=probes)(p2:probes<=8):Fn prog 319 [.per (qy bs probes seed),vb r c] (dE (xD bs bs.length probes seed r c)):=by
 have hv:=qW r c
 cases hr:gc r c with
 | false=>
  rw[hr]at hv
  rw[show xD bs bs.length probes seed r c=false by grind[xD]]
  refine fi func319 ntmps319 ?_
  (refine au hv ?_;refine ah λhc=>?_)
  exact dz
 | true=>
  rw[hr]at hv
  obtain⟨o1,o2⟩:=PF hr
  rw[show xD bs bs.length probes seed r c=sv bs bs.length seed (kL r c) probes.toNat by grind[xD]]
  refine fi func319 ntmps319 ?_
  (refine au hv ?_;refine ah λhc=>?_)
  refine aj (X:=Nat) (λk=>(k:Int)<=probes/\sv bs bs.length seed (kL r c) k=true)
   (λk=>aF [(2,.ptr 2 0 0),(3,.ptr 3 0 0),(5,iC .i64 (k:Nat))] [(2,.box 155 [.per (cn 1 (bs.map boolP)),iC .i64 probes,iC .u64 seed]),(3,.box 77 [iC .i64 r,iC .i64 c])]) (λk=>probes.toNat-k) 0 ⟨ae,rfl⟩ ?_
  rintro k ⟨hk,hP⟩
  by_cases hlt:(k:Int)<probes
  ·have h3:=PO bs probes seed r c k ae h1 h2 o1 o2
   have hml:=mW bs.length seed (kL r c) k ae
   have hs1:=Hq bs bs.length seed (kL r c) k
   have hs2:=@Hr bs bs.length seed (kL r c) k probes.toNat ae
   rw[hP,aaX]at hs1
   generalize fj bs.length seed (kL r c) k=m at *
   have hm8:m<bs.length:=ae
   have hg:bs.getD m false=bs[m]:=by rw[List.getD_eq_getElem?_getD,aaa hm8];rfl
   rw[hg]at hs1 hs2
   clear hv hP hg
   (refine au h3 ?_;repeat' first|apply aw|refine ah λhc=>?_)
   ·rw[hs2 (by assumption)]
    exact dz
   ·rename_i hc
    refine⟨k+1,⟨ae,hs1.trans hc⟩,ae,?_⟩
    exact ab
  ·have hkp:probes.toNat=k:=ae
   rw[hkp,hP]
   (refine w0 ?_;refine ah λhc=>?_)
   exact dz
def jO (n:Nat)(row:List UInt8):List Bool:=(List.range n).map (eH row)
theorem nJ (n:Nat)(row:List UInt8):(jO n row).length=n:=by simp[jO]
theorem Ez {n:Nat}{row:List UInt8}{m:Nat}(h:m<n):(jO n row).getD m false=eH row m:=by simp[jO,h]
def JM (n:Nat)(row:List UInt8):Prop:=∀m,eH row m=true->m<n
theorem Ht {n:Nat}{row:List UInt8}(h1:1<=n)(probes seed r c:Int):xD (jO n row) n probes seed r c=B7 row n probes seed r c:=by
 unfold xD B7
 congr 1
 unfold sv Uw
 rw[aav,aaH,aaH]
 have:∀i:Nat,(jO n row).getD (fj n seed (kL r c) i) false=eH row (fj n seed (kL r c) i):=λi=>Ez (by have:=mW n seed (kL r c) i ae;omega)
 simp only[this]
theorem PQ {bits:Int}{row:List UInt8}(_:1<=bits)(hl:row.length=(bits.toNat+7) / 8)(h:¬pe bits row):JM bits.toNat row:=λm hm=>by
 rcases aaF m bits.toNat with q|q
 ·exact q
 exfalso
 apply h
 have hm8:m / 8<row.length:=by
  rcases aaF (m / 8) row.length with g|g
  all_goals simp_all[eH]
 have e1:m / 8=row.length-1:=ae
 have e2:0<bits.toNat % 8:=ae
 have e3:bits.toNat % 8<=m % 8:=ae
 refine⟨e2,?_⟩
 unfold eH at hm
 rw[e1]at hm
 rw[List.getD_eq_getElem?_getD]
 generalize row[row.length-1]?.getD 0=x at *
 have:∀j k:Fin 8,∀x:Fin 256,j<=k->(UInt8.ofNat x.val &&& UInt8.ofNat (2 ^ k.val) != 0)=true->0<(UInt8.ofNat x.val).toNat / 2 ^ j.val:=by decide +kernel
 have:=this ⟨bits.toNat % 8,abB _ bP⟩ ⟨m % 8,abB _ bP⟩ ⟨x.toNat,x.toNat_lt⟩ e3
 simp_all[nY]
theorem XE {bits:Int}{row:List UInt8}(h1:1<=bits)(hl:row.length=(bits.toNat+7) / 8)(h:JM bits.toNat row):¬pe bits row:=Uy h1 hl λn hn=>by have:=h n hn;omega
theorem Lz {b:List UInt8}{bits probes:Int}{row:List UInt8}(h:mn b=((bits,probes,row),0)):PI bits probes row=b/\row.length=(bits.toNat+7) / 8/\1<=bits/\bits<=4096/\1<=probes/\probes<=8/\JM bits.toNat row:=by
 dsimp only [mn]at h
 generalize hp:af 1 4096 b 0=p at *
 generalize hq:af 1 8 p.2.1 p.2.2=q at *
 generalize hs:bm 281474976710656 q.2.1 q.2.2=s at *
 split at h
 ·grind
 ·rename_i he
  have he:=Decidable.of_not_not he
  obtain⟨a1,a2,a3,a4,a5⟩:=sw hp hq hs he
  split at h
  ·rename_i hok
   obtain⟨hl,hnt⟩:=hok
   simp only[Prod.mk.injEq,and_true]at h
   obtain⟨rfl,rfl,rfl⟩:=h
   refine⟨?_,hl,a1,a2,a3,a4,PQ a1 hl hnt⟩
   obtain⟨s1,s2,s3⟩:=s
   obtain⟨q1,q2,q3⟩:=q
   obtain⟨p1,p2,p3⟩:=p
   simp only at hp hq hs he ⊢
   obtain⟨rfl,rfl⟩:=Ey he
   obtain⟨x,l1,b1,b2,b3,b4,b5⟩:=Ap hs
   obtain⟨rfl,_,_,b6⟩:=i9 b1
   obtain⟨rfl,_,_,c6⟩:=i9 hq
   obtain⟨_,_,_,d6⟩:=i9 hp
   have e1:=(fS (l:=b) (e:=0) (by rw[d6])).2.2
   have e2:=(fS (l:=p2) (e:=0) (by rw[c6])).2.2
   have e3:=(fS (l:=q2) (e:=0) (by rw[b6])).2.2
   rw[d6]at e1;rw[c6]at e2;rw[b6]at e3
   simp only at e1 e2 e3
   have e4:x.toNat=l1.length:=by
    have:=aaA List.length b3
    rw[abe,List.length_nil]at this
    omega
   grind[PI,bi,sx,aO]
  grind
def mq (n:Nat)(row:List UInt8)(i:Nat):List Bool:=(List.range n).map λm=>decide (m<i)&&eH row m
theorem LA (n:Nat)(row:List UInt8):mq n row 0=List.replicate n false:=by
 apply List.ext_getElem
 all_goals grind[mq]
theorem pf (n:Nat)(row:List UInt8)(i:Nat):(mq n row i).length=n:=by simp[mq]
theorem LB {n:Nat}{row:List UInt8}{i:Nat}(h:eH row i=false):mq n row (i+1)=mq n row i:=by grind[mq]
theorem PR {n:Nat}{row:List UInt8}{i:Nat}(h:eH row i=true):(mq n row i).set i true=mq n row (i+1):=by
 apply List.ext_getElem
 all_goals grind[mq]
theorem PS {n:Nat}{row:List UInt8}{i:Nat}(h:n<=i):mq n row i=jO n row:=by
 apply List.ext_getElem
 all_goals grind[mq,jO]
abbrev zblP:PV:=cu [ai (.slice none 0 0),ai (.int .i64 0),ai (.int .u64 0)]
def YH (x:(Int×Int×List UInt8)×Int)(seed:Int):PV:=if x.2=0 then qy (jO x.1.1.toNat x.1.2.2) x.1.2.1 seed else zblP
theorem JN (b:List UInt8)(hb:b.length<=1000000)(seed:Int):Fn prog 94 [.per (aK b),iC .u64 seed] (.tup2 (.per (YH (mn b) seed)) (eA (mn b).2)):=by
 have hs0:b <:+ b:=aa5 b
 have hb':b.length<=1000000000000:=ae
 generalize hX:mn b=X
 dsimp only [mn]at hX
 have h1:=bu b b 0 hs0 hb' 1 4096
 have hs1:=(aC 1 4096 b 0).trans hs0
 generalize hp:af 1 4096 b 0=p at *
 have h2:=bu b p.2.1 p.2.2 hs1 hb' 1 8
 have hs2:=(aC 1 8 p.2.1 p.2.2).trans hs1
 generalize hq:af 1 8 p.2.1 p.2.2=q at *
 have h3:=gK b q.2.1 q.2.2 hs2 hb' 281474976710656
 have hs3:=(bL 281474976710656 q.2.1 q.2.2).trans hs2
 generalize hs:bm 281474976710656 q.2.1 q.2.2=s at *
 have h4:=lj b s.2.1 s.2.2 hs3
 generalize hE:dg s.2.1 s.2.2=v at *
 have e0:((b.length-b.length:Nat):Int)=0:=ae
 unfold d0 at h1
 rw[e0]at h1
 clear hs0 hs1 hs2 hs3
 by_cases hv:v=0
 ·subst hv
  obtain⟨a1,a2,a3,a4,a5⟩:=sw hp hq hs hE
  clear hp hq hs hE
  rw[aab aA]at hX
  obtain⟨n,hn⟩:=Int.eq_ofNat_of_zero_le (show 0<=p.1 by omega)
  have h5:=UE n ae q.1 seed
  rw[<-hn]at h5
  have hSz:=sx s.1
  by_cases hl:s.1.length=(p.1.toNat+7) / 8
  ·have hA:∀i,eH s.1 i=true->n<=i->X=((0,0,[]),11):=λi hi hni=>by
    rw[<-hX,aab]
    rintro⟨_,hnt⟩
    have:=PQ a1 hl hnt i hi
    omega
   have hB:JM n s.1->X=((p.1,q.1,s.1),0):=λht=>by
    rw[<-hX,aae]
    grind[XE]
   clear hX
   obtain⟨S,hS⟩:∃S:ByteArray,S=⟨s.1.toArray⟩:=⟨_,rfl⟩
   have hSl:S.data.toList=s.1:=by rw[hS]
   rw[<-hS]at h3 hSz
   refine fi func94 ntmps94 ?_
   (refine wO h1 h2 h3 h4 h5 ?_;repeat' first|apply aw|refine ah λhc=>?_)
   refine ci (X:=Nat) (λi=>i<=8*s.1.length/\∀m,m<i->eH s.1 m=true->m<n)
    (λi=>aF [(4,.ptr 4 0 0),(7,iC .i64 p.1),(9,sC S),(10,.ptr 10 0 0),(11,iC .i64 (i:Nat))] [(4,.box 155 [.per (ai (.slice none 0 0)),iC .i64 0,iC .u64 0]),(10,.box 155 [.row 32 0,iC .i64 q.1,iC .u64 seed]),(32,iO (mq n s.1 i))]) (λi=>8*s.1.length-i) 0 ⟨aag _,λm hm=>ae⟩ ?_ ?_
   ·rw[LA]
    exact ab
   ·rintro i ⟨g1,g2⟩
    clear h1 h2 h3 h4 h5
    by_cases hi:i<8*s.1.length
    ·have hi8:i / 8<s.1.length:=ae
     have hcx:S.data.toList[i / 8]?=some s.1[i / 8]:=by rw[hSl];grind
     have hz:(i:Int) / 8=((i / 8:Nat):Int):=ae
     have hbd:=@UD s.1[i / 8] i
     have hbit:eH s.1 i=(s.1[i / 8] &&& nY i != 0):=by grind[eH]
     rw[<-hbit]at hbd
     clear hbit
     have hx:=s.1[i / 8].toNat_lt
     generalize s.1[i / 8]=x at *
     (repeat' (first|((first|apply aH rfl|apply cB rfl|apply aJ rfl|apply cC rfl);focus (first|((apply bn 13;(focus rfl);exact ji ⟨rfl,rfl,rfl⟩ rfl aS rfl rfl hz hcx))|(apply gR;(focus rfl);apply ag rfl rfl rfl rfl rfl;((apply bn 13;(focus rfl);exact ji ⟨rfl,rfl,rfl⟩ rfl aS rfl rfl hz hcx)))))|refine oq ?_|refine bW cI ?_|(refine dW rfl rfl ⟨λhc=>?_,λhc=>?_⟩<;>(repeat rw[aad]at hc)<;>(try exact cj hc))|((first|refine dX rfl rfl rfl ⟨λhc=>?_,λhc=>?_⟩|refine dY rfl rfl rfl ⟨λhc=>?_,λhc=>?_⟩)<;>(fail_if_success (have q:(true=true):=hc))<;>(fail_if_success (have q:(false=false):=hc))<;>(repeat rw[aad]at hc)<;>(try exact cj hc))|refine aQ rfl rfl (λhc=>?_) ?_))
     refine aj (X:=Nat×Nat) (λt=>t.1<=i % 8/\t.2=x.toNat / 2 ^ t.1)
      (λt=>aF [(4,.ptr 4 0 0),(7,iC .i64 p.1),(9,sC S),(10,.ptr 10 0 0),(11,iC .i64 (i:Nat)),(12,iC .i64 (t.2:Nat)),(13,iC .i64 (t.1:Nat))] [(4,.box 155 [.per (ai (.slice none 0 0)),iC .i64 0,iC .u64 0]),(10,.box 155 [.row 32 0,iC .i64 q.1,iC .u64 seed]),(32,iO (mq n s.1 i))]) (λt=>i % 8-t.1) (0,x.toNat) ⟨aag _,aA⟩ ?_
     rintro⟨k,y⟩ ⟨hk,hy0⟩
     simp only at hk hy0 ⊢
     by_cases hlt:k<i % 8
     ·obtain⟨z,hz2⟩:∃z,z=x.toNat / 2 ^ (k+1):=⟨_,rfl⟩
      have hdv:(y:Int) / 2=(z:Int):=by rw[hz2,hy0,Nat.pow_succ,<-Nat.div_div_eq_div_mul];omega
      have hle:y<=x.toNat:=by rw[hy0];exact Nat.div_le_self _ _
      clear hy0
      (refine w0 ?_;refine ah λhc=>?_)
      refine⟨(k+1,z),⟨aL,hz2⟩,aL,?_⟩
      exact ab
     ·obtain rfl:k=i % 8:=ae
      have hle:y<=x.toNat:=by rw[hy0];exact Nat.div_le_self _ _
      have HJ:∀hin:i<n,((mq n s.1 i).map boolP)[i]?=some (boolP ((mq n s.1 i)[i]'(by rw[pf];exact hin))):=λhin=>by rw[List.getElem?_map,aaa (by rw[pf];exact hin)];rfl
      have hul:=pf n s.1 i
      rw[<-hy0]at hbd
      clear hy0
      by_cases hbt:eH s.1 i=true
      ·have hy:(y:Int) % 2=1:=hbd.2 hbt
       by_cases hin:i<n
       ·replace HJ:=HJ hin
        have HS:((mq n s.1 i).map boolP).set i (cN (boolP ((mq n s.1 i)[i]'(by rw[pf];exact hin))) 0 (boolP true))=(mq n s.1 (i+1)).map boolP:=by rw[<-PR hbt,List.map_set];rfl
        generalize (mq n s.1 i)[i]'(by rw[pf];exact hin)=bb at *
        generalize mq n s.1 i=U at *
        (refine w0 ?_;repeat' first|apply aw|refine ah λhc=>?_|((first|apply aH rfl|apply cB rfl|apply aJ rfl|apply cC rfl);(focus (try apply ag rfl rfl rfl rfl rfl);((apply bn 6;(focus rfl);exact aW ⟨rfl,rfl⟩ rfl aS rfl rfl rfl rfl HJ rfl (bd rfl rfl rfl) rfl HS)));refine w0 ?_))
        refine⟨i+1,⟨ae,λm hm hh=>?_⟩,ae,?_⟩
        ·grind
        ·exact ab
       ·have hX:=hA i hbt ae
        subst hX
        (refine w0 ?_;repeat' first|apply aw|refine ah λhc=>?_)
        refine⟨.inl rfl,Ds rfl ?_ ?_⟩
        ·exact Od
        ·exact aq rfl rfl
      ·have hy:¬(y:Int) % 2=1:=λq=>hbt (hbd.1 q)
       have hsk:=LB (n:=n) (by simpa using hbt:eH s.1 i=false)
       rw[<-hsk]
       clear HJ
       (refine w0 ?_;repeat' first|apply aw|refine ah λhc=>?_)
       refine⟨i+1,⟨ae,λm hm hh=>?_⟩,ae,?_⟩
       ·grind
       ·exact ab
    ·have hi':i=8*s.1.length:=ae
     have hX:=hB λm hm=>by
      rcases aaF m i with q|q
      ·exact g2 m q hm
      ·exfalso
       unfold eH at hm
       rw[List.getElem?_eq_none ae]at hm
       simp at hm
     subst hX
     rw[PS ae]
     have hV:YH ((p.1,q.1,s.1),0) seed=qy (jO n s.1) q.1 seed:=by grind[YH]
     rw[hV]
     (refine w0 ?_;refine ah λhc=>?_)
     refine⟨.inl rfl,lQ (iW 32 _ 4 1 rfl rfl) (Ds rfl ?_ ?_)⟩
     ·exact Od
     ·exact aq rfl rfl
  ·rw[aab (λq=>hl q.1)]at hX
   subst hX
   refine fi func94 ntmps94 ?_
   (refine wO h1 h2 h3 h4 h5 ?_;repeat' first|apply aw|refine ah λhc=>?_)
   refine⟨.inl rfl,Ds rfl ?_ ?_⟩
   ·exact Od
   ·exact aq rfl rfl
 ·rw[aae hv]at hX
  subst hX
  have hV:YH ((0,0,[]),v) seed=zblP:=by grind[YH]
  rw[hV]
  refine fi func94 ntmps94 ?_
  (refine nU h1 h2 h3 h4 ?_;refine ah λhc=>?_)
  refine⟨.inl rfl,Ds rfl ?_ ?_⟩
  ·exact Od
  ·exact aq rfl rfl
