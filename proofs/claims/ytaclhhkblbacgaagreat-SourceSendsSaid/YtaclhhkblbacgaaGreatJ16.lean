/- Texts joined: AbsB AbsP Hash Bp. -/
import Derived.Laws.MakeOwn
import Derived.Lib.BufferWrite
import Derived.Test.YtaclhhkblbacgaaGreatJ15
set_option maxRecDepth 10000
set_option maxHeartbeats 8000000
namespace Go.Proofs.YtaclhhkblbacgaaGreat
open Go.RowKit Go.Proofs.Tryz
variable {ty ty':TypeId} {x y:Operand} {k:IntKind} {p q z:Int} {ids:List Nat} {l:List UInt8} {e:Int}
section
variable {P:Program} {n t:Nat} {ops:Array Oper} {o:Oper} {S:St}
theorem zn (hp:Pl n o t)(ho:o.op=.binOp .and ty x y ty')(hx:S.opd x=iC k p)(hy:S.opd y=iC k q)(hz:bits .and k p q=z):aw n P ops o (az x++az y) (iC k z) [] S:=
 aV hp fun C T g a w hA hR=>by
  have h1:=aP (x:=x) hA (fun k h=>by simp[h]) hR hx
  have h2:=aP (x:=y) hA (fun k h=>by simp[h]) hR hy
  subst hz
  refine⟨.int k (bits .and k p q),fy ho h1 h2 ?_,rfl⟩
  rw[show eqGuard .and ty x y (.int k p) (.int k q)=pure ()from rfl]
  simp only[binOp_and]
  rfl
theorem RF (hp:Pl n o t)(ho:o.op=.binOp .or ty x y ty')(hx:S.opd x=iC k p)(hy:S.opd y=iC k q)(hz:bits .or k p q=z):aw n P ops o (az x++az y) (iC k z) [] S:=
 aV hp fun C T g a w hA hR=>by
  have h1:=aP (x:=x) hA (fun k h=>by simp[h]) hR hx
  have h2:=aP (x:=y) hA (fun k h=>by simp[h]) hR hy
  subst hz
  refine⟨.int k (bits .or k p q),fy ho h1 h2 ?_,rfl⟩
  rw[show eqGuard .or ty x y (.int k p) (.int k q)=pure ()from rfl]
  simp only[binOp_or]
  rfl
theorem zo {k':IntKind}(hp:Pl n o t)(ho:o.op=.binOp .shl ty x y ty')(hx:S.opd x=iC k p)(hy:S.opd y=iC k' q)(hq:0≤q)(hz:k.wrap (p*2 ^ min q.toNat k.bits)=z):aw n P ops o (az x++az y) (iC k z) [] S:=
 aV hp fun C T g a w hA hR=>by
  have h1:=aP (x:=x) hA (fun k h=>by simp[h]) hR hx
  have h2:=aP (x:=y) hA (fun k h=>by simp[h]) hR hy
  subst hz
  refine⟨.int k (k.wrap (p*2 ^ min q.toNat k.bits)),fy ho h1 h2 ?_,rfl⟩
  rw[show eqGuard .shl ty x y (.int k p) (.int k' q)=pure ()from rfl]
  simp only[binOp_shl,shift_shl_any k k' p q hq]
  rfl
theorem jA {k':IntKind}(hp:Pl n o t)(ho:o.op=.binOp .shr ty x y ty')(hx:S.opd x=iC k p)(hy:S.opd y=iC k' q)(hq:0≤q)(hz:p / 2 ^ min q.toNat k.bits=z):aw n P ops o (az x++az y) (iC k z) [] S:=
 aV hp fun C T g a w hA hR=>by
  have h1:=aP (x:=x) hA (fun k h=>by simp[h]) hR hx
  have h2:=aP (x:=y) hA (fun k h=>by simp[h]) hR hy
  subst hz
  refine⟨.int k (p / 2 ^ min q.toNat k.bits),fy ho h1 h2 ?_,rfl⟩
  rw[show eqGuard .shr ty x y (.int k p) (.int k' q)=pure ()from rfl]
  simp only[binOp_shr,shift_shr_any k k' p q hq]
  rfl
theorem kz (h1:0≤z)(h2:z≤18446744073709551615):IntKind.u64.wrap z=z:=by
 simp[IntKind.wrap,IntKind.bits,IntKind.signed];omega
theorem Ma {t e bytes:Nat}(hT:TI P t e 1 bytes)(z:Value)(hz:(P.info? e).bind (·.zero)=some z)(hz1:z.cells=#[z])(kl:IntKind)(n:Int)(h0:0≤n)(hb:n≤1099511627776)(hb1:bytes≤64)(w:World) :
 (Instr.makeSlice t (.int kl n) (.int kl n)).run P w=.ok (.slice (some ⟨w.heap.size,0,none⟩) n.toNat n.toNat) (w.alloc (.cells (Array.replicate n.toNat z) e)):=by
 obtain⟨i,z',hi,hz',h1,h2,h3⟩:=hT.info
 rw[hi]at hz
 simp only[Option.bind_some]at hz
 rw[hz']at hz
 obtain rfl:=Option.some.inj hz
 have hle:(i.bytes:Int)*n≤64*1099511627776:=Int.mul_le_mul ab hb h0 ab
 have:=run_make (P:=P) w t e i z' hT.und hi hz' kl kl n n h0 (Int.le_refl _) ab ab
 rw[this,h1,hz1]
 congr 3
 unfold madeCells
 apply Array.ext
 ·simp
 ·intro j hj1 hj2
  simp[Nat.mod_one]
theorem Cc {ty e bytes:Nat}{kk:IntKind}{m:Nat}{z:Value}(hp:Pl n o t)(ho:o.op=.makeSlice ty x x)(hT:tl P ty e 1 bytes)(hz:k8 P e z)(hz1:z.cells=#[z])(h1:z.oneCell'=true)(hby:Nat.ble bytes 64=true)
 (hx:S.opd x=iC kk q) (hq:q=(m:Int)) (hm:m≤1000000000) :
 aw n P ops o ((2*t+1)::az x) (.row t (S.ver t+1)) [(t,S.ver t+1,.row e 1 (List.replicate m [ak z]))] S:=
 qd hp au fun C T g a w hA hR=>by
  have h:=aP (x:=x) hA (fun k h=>by simp[h]) hR hx
  subst hq
  have hrun:=Ma hT.h z hz.h hz1 kk (m:Int) ab ab (Wc hby) w
  rw[Int.toNat_natCast]at hrun
  refine⟨.slice (some ⟨w.heap.size,0,none⟩) m m,w.alloc (.cells (Array.replicate m z) e),w.heap.size,?_,(eX.refl w).alloc _,V8 _,gF _ _,fun vr' hvr hst=>⟨?_,?_⟩⟩
  ·simp only[execOp,ho,h,Sem.run_bind,hrun];rfl
  ·exact⟨by rw[hvr,V6 rfl];exact V8 _,fun _=>(V6 rfl).symm⟩
  ·have hph:(g.mk1 t w.heap.size (.slice (some ⟨w.heap.size,0,none⟩) m m)).ph t=w.heap.size:=V6 rfl
   have hrh:(g.mk1 t w.heap.size (.slice (some ⟨w.heap.size,0,none⟩) m m)).rh t=.slice (some ⟨w.heap.size,0,none⟩) m m:=V6 rfl
   refine .inr ⟨m,Array.replicate m z,by rw[hrh,hph,List.length_replicate],by rw[hph];exact heap_alloc_new w _,by rw[hph];exact V6 rfl,au,by unfold maxLen;omega,au,fun i ps hi=>?_⟩
   rw[List.getElem?_replicate]at hi
   split at hi
   ·rename_i him
    cases hi
    refine⟨rfl,fun j A hj=>?_⟩
    cases j with
    | zero=>simp at hj;subst hj;exact⟨z,by simp[him],h1,rfl⟩
    | succ j=>simp at hj
   ·cases hi
theorem Gj {dT sT e bytes:Nat}{id vr:Nat}{es:List (List PV)}{u:ByteArray}(hp:Pl n o t)(ho:o.op=.call { callee:=.builtin .copy,args:=#[x,y],argTypes:=#[dT,sT] })(hT:tl P dT e 1 bytes)
 (hx:S.opd x=.row id vr) (hv:S.ver id=vr) (hb:S.blk id=.row e 1 es) (hy:S.opd y=sC u) (hl:u.size=es.length) (h0:0<es.length) :
 aw n P ops o ((2*id+1)::(az x++az y)) (iC .i64 ((u.size:Nat):Int)) [(id,vr,.row e 1 (u.data.toList.map byteP))] S:=by
 refine⟨?_⟩
 intro C T hA a w ⟨g,hR⟩
 have hxe:=aG (x:=x) hA (fun k h=>by simp[h]) hR
 rw[hx]at hxe
 have hvt:=(hA.2 id au).2
 have hev:=hxe.2 (by rw[hvt,hv])
 have hye:=aP (x:=y) hA (fun k h=>by simp[h]) hR hy
 have hB:=hR.blks id
 rw[(hA.2 id au).1,hb]at hB
 rcases hB with⟨_,rfl⟩|⟨cap,cs,q1,q2,q3,q4,q5,q6,q7⟩
 ·simp at h0
 rw[q1]at hev
 have hinf:(P.info? e).map (·.size)=some 1:=by
  obtain⟨i,z',hi,hz',h1,h2,h3⟩:=hT.h.info
  rw[hi,W5,h1]
 have hrun:=Lib.run_copy_row_string (P:=P) w dT sT o.type e (g.ph id) 0 es.length cap u cs e hT.h.und hinf q2 ab ab
 unfold iM
 rw[V6 (hp.wanted a)]
 unfold Oper.wp
 have hex:(execOp a.eval o).run P w=.ok (.value (goInt u.size)) (w.setRow (g.ph id) (cs.toList.take 0++Lib.byteCells u.data.toList++cs.toList.drop (0+u.size)).toArray):=by
  simp only[execOp,ho,resolve,invoke,builtin,Sem.run_bind,Sem.run_pure,Result.andThen_ok,List.map_toArray,List.map_cons,List.map_nil,hev,hye,hrun]
 rw[hex,Oper.upon_value]
 have hst:=n9 (cs':=(cs.toList.take 0++Lib.byteCells u.data.toList++cs.toList.drop (0+u.size)).toArray) hR rfl q2 q3
 have hver:(T.app o.dst (iC .i64 ((u.size:Nat):Int)) [(id,vr,.row e 1 (u.data.toList.map byteP))]).ver=T.ver:=by
  funext i'
  rw[St.app_some_ver]
  split
  ·rename_i h;subst h;rw[hvt,hv]
  ·rfl
 refine⟨g,hR.app1 hp.dOk (by rw[hver];exact hst) rfl ?_⟩
 rw[hver]
 have hul:u.data.toList.length=u.size:=by rw[W9];rfl
 have hcap:u.size≤cs.size:=ab
 have hbl:(Lib.byteCells u.data.toList).length=u.size:=by simp[Lib.byteCells,hul]
 refine .inr ⟨cap,_,by rw[V7,hul,hl];exact q1,setRow_heap _ _ _ _ _ _ q2,q3,by rw[V7];omega,q5,by simp[hbl];omega,fun i ps hi=>?_⟩
 rw[List.getElem?_map]at hi
 cases hc:u.data.toList[i]? with
 | none=>rw[hc]at hi;cases hi
 | some c=>
  rw[hc]at hi;cases hi
  refine⟨rfl,fun j A hj=>?_⟩
  cases j with
  | succ j=>simp[byteP]at hj
  | zero=>
   simp[byteP]at hj;subst hj
   have hil:i<u.size:=by rw[←hul];exact(Ws.1 hc).1
   refine⟨.int .u8 (c.toNat:Int),?_,rfl,rfl⟩
   rw[W3,List.take_zero,Wu,Wl (by rw[hbl];omega)]
   simp only[Lib.byteCells,List.getElem?_map,Xr,WW,hc];rfl
end
section
variable {P:Program} {n:Nat} {ops:Array Oper} {o:Oper} {S:St} {t:Nat}
def Cd (ids:List Nat):List Nat:=ids.map fun i=>2*i+1
theorem Mb:∀i∈ids,2*i+1∈Cd ids:=fun i hi=>List.mem_map.2 ⟨i,hi,rfl⟩
theorem rN.mono {F F':List Nat}{c:Cnt}(h:rN F S ids x c)(hF:∀k∈F,k∈F'):rN F' S ids x c:=
 fun n C T g a w hA hR=>h n C T g a w ⟨fun t ht=>hA.1 t (hF _ ht),fun i hi=>hA.2 i (hF _ hi)⟩ hR
inductive RH (S:St)(ids:List Nat):List Operand→List Cnt→Prop
 | nil:RH S ids [] []
 | cons {x:Operand} {c:Cnt} {xs:List Operand} {cs:List Cnt} (h:rN (eN S x++Cd ids) S ids x c) (t:RH S ids xs cs):RH S ids (x::xs) (c::cs)
theorem RH.gives {xs:List Operand}{cs:List Cnt}(h:RH S ids xs cs){F:List Nat}(hF:∀k∈fN S xs,k∈F)(hI:∀k∈Cd ids,k∈F):mQ F S ids xs cs:=by
 induction h with
 | nil=>exact .nil
 | cons h t ih=>
  refine .cons (h.mono (fun k hk=>?_)) (ih (fun k hk=>hF k (by simp only[fN,List.flatMap_cons,Wz];exact .inr hk)))
  rcases Wz.1 hk with q|q
  ·exact hF k (by simp only[fN,List.flatMap_cons,Wz];exact .inl q)
  ·exact hI k q
theorem VP {f:FuncId}{xs:List Operand}{As:List Cnt}{r:Ret}(hf:Fn P f As r)(hp:Pl n o t:=by exact⟨rfl,rfl,rfl⟩)(ho:j4 o f xs:=by exact⟨_,rfl⟩)(hpl:r.plain=true:=by rfl)(ha:Ez r:=by infer_instance)(hg:RH S ids xs As) :
 aw n P ops o (fN S xs++Cd ids) (ud t 0 r) [] S:=L9 hp ho hf hpl ha (hg.gives (fun _ h=>by simp[h]) (fun _ h=>by simp[h]))
instance VQ (c:UInt8):Ey (byteP c):=by unfold byteP;infer_instance
end
def Mc (h:Int)(c:UInt8):Int:=IntKind.u64.wrap (bits BinOp.xor IntKind.u64 h (c.toNat:Int)*1099511628211)
def zp (h:Int)(l:List UInt8):Int:=l.foldl Mc h
def rO (h:Int):Int:=bits BinOp.xor IntKind.u64 h (h / 4294967296)
def gI (seed:Int)(l:List UInt8):Int:=rO (zp (bits BinOp.xor IntKind.u64 14695981039346656037 seed) l)
theorem uZ (h:Int)(l:List UInt8)(c:UInt8):zp h (l++[c])=Mc (zp h l) c:=by simp[zp]
theorem qx (n:Int):0≤IntKind.u64.wrap n:=by rw[IntKind.wrap_u64];omega
theorem u0 (c:UInt8):IntKind.u64.wrap (c.toNat:Int)=(c.toNat:Int):=by
 have:=c.toNat_lt;rw[IntKind.wrap_u64];omega
theorem tC (a b:Int):0≤bits BinOp.xor IntKind.u64 a b:=qx _
theorem P6 (h:Int)(c:UInt8):0≤Mc h c:=qx _
theorem Ce (n:Int):IntKind.u64.wrap n<18446744073709551616:=by rw[IntKind.wrap_u64];omega
theorem SC (h:Int)(l:List UInt8)(h0:h<18446744073709551616):zp h l<18446744073709551616:=by
 rcases List.eq_nil_or_concat l with rfl|⟨l',c,rfl⟩
 ·exact h0
 ·rw[List.concat_eq_append,zp,List.foldl_append];exact Ce _
theorem Md {seed X:Int}(l:List UInt8)(h:bits BinOp.xor IntKind.u64 14695981039346656037 seed=X)(h0:0≤zp X l) :
 IntKind.u64.wrap ((zp X l).tdiv 4294967296)=zp X l / 4294967296:=by
 have h1:=SC X l (by rw[←h];exact Ce _)
 rw[Xy h0,IntKind.wrap_u64]
 omega
theorem xN {seed X:Int}(l:List UInt8)(h:bits BinOp.xor IntKind.u64 14695981039346656037 seed=X):gI seed l=rO (zp X l):=by
 rw[←h];rfl
theorem EA (h:Int)(l:List UInt8)(h0:0≤h):0≤zp h l:=by
 rcases List.eq_nil_or_concat l with rfl|⟨l',c,rfl⟩
 ·exact h0
 ·rw[List.concat_eq_append,uZ];exact P6 _ _
theorem EB (h:Int)(l m:List UInt8):zp h (l++m)=zp (zp h l) m:=by simp[zp]
theorem IE (seed:Int)(v:Value)(l:List UInt8)(w:World)(hv:Bs w v l) :
 Calls prog 353 #[.int .u64 seed,v] w fun e w'=>e=.returned (.int .u64 (gI seed l))∧w=w':=by
 obtain⟨a,c,b,o,rfl,h1,h2,h3,h4⟩:=hv.open
 have h5:=ro h1 h2
 clear hv h1 h2
 have hX0:=tC 14695981039346656037 seed
 generalize hX:bits BinOp.xor IntKind.u64 14695981039346656037 seed=X at *
 go_enter func353,ntmps353
 go_wp2
 have HX:=Lib.hid hX
 clear hX
 go_loop [5,6] (fun h' i=>∃(k:Nat),k≤l.length∧i=.int .i64 k∧h'=.int .u64 (zp X (l.take k))) (fun _ i=>l.length-(intOf i).toNat)
 case atStart=>exact⟨0,Wa _,rfl,rfl⟩
 case round=>
  obtain⟨k,hk,rfl,rfl⟩:=hrel
  by_cases hlt:k<l.length
  ·obtain rfl:=h3 ab
   have hc':=h4 k hlt
   have HS:=Lib.hid (jq l k hlt)
   clear h3 h4
   go_wp2
   go_round
   case rel=>exact⟨k+1,ab,by go_num,by rw[HS.out,uZ,Mc,u0]⟩
   case measure=>simp[intOf];omega
  ·have hnn:=EA X (l.take k) hX0
   go_wp2
   go_ret
   refine⟨pz (pA ?_),rfl⟩
   rw[xN _ HX.out,rO,show l.take k=l from Wd ab,Md _ HX.out (EA _ _ hX0)]
theorem EC (seed:Int)(v:Value)(ls:List (List UInt8))(w:World)(hv:TH w v ls) :
 Calls prog 266 #[.int .u64 seed,v] w fun e w'=>e=.returned (.int .u64 (gI seed ls.flatten))∧w=w':=by
 obtain⟨vs,hl,hs,hb⟩:=hv
 obtain⟨a,c,b,o,rfl,h1,h2,h3,h4⟩:=hs.open1
 have h5:=ro h1 h2
 clear hs h1 h2
 have hX0:=tC 14695981039346656037 seed
 generalize hX:bits BinOp.xor IntKind.u64 14695981039346656037 seed=X at *
 have HL:=Lib.hid hl
 clear hl
 go_enter func266,ntmps266
 go_wp2
 have HX:=Lib.hid hX
 clear hX
 go_loop [5,14] (fun h' i=>∃(k:Nat),k≤vs.length∧i=.int .i64 k∧h'=.int .u64 (zp X (ls.take k).flatten)) (fun _ i=>vs.length-(intOf i).toNat)
 case atStart=>exact⟨0,Wa _,rfl,rfl⟩
 case round=>
  obtain⟨k,hk,rfl,rfl⟩:=hrel
  by_cases hlt:k<vs.length
  ·obtain rfl:=h3 ab
   have hc':=h4 k hlt
   have HS:=Lib.hid (jq ls k (by have:=HL.out;omega))
   obtain⟨a1,c1,b1,o1,hv1,g1,g2,g3,g4⟩:=(hb k hlt (by have:=HL.out;omega)).open
   have g5:=ro g1 g2
   rw[hv1]at hc'
   clear h3 h4 hb g1 g2 hv1
   generalize hp:ls[k]=p at *
   have HP:=Lib.hid hp
   clear hp
   go_wp2
   go_loop [5,20] (fun h' i=>∃(j:Nat),j≤p.length∧i=.int .i64 j∧h'=.int .u64 (zp (zp X (ls.take k).flatten) (p.take j))) (fun _ i=>p.length-(intOf i).toNat)
   case atStart=>exact⟨0,Wa _,rfl,rfl⟩
   case round=>
    obtain⟨j,hj,rfl,rfl⟩:=hrel
    by_cases hjt:j<p.length
    ·obtain rfl:=g3 ab
     have gc':=g4 j hjt
     have GS:=Lib.hid (jq p j hjt)
     clear g3 g4
     go_wp2
     go_round
     case rel=>exact⟨j+1,ab,by go_num,by rw[GS.out,uZ,Mc,u0]⟩
     case measure=>simp[intOf];omega
    ·clear g3 g4
     obtain rfl:j=p.length:=ab
     go_wp2
     go_round
     case rel=>exact⟨k+1,ab,by go_num,by rw[HS.out];simp[EB]⟩
     case measure=>simp[intOf];omega
  ·have hnn:=EA X (ls.take k).flatten hX0
   go_wp2
   go_ret
   refine⟨pz (pA ?_),rfl⟩
   rw[xN _ HX.out,rO,show ls.take k=ls from Wd (by have:=HL.out;omega)]
def eV (bits seed:Int)(l:List UInt8)(i:Int):Nat:=(gI (IntKind.u64.wrap (seed+IntKind.u64.wrap i)) l % bits).toNat
theorem lS (bits seed:Int)(l:List UInt8)(i:Int)(h:1≤bits):(eV bits seed l i:Int)<bits:=by
 unfold eV
 have:=Int.emod_nonneg (gI (IntKind.u64.wrap (seed+IntKind.u64.wrap i)) l) (show bits≠0 by omega)
 have:=Int.emod_lt_of_pos (gI (IntKind.u64.wrap (seed+IntKind.u64.wrap i)) l) (show 0<bits by omega)
 omega
def j6 (r c:Int):List UInt8:=aJ r++aJ c
theorem Gk (r c:Int):[r,c].flatMap aJ=j6 r c:=by simp[j6]
theorem Ua {r c:Int}(hr:bL r)(hc:bL c):∀n∈[r,c],bL n:=by
 intro m hm;simp at hm;rcases hm with rfl|rfl
 ·exact hr
 ·exact hc
theorem Mf {r c:Int}(h:gm r c=true):bL r∧bL c:=by
 unfold gm at h;simp at h;unfold bL;omega
def lU (n:Nat):UInt8:=UInt8.ofNat (2 ^ (n % 8))
def ei (row:List UInt8)(n:Nat):Bool:=((row[n / 8]?.getD 0) &&& lU n) != 0
theorem Mg (x:UInt8)(n:Nat):bits BinOp.and IntKind.u8 (x.toNat:Int) ((2 ^ (n % 8):Nat):Int)=((x &&& lU n).toNat:Int):=by
 have:∀k:Fin 8,∀x:Fin 256,bits BinOp.and IntKind.u8 (x.val:Int) ((2 ^ k.val:Nat):Int)=((UInt8.ofNat x.val &&& UInt8.ofNat (2 ^ k.val)).toNat:Int):=by decide +kernel
 have:=this ⟨n % 8,XG _ bz⟩ ⟨x.toNat,x.toNat_lt⟩
 simpa[lU]using this
def P7 (row:List UInt8)(bits seed:Int)(l:List UInt8)(k:Nat):Bool:=(List.range k).all (fun(i:Nat)=>ei row (eV bits seed l (i:Int)))
theorem Mh (row:List UInt8)(bits seed:Int)(l:List UInt8)(k:Nat):P7 row bits seed l (k+1)=(P7 row bits seed l k&&ei row (eV bits seed l (k:Int))):=by
 simp[P7,List.range_succ]
def Cf (row:List UInt8)(bits probes seed:Int)(r c:Int):Bool:=gm r c&&P7 row bits seed (j6 r c) probes.toNat
def Mi (bits probes:Int)(row:List UInt8):List UInt8:=[bits,probes].flatMap aJ++bu ⟨row.toArray⟩
theorem jB (n:Int)(h:bL n):(aJ n).length≤9:=by
 have h':=h
 unfold bL at h'
 exact bf n ab
section
variable {bits probes seed:Int} {row:List UInt8}
end
theorem ED {l':List UInt8}{x:Int}(h:aO l e=(x,l',0)):e=0:=by
 unfold aO at h
 split at h
 ·rename_i he;simp at h;exact absurd h.2.2 he
 ·omega
theorem gJ {lo hi:Int}{l':List UInt8}{x:Int}(h:af lo hi l e=(x,l',0)):e=0∧lo≤x∧x≤hi∧aO l e=(x,l',0):=by
 unfold af at h
 split at h
 ·simp at h
 ·rename_i hn
  refine⟨ED h,?_,?_,h⟩
  ·rw[h]at hn;simp at hn;omega
  ·rw[h]at hn;simp at hn;omega
theorem xO {most:Int}{l':List UInt8}{s:List UInt8}(h:aW most l e=(s,l',0)):∃x l1,af 0 most l e=(x,l1,0)∧s=l1.take x.toNat∧l'=l1.drop x.toNat∧0≤x∧x≤l1.length:=by
 unfold aW at h
 split at h
 ·rename_i hn
  exact absurd (by have:=Wx (fun p=>p.2.2) h;simpa using this) hn
 ·rename_i hn
  split at h
  ·simp at h
  ·rename_i hx
   simp at h
   have hw:af 0 most l e=((af 0 most l e).1,(af 0 most l e).2.1,0):=by
    exact Prod.ext rfl (Prod.ext rfl (by simpa using hn))
   have:=gJ hw
   exact⟨_,_,hw,h.1.symm,h.2.symm,this.2.1,ab⟩
theorem Cg (h:di l e=0):e=0∧l=[]:=by
 unfold di at h
 split at h
 ·omega
 ·rename_i hn
  subst h
  refine⟨rfl,?_⟩
  cases l with
  | nil=>rfl
  | cons a l=>simp at hn
def nJ (bits:Int)(s:List UInt8):Prop:=0<bits.toNat % 8∧0<(s.getD (s.length-1) 0).toNat / 2 ^ (bits.toNat % 8)
theorem P8 (x:UInt8)(j:Nat)(hj:j<8)(h:0<x.toNat / 2 ^ j):∃k,j≤k∧k<8∧(x &&& lU k != 0)=true:=by
 have:∀j:Fin 8,∀x:Fin 256,0<x.val / 2 ^ j.val→∃k:Fin 8,j.val≤k.val∧(UInt8.ofNat x.val &&& lU k.val != 0)=true:=by decide +kernel
 obtain⟨k,h1,h2⟩:=this ⟨j,hj⟩ ⟨x.toNat,x.toNat_lt⟩ h
 exact⟨k.val,h1,k.isLt,by simpa using h2⟩
theorem P9 {bits:Int}{row:List UInt8}(h1:1≤bits)(hl:row.length=(bits.toNat+7) / 8)(h:∀n,ei row n=true→(n:Int)<bits):¬nJ bits row:=by
 rintro⟨ha,hb⟩
 obtain⟨k,k1,k2,k3⟩:=P8 _ _ (XG _ bz) hb
 have:=h (8*(row.length-1)+k) (by
  unfold ei
  rw[show(8*(row.length-1)+k) / 8=row.length-1 by omega,show lU (8*(row.length-1)+k)=lU k by unfold lU;rw[show(8*(row.length-1)+k) % 8=k % 8 by omega]]
  simpa using k3)
 omega
def qy (bs:List Bool)(bits seed:Int)(l:List UInt8)(k:Nat):Bool:=(List.range k).all (fun(i:Nat)=>bs.getD (eV bits seed l (i:Int)) false)
theorem EE (bs:List Bool)(bits seed:Int)(l:List UInt8)(k:Nat):qy bs bits seed l (k+1)=(qy bs bits seed l k&&bs.getD (eV bits seed l (k:Int)) false):=by
 simp[qy,List.range_succ]
theorem EF {bs:List Bool}{bits seed:Int}{l:List UInt8}{k q:Nat}(hk:k<q)(h:bs.getD (eV bits seed l (k:Int)) false=false):qy bs bits seed l q=false:=by
 unfold qy
 rw[List.all_eq_false]
 exact⟨k,by simp[hk],by simpa using h⟩
def u3 (bs:List Bool)(bits probes seed:Int)(r c:Int):Bool:=gm r c&&qy bs bits seed (j6 r c) probes.toNat
end Go.Proofs.YtaclhhkblbacgaaGreat
