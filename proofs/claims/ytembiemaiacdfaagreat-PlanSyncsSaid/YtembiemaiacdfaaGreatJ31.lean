/- Texts joined: AbsB AbsP Hash Bp. -/
import Derived.Test.YtembiemaiacdfaaGreatJ07
import Derived.Test.YtembiemaiacdfaaGreatJ19
import Derived.Laws.MakeOwn
import Derived.Lib.BufferWrite
import Derived.Test.YtembiemaiacdfaaGreatJ05
import Derived.Test.YtembiemaiacdfaaGreatJ30
import Derived.Test.YtembiemaiacdfaaGreatRows
import Derived.Test.YtembiemaiacdfaaGreatJ01
import Derived.Outline
import Derived.Test.YtembiemaiacdfaaGreatJ08
import Derived.Test.YtembiemaiacdfaaGreatJ10
set_option maxRecDepth 10000
set_option maxHeartbeats 8000000
namespace Go.Proofs.YtembiemaiacdfaaGreat
open Go.RowKit
section
variable {P:Program} {n t:Nat} {ops:Array Oper} {o:Oper} {S:St}
theorem GB {ty ty':TypeId} {x y:Operand} {k:IntKind} {p q z:Int} (hp:Pl n o t) (ho:o.op = .binOp .and ty x y ty') (hx:S.opd x = iC k p) (hy:S.opd y = iC k q) (hz:bits .and k p q = z):an n P ops o (ax x ++ ax y) (iC k z) [] S:=
 aP hp fun C T g a w hA hR=>by
   have h1:=aW (x:=x) hA (fun k h=>by simp [h]) hR hx
   have h2:=aW (x:=y) hA (fun k h=>by simp [h]) hR hy
   subst hz
   refine ⟨.int k (bits .and k p q),eP ho h1 h2 ?_,rfl⟩
   rw [show eqGuard .and ty x y (.int k p) (.int k q) = pure () from rfl]
   simp only [binOp_and]
   rfl
theorem GC {ty ty':TypeId} {x y:Operand} {k k':IntKind} {p q z:Int} (hp:Pl n o t) (ho:o.op = .binOp .shl ty x y ty') (hx:S.opd x = iC k p) (hy:S.opd y = iC k' q) (hq:0 ≤ q) (hz:k.wrap (p * 2 ^ min q.toNat k.bits) = z):an n P ops o (ax x ++ ax y) (iC k z) [] S:=
 aP hp fun C T g a w hA hR=>by
   have h1:=aW (x:=x) hA (fun k h=>by simp [h]) hR hx
   have h2:=aW (x:=y) hA (fun k h=>by simp [h]) hR hy
   subst hz
   refine ⟨.int k (k.wrap (p * 2 ^ min q.toNat k.bits)),eP ho h1 h2 ?_,rfl⟩
   rw [show eqGuard .shl ty x y (.int k p) (.int k' q) = pure () from rfl]
   simp only [binOp_shl,shift_shl_any k k' p q hq]
   rfl
theorem pz {ty ty':TypeId} {x y:Operand} {k k':IntKind} {p q z:Int} (hp:Pl n o t) (ho:o.op = .binOp .shr ty x y ty') (hx:S.opd x = iC k p) (hy:S.opd y = iC k' q) (hq:0 ≤ q) (hz:p / 2 ^ min q.toNat k.bits = z):an n P ops o (ax x ++ ax y) (iC k z) [] S:=
 aP hp fun C T g a w hA hR=>by
   have h1:=aW (x:=x) hA (fun k h=>by simp [h]) hR hx
   have h2:=aW (x:=y) hA (fun k h=>by simp [h]) hR hy
   subst hz
   refine ⟨.int k (p / 2 ^ min q.toNat k.bits),eP ho h1 h2 ?_,rfl⟩
   rw [show eqGuard .shr ty x y (.int k p) (.int k' q) = pure () from rfl]
   simp only [binOp_shr,shift_shr_any k k' p q hq]
   rfl
theorem io {z:Int} (h1:0 ≤ z) (h2:z ≤ 18446744073709551615):IntKind.u64.wrap z = z:=by
 simp [IntKind.wrap,IntKind.bits,IntKind.signed];omega
theorem GD {t e bytes:Nat} (hT:TI P t e 1 bytes) (z:Value) (hz:(P.info? e).bind (·.zero) = some z) (hz1:z.cells = #[z]) (kl:IntKind) (n:Int) (h0:0 ≤ n) (hb:n ≤ 1099511627776) (hb1:bytes ≤ 64) (w:World) :
   (Instr.makeSlice t (.int kl n) (.int kl n)).run P w = .ok (.slice (some ⟨w.heap.size,0,none⟩) n.toNat n.toNat) (w.alloc (.cells (Array.replicate n.toNat z) e)):=by
 obtain ⟨i,z',hi,hz',h1,h2,h3⟩:=hT.info
 rw [hi] at hz
 simp only [Option.bind_some] at hz
 rw [hz'] at hz
 obtain rfl:=Option.some.inj hz
 have hle:(i.bytes:Int) * n ≤ 64 * 1099511627776:=Int.mul_le_mul (by omega) hb h0 (by omega)
 have:=run_make (P:=P) w t e i z' hT.und hi hz' kl kl n n h0 (Int.le_refl _) (by omega) (by omega)
 rw [this,h1,hz1]
 congr 3
 unfold madeCells
 apply Array.ext
 · simp
 · intro j hj1 hj2
   simp [Nat.mod_one]
theorem Jv {ty e bytes:Nat} {x:Operand} {kk:IntKind} {m:Nat} {q:Int} {z:Value} (hp:Pl n o t) (ho:o.op = .makeSlice ty x x) (hT:rZ P ty e 1 bytes) (hz:lW P e z) (hz1:z.cells = #[z]) (h1:z.oneCell' = true) (hby:Nat.ble bytes 64 = true)
   (hx:S.opd x = iC kk q) (hq:q = (m:Int)) (hm:m ≤ 1000000000) :
   an n P ops o ((2 * t + 1) :: ax x) (.row t (S.ver t + 1)) [(t,S.ver t + 1,.row e 1 (List.replicate m [aq z]))] S:=
 pI hp (by simp) fun C T g a w hA hR=>by
   have h:=aW (x:=x) hA (fun k h=>by simp [h]) hR hx
   subst hq
   have hrun:=GD hT.h z hz.h hz1 kk (m:Int) (by omega) (by omega) (Nat.le_of_ble_eq_true hby) w
   rw [Int.toNat_natCast] at hrun
   refine ⟨.slice (some ⟨w.heap.size,0,none⟩) m m,w.alloc (.cells (Array.replicate m z) e),w.heap.size,?_,(dJ.refl w).alloc _,Nat.le_refl _,gm _ _,fun vr' hvr hst=>⟨?_,?_⟩⟩
   · simp only [execOp,ho,h,Sem.run_bind,hrun];rfl
   · exact ⟨by rw [hvr,if_pos rfl];exact Nat.le_refl _,fun _=>(if_pos rfl).symm⟩
   · have hph:(g.mk1 t w.heap.size (.slice (some ⟨w.heap.size,0,none⟩) m m)).ph t = w.heap.size:=if_pos rfl
     have hrh:(g.mk1 t w.heap.size (.slice (some ⟨w.heap.size,0,none⟩) m m)).rh t = .slice (some ⟨w.heap.size,0,none⟩) m m:=if_pos rfl
     refine .inr ⟨m,Array.replicate m z,by rw [hrh,hph,List.length_replicate],by rw [hph];exact heap_alloc_new w _,by rw [hph];exact if_pos rfl,by simp,by unfold maxLen;omega,by simp,fun i ps hi=>?_⟩
     rw [List.getElem?_replicate] at hi
     split at hi
     · rename_i him
       cases hi
       refine ⟨rfl,fun j A hj=>?_⟩
       cases j with
       | zero=>simp at hj;subst hj;exact ⟨z,by simp [him],h1,rfl⟩
       | succ j=>simp at hj
     · cases hi
theorem A1 {dT sT e bytes:Nat} {x y:Operand} {id vr:Nat} {es:List (List PV)} {u:ByteArray} (hp:Pl n o t) (ho:o.op = .call { callee:=.builtin .copy,args:=#[x,y],argTypes:=#[dT,sT] }) (hT:rZ P dT e 1 bytes)
   (hx:S.opd x = .row id vr) (hv:S.ver id = vr) (hb:S.blk id = .row e 1 es) (hy:S.opd y = sC u) (hl:u.size = es.length) (h0:0 < es.length) :
   an n P ops o ((2 * id + 1) :: (ax x ++ ax y)) (iC .i64 ((u.size:Nat):Int)) [(id,vr,.row e 1 (u.data.toList.map byteP))] S:=by
 refine ⟨?_⟩
 intro C T hA a w ⟨g,hR⟩
 have hxe:=aB (x:=x) hA (fun k h=>by simp [h]) hR
 rw [hx] at hxe
 have hvt:=(hA.2 id (by simp)).2
 have hev:=hxe.2 (by rw [hvt,hv])
 have hye:=aW (x:=y) hA (fun k h=>by simp [h]) hR hy
 have hB:=hR.blks id
 rw [(hA.2 id (by simp)).1,hb] at hB
 rcases hB with ⟨_,rfl⟩|⟨cap,cs,q1,q2,q3,q4,q5,q6,q7⟩
 · simp at h0
 rw [q1] at hev
 have hinf:(P.info? e).map (·.size) = some 1:=by
   obtain ⟨i,z',hi,hz',h1,h2,h3⟩:=hT.h.info
   rw [hi,Option.map_some,h1]
 have hrun:=Lib.run_copy_row_string (P:=P) w dT sT o.type e (g.ph id) 0 es.length cap u cs e hT.h.und hinf q2 (by omega) (by omega)
 unfold gj
 rw [if_pos (hp.wanted a)]
 unfold Oper.wp
 have hex:(execOp a.eval o).run P w = .ok (.value (goInt u.size)) (w.setRow (g.ph id) (cs.toList.take 0 ++ Lib.byteCells u.data.toList ++ cs.toList.drop (0 + u.size)).toArray):=by
   simp only [execOp,ho,resolve,invoke,builtin,Sem.run_bind,Sem.run_pure,Result.andThen_ok,List.map_toArray,List.map_cons,List.map_nil,hev,hye,hrun]
 rw [hex,Oper.upon_value]
 have hst:=lx (cs':=(cs.toList.take 0 ++ Lib.byteCells u.data.toList ++ cs.toList.drop (0 + u.size)).toArray) hR rfl q2 q3
 have hver:(T.app o.dst (iC .i64 ((u.size:Nat):Int)) [(id,vr,.row e 1 (u.data.toList.map byteP))]).ver = T.ver:=by
   funext i'
   rw [St.app_some_ver]
   split
   · rename_i h;subst h;rw [hvt,hv]
   · rfl
 refine ⟨g,hR.app1 hp.dOk (by rw [hver];exact hst) rfl ?_⟩
 rw [hver]
 have hul:u.data.toList.length = u.size:=by rw [Array.length_toList];rfl
 have hcap:u.size ≤ cs.size:=by omega
 have hbl:(Lib.byteCells u.data.toList).length = u.size:=by simp [Lib.byteCells,hul]
 refine .inr ⟨cap,_,by rw [List.length_map,hul,hl];exact q1,setRow_heap _ _ _ _ _ _ q2,q3,by rw [List.length_map];omega,q5,by simp [hbl];omega,fun i ps hi=>?_⟩
 rw [List.getElem?_map] at hi
 cases hc:u.data.toList[i]? with
 | none=>rw [hc] at hi;cases hi
 | some c=>
   rw [hc] at hi;cases hi
   refine ⟨rfl,fun j A hj=>?_⟩
   cases j with
   | succ j=>simp [byteP] at hj
   | zero=>
     simp [byteP] at hj;subst hj
     have hil:i < u.size:=by rw [← hul];exact (List.getElem?_eq_some_iff.1 hc).1
     refine ⟨.int .u8 (c.toNat:Int),?_,rfl,rfl⟩
     rw [List.getElem?_toArray,List.take_zero,List.nil_append,List.getElem?_append_left (by rw [hbl];omega)]
     simp only [Lib.byteCells,List.getElem?_map,Nat.mul_one,Nat.add_zero,hc];rfl
end
section
variable {P:Program} {n:Nat} {ops:Array Oper} {o:Oper} {S:St} {t:Nat}
def LW (ids:List Nat):List Nat:=ids.map fun i=>2 * i + 1
theorem q8.mono {F F':List Nat} {ids:List Nat} {x:Operand} {c:Cnt} (h:q8 F S ids x c) (hF:∀ k ∈ F,k ∈ F'):q8 F' S ids x c:=
 fun n C T g a w hA hR=>h n C T g a w ⟨fun t ht=>hA.1 t (hF _ ht),fun i hi=>hA.2 i (hF _ hi)⟩ hR
inductive LX (S:St) (ids:List Nat):List Operand → List Cnt → Prop
 | nil:LX S ids [] []
 | cons {x:Operand} {c:Cnt} {xs:List Operand} {cs:List Cnt} (h:q8 (ec S x ++ LW ids) S ids x c) (t:LX S ids xs cs):LX S ids (x :: xs) (c :: cs)
theorem LX.gives {ids:List Nat} {xs:List Operand} {cs:List Cnt} (h:LX S ids xs cs) {F:List Nat} (hF:∀ k ∈ ed S xs,k ∈ F) (hI:∀ k ∈ LW ids,k ∈ F):lU F S ids xs cs:=by
 induction h with
 | nil=>exact .nil
 | cons h t ih=>
   refine .cons (h.mono (fun k hk=>?_)) (ih (fun k hk=>hF k (by simp only [ed,List.flatMap_cons,List.mem_append];exact .inr hk)))
   rcases List.mem_append.1 hk with q|q
   · exact hF k (by simp only [ed,List.flatMap_cons,List.mem_append];exact .inl q)
   · exact hI k q
end
def GF (h:Int) (c:UInt8):Int:=IntKind.u64.wrap (bits BinOp.xor IntKind.u64 h (c.toNat:Int) * 1099511628211)
def uC (h:Int) (l:List UInt8):Int:=l.foldl GF h
def oG (h:Int):Int:=bits BinOp.xor IntKind.u64 h (h / 4294967296)
def eN (seed:Int) (l:List UInt8):Int:=oG (uC (bits BinOp.xor IntKind.u64 14695981039346656037 seed) l)
theorem q9 (h:Int) (l:List UInt8) (c:UInt8):uC h (l ++ [c]) = GF (uC h l) c:=by simp [uC]
theorem w8 (n:Int):0 ≤ IntKind.u64.wrap n:=by rw [IntKind.wrap_u64];omega
theorem ra (c:UInt8):IntKind.u64.wrap (c.toNat:Int) = (c.toNat:Int):=by
 have:=c.toNat_lt;rw [IntKind.wrap_u64];omega
theorem pA (a b:Int):0 ≤ bits BinOp.xor IntKind.u64 a b:=w8 _
theorem Jw (h:Int) (c:UInt8):0 ≤ GF h c:=w8 _
theorem w9 (n:Int):IntKind.u64.wrap n < 18446744073709551616:=by rw [IntKind.wrap_u64];omega
theorem K6 (h:Int) (l:List UInt8) (h0:h < 18446744073709551616):uC h l < 18446744073709551616:=by
 rcases List.eq_nil_or_concat l with rfl|⟨l',c,rfl⟩
 · exact h0
 · rw [List.concat_eq_append,uC,List.foldl_append];exact w9 _
theorem GG {seed X:Int} (l:List UInt8) (h:bits BinOp.xor IntKind.u64 14695981039346656037 seed = X) (h0:0 ≤ uC X l) :
   IntKind.u64.wrap ((uC X l).tdiv 4294967296) = uC X l / 4294967296:=by
 have h1:=K6 X l (by rw [← h];exact w9 _)
 rw [Int.tdiv_eq_ediv_of_nonneg h0,IntKind.wrap_u64]
 omega
theorem sS {seed X:Int} (l:List UInt8) (h:bits BinOp.xor IntKind.u64 14695981039346656037 seed = X):eN seed l = oG (uC X l):=by
 rw [← h];rfl
theorem zx (h:Int) (l:List UInt8) (h0:0 ≤ h):0 ≤ uC h l:=by
 rcases List.eq_nil_or_concat l with rfl|⟨l',c,rfl⟩
 · exact h0
 · rw [List.concat_eq_append,q9];exact Jw _ _
theorem zy (h:Int) (l m:List UInt8):uC h (l ++ m) = uC (uC h l) m:=by simp [uC]
theorem CU (seed:Int) (v:Value) (l:List UInt8) (w:World) (hv:Bs w v l) :
   Calls Tryz.prog 260 #[.int .u64 seed,v] w fun e w'=>e = .returned (.int .u64 (eN seed l)) ∧ w = w':=by
 obtain ⟨a,c,b,o,rfl,h1,h2,h3,h4⟩:=hv.open
 have h5:=pE h1 h2
 clear hv h1 h2
 have hX0:=pA 14695981039346656037 seed
 generalize hX:bits BinOp.xor IntKind.u64 14695981039346656037 seed = X at *
 go_enter Tryz.func260,Tryz.ntmps260
 go_wp2
 have HX:=Lib.hid hX
 clear hX
 go_loop [5,6] (fun h' i=>∃ (k:Nat),k ≤ l.length ∧ i = .int .i64 k ∧ h' = .int .u64 (uC X (l.take k))) (fun _ i=>l.length - (intOf i).toNat)
 case atStart=>exact ⟨0,Nat.zero_le _,rfl,rfl⟩
 case round=>
   obtain ⟨k,hk,rfl,rfl⟩:=hrel
   by_cases hlt:k < l.length
   · obtain rfl:=h3 (by omega)
     have hc':=h4 k hlt
     have HS:=Lib.hid (ib l k hlt)
     clear h3 h4
     go_wp2
     go_round
     case rel=>exact ⟨k+1,by omega,by go_num,by rw [HS.out,q9,GF,ra]⟩
     case measure=>simp [intOf];omega
   · have hnn:=zx X (l.take k) hX0
     go_wp2
     go_ret
     refine ⟨mb (mc ?_),rfl⟩
     rw [sS _ HX.out,oG,show l.take k = l from List.take_of_length_le (by omega),GG _ HX.out (zx _ _ hX0)]
theorem zz (seed:Int) (v:Value) (ls:List (List UInt8)) (w:World) (hv:Lv w v ls) :
   Calls Tryz.prog 250 #[.int .u64 seed,v] w fun e w'=>e = .returned (.int .u64 (eN seed ls.flatten)) ∧ w = w':=by
 obtain ⟨vs,hl,hs,hb⟩:=hv
 obtain ⟨a,c,b,o,rfl,h1,h2,h3,h4⟩:=hs.open1
 have h5:=pE h1 h2
 clear hs h1 h2
 have hX0:=pA 14695981039346656037 seed
 generalize hX:bits BinOp.xor IntKind.u64 14695981039346656037 seed = X at *
 have HL:=Lib.hid hl
 clear hl
 go_enter Tryz.func250,Tryz.ntmps250
 go_wp2
 have HX:=Lib.hid hX
 clear hX
 go_loop [5,14] (fun h' i=>∃ (k:Nat),k ≤ vs.length ∧ i = .int .i64 k ∧ h' = .int .u64 (uC X (ls.take k).flatten)) (fun _ i=>vs.length - (intOf i).toNat)
 case atStart=>exact ⟨0,Nat.zero_le _,rfl,rfl⟩
 case round=>
   obtain ⟨k,hk,rfl,rfl⟩:=hrel
   by_cases hlt:k < vs.length
   · obtain rfl:=h3 (by omega)
     have hc':=h4 k hlt
     have HS:=Lib.hid (ib ls k (by have:=HL.out;omega))
     obtain ⟨a1,c1,b1,o1,hv1,g1,g2,g3,g4⟩:=(hb k hlt (by have:=HL.out;omega)).open
     have g5:=pE g1 g2
     rw [hv1] at hc'
     clear h3 h4 hb g1 g2 hv1
     generalize hp:ls[k] = p at *
     have HP:=Lib.hid hp
     clear hp
     go_wp2
     go_loop [5,20] (fun h' i=>∃ (j:Nat),j ≤ p.length ∧ i = .int .i64 j ∧ h' = .int .u64 (uC (uC X (ls.take k).flatten) (p.take j))) (fun _ i=>p.length - (intOf i).toNat)
     case atStart=>exact ⟨0,Nat.zero_le _,rfl,rfl⟩
     case round=>
       obtain ⟨j,hj,rfl,rfl⟩:=hrel
       by_cases hjt:j < p.length
       · obtain rfl:=g3 (by omega)
         have gc':=g4 j hjt
         have GS:=Lib.hid (ib p j hjt)
         clear g3 g4
         go_wp2
         go_round
         case rel=>exact ⟨j+1,by omega,by go_num,by rw [GS.out,q9,GF,ra]⟩
         case measure=>simp [intOf];omega
       · clear g3 g4
         obtain rfl:j = p.length:=by omega
         go_wp2
         go_round
         case rel=>exact ⟨k+1,by omega,by go_num,by rw [HS.out];simp [zy]⟩
         case measure=>simp [intOf];omega
   · have hnn:=zx X (ls.take k).flatten hX0
     go_wp2
     go_ret
     refine ⟨mb (mc ?_),rfl⟩
     rw [sS _ HX.out,oG,show ls.take k = ls from List.take_of_length_le (by have:=HL.out;omega)]
def dr (bits seed:Int) (l:List UInt8) (i:Int):Nat:=(eN (IntKind.u64.wrap (seed + IntKind.u64.wrap i)) l % bits).toNat
theorem jO (bits seed:Int) (l:List UInt8) (i:Int) (h:1 ≤ bits):(dr bits seed l i:Int) < bits:=by
 unfold dr
 have:=Int.emod_nonneg (eN (IntKind.u64.wrap (seed + IntKind.u64.wrap i)) l) (show bits ≠ 0 by omega)
 have:=Int.emod_lt_of_pos (eN (IntKind.u64.wrap (seed + IntKind.u64.wrap i)) l) (show 0 < bits by omega)
 omega
def gP (r c:Int):List UInt8:=g8 r ++ g8 c
theorem A3 (r c:Int):[r,c].flatMap g8 = gP r c:=by simp [gP]
theorem LY {r c:Int} (hr:fC r) (hc:fC c):∀ n ∈ [r,c],fC n:=by
 intro m hm;simp at hm;rcases hm with rfl|rfl
 · exact hr
 · exact hc
theorem GH {r c:Int} (h:cI r c = true):fC r ∧ fC c:=by
 unfold cI at h;simp at h;unfold fC;omega
def jP (n:Nat):UInt8:=UInt8.ofNat (2 ^ (n % 8))
def cQ (row:List UInt8) (n:Nat):Bool:=((row[n / 8]?.getD 0) &&& jP n) != 0
theorem GI (x:UInt8) (n:Nat):bits BinOp.and IntKind.u8 (x.toNat:Int) ((2 ^ (n % 8):Nat):Int) = ((x &&& jP n).toNat:Int):=by
 have:∀ k:Fin 8,∀ x:Fin 256,bits BinOp.and IntKind.u8 (x.val:Int) ((2 ^ k.val:Nat):Int) = ((UInt8.ofNat x.val &&& UInt8.ofNat (2 ^ k.val)).toNat:Int):=by decide +kernel
 have:=this ⟨n % 8,Nat.mod_lt _ (by decide)⟩ ⟨x.toNat,x.toNat_lt⟩
 simpa [jP] using this
def Jx (row:List UInt8) (bits seed:Int) (l:List UInt8) (k:Nat):Bool:=(List.range k).all (fun (i:Nat)=>cQ row (dr bits seed l (i:Int)))
theorem GJ (row:List UInt8) (bits seed:Int) (l:List UInt8) (k:Nat):Jx row bits seed l (k + 1) = (Jx row bits seed l k && cQ row (dr bits seed l (k:Int))):=by
 simp [Jx,List.range_succ]
def xe (row:List UInt8) (bits probes seed:Int) (r c:Int):Bool:=cI r c && Jx row bits seed (gP r c) probes.toNat
def GK (bits probes:Int) (row:List UInt8):List UInt8:=[bits,probes].flatMap g8 ++ fq ⟨row.toArray⟩
section
variable {bits probes seed:Int} {row:List UInt8}
end
theorem zA {l l':List UInt8} {e x:Int} (h:dj l e = (x,l',0)):e = 0:=by
 unfold dj at h
 split at h
 · rename_i he;simp at h;exact absurd h.2.2 he
 · omega
theorem ey {lo hi:Int} {l l':List UInt8} {e x:Int} (h:aL lo hi l e = (x,l',0)):e = 0 ∧ lo ≤ x ∧ x ≤ hi ∧ dj l e = (x,l',0):=by
 unfold aL at h
 split at h
 · simp at h
 · rename_i hn
   refine ⟨zA h,?_,?_,h⟩
   · rw [h] at hn;simp at hn;omega
   · rw [h] at hn;simp at hn;omega
theorem sU {most:Int} {l l':List UInt8} {e:Int} {s:List UInt8} (h:dL most l e = (s,l',0)):∃ x l1,aL 0 most l e = (x,l1,0) ∧ s = l1.take x.toNat ∧ l' = l1.drop x.toNat ∧ 0 ≤ x ∧ x ≤ l1.length:=by
 unfold dL at h
 split at h
 · rename_i hn
   exact absurd (by have:=congrArg (fun p=>p.2.2) h;simpa using this) hn
 · rename_i hn
   split at h
   · simp at h
   · rename_i hx
     simp at h
     have hw:aL 0 most l e = ((aL 0 most l e).1,(aL 0 most l e).2.1,0):=by
       exact Prod.ext rfl (Prod.ext rfl (by simpa using hn))
     have:=ey hw
     exact ⟨_,_,hw,h.1.symm,h.2.symm,this.2.1,by omega⟩
theorem xf {l:List UInt8} {e:Int} (h:kS l e = 0):e = 0 ∧ l = []:=by
 unfold kS at h
 split at h
 · omega
 · rename_i hn
   subst h
   refine ⟨rfl,?_⟩
   cases l with
   | nil=>rfl
   | cons a l=>simp at hn
def lj (bits:Int) (s:List UInt8):Prop:=0 < bits.toNat % 8 ∧ 0 < (s.getD (s.length - 1) 0).toNat / 2 ^ (bits.toNat % 8)
theorem Jy (x:UInt8) (j:Nat) (hj:j < 8) (h:0 < x.toNat / 2 ^ j):∃ k,j ≤ k ∧ k < 8 ∧ (x &&& jP k != 0) = true:=by
 have:∀ j:Fin 8,∀ x:Fin 256,0 < x.val / 2 ^ j.val → ∃ k:Fin 8,j.val ≤ k.val ∧ (UInt8.ofNat x.val &&& jP k.val != 0) = true:=by decide +kernel
 obtain ⟨k,h1,h2⟩:=this ⟨j,hj⟩ ⟨x.toNat,x.toNat_lt⟩ h
 exact ⟨k.val,h1,k.isLt,by simpa using h2⟩
theorem Jz {bits:Int} {row:List UInt8} (h1:1 ≤ bits) (hl:row.length = (bits.toNat + 7) / 8) (h:∀ n,cQ row n = true → (n:Int) < bits):¬ lj bits row:=by
 rintro ⟨ha,hb⟩
 obtain ⟨k,k1,k2,k3⟩:=Jy _ _ (Nat.mod_lt _ (by decide)) hb
 have:=h (8 * (row.length - 1) + k) (by
   unfold cQ
   rw [show (8 * (row.length - 1) + k) / 8 = row.length - 1 by omega,show jP (8 * (row.length - 1) + k) = jP k by unfold jP;rw [show (8 * (row.length - 1) + k) % 8 = k % 8 by omega]]
   simpa using k3)
 omega
def nu (bs:List Bool) (bits seed:Int) (l:List UInt8) (k:Nat):Bool:=(List.range k).all (fun (i:Nat)=>bs.getD (dr bits seed l (i:Int)) false)
theorem zC (bs:List Bool) (bits seed:Int) (l:List UInt8) (k:Nat):nu bs bits seed l (k + 1) = (nu bs bits seed l k && bs.getD (dr bits seed l (k:Int)) false):=by
 simp [nu,List.range_succ]
theorem zD {bs:List Bool} {bits seed:Int} {l:List UInt8} {k q:Nat} (hk:k < q) (h:bs.getD (dr bits seed l (k:Int)) false = false):nu bs bits seed l q = false:=by
 unfold nu
 rw [List.all_eq_false]
 exact ⟨k,by simp [hk],by simpa using h⟩
def rb (bs:List Bool) (bits probes seed:Int) (r c:Int):Bool:=cI r c && nu bs bits seed (gP r c) probes.toNat
end Go.Proofs.YtembiemaiacdfaaGreat
