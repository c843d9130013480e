/- Texts joined: AbsB AbsP Hash Bp. -/
import Derived.Test.YthlffkjpklpkfaaGreatJ07
import Derived.Test.YthlffkjpklpkfaaGreatJ15
import Derived.Laws.MakeOwn
import Derived.Lib.BufferWrite
import Derived.Test.YthlffkjpklpkfaaGreatJ16
import Derived.Test.YthlffkjpklpkfaaGreatRows
import Derived.Test.YthlffkjpklpkfaaGreatJ01
import Derived.Outline
import Derived.Test.YthlffkjpklpkfaaGreatJ08
import Derived.Test.YthlffkjpklpkfaaGreatJ11
set_option maxRecDepth 10000
set_option maxHeartbeats 8000000
namespace Go.Proofs.YthlffkjpklpkfaaGreat
open Go.RowKit
section
variable {P:Program} {n t:Nat} {ops:Array Oper} {o:Oper} {S:St}
theorem op_and {ty ty':TypeId} {x y:Operand} {k:IntKind} {p q z:Int} (hp:Pl n o t) (ho:o.op = .binOp .and ty x y ty') (hx:S.opd x = iC k p) (hy:S.opd y = iC k q) (hz:bits .and k p q = z):OpOk n P ops o (opdN x ++ opdN y) (iC k z) [] S:=
 op_val hp fun C T g a w hA hR=>by
   have h1:=raw_opd (x:=x) hA (fun k h=>by simp [h]) hR hx
   have h2:=raw_opd (x:=y) hA (fun k h=>by simp [h]) hR hy
   subst hz
   refine ⟨.int k (bits .and k p q),exec_bin ho h1 h2 ?_,rfl⟩
   rw [show eqGuard .and ty x y (.int k p) (.int k q) = pure () from rfl]
   simp only [binOp_and]
   rfl
theorem op_or {ty ty':TypeId} {x y:Operand} {k:IntKind} {p q z:Int} (hp:Pl n o t) (ho:o.op = .binOp .or ty x y ty') (hx:S.opd x = iC k p) (hy:S.opd y = iC k q) (hz:bits .or k p q = z):OpOk n P ops o (opdN x ++ opdN y) (iC k z) [] S:=
 op_val hp fun C T g a w hA hR=>by
   have h1:=raw_opd (x:=x) hA (fun k h=>by simp [h]) hR hx
   have h2:=raw_opd (x:=y) hA (fun k h=>by simp [h]) hR hy
   subst hz
   refine ⟨.int k (bits .or k p q),exec_bin ho h1 h2 ?_,rfl⟩
   rw [show eqGuard .or ty x y (.int k p) (.int k q) = pure () from rfl]
   simp only [binOp_or]
   rfl
theorem op_shl {ty ty':TypeId} {x y:Operand} {k k':IntKind} {p q z:Int} (hp:Pl n o t) (ho:o.op = .binOp .shl ty x y ty') (hx:S.opd x = iC k p) (hy:S.opd y = iC k' q) (hq:0 ≤ q) (hz:k.wrap (p * 2 ^ min q.toNat k.bits) = z):OpOk n P ops o (opdN x ++ opdN y) (iC k z) [] S:=
 op_val hp fun C T g a w hA hR=>by
   have h1:=raw_opd (x:=x) hA (fun k h=>by simp [h]) hR hx
   have h2:=raw_opd (x:=y) hA (fun k h=>by simp [h]) hR hy
   subst hz
   refine ⟨.int k (k.wrap (p * 2 ^ min q.toNat k.bits)),exec_bin ho h1 h2 ?_,rfl⟩
   rw [show eqGuard .shl ty x y (.int k p) (.int k' q) = pure () from rfl]
   simp only [binOp_shl,shift_shl_any k k' p q hq]
   rfl
theorem op_shrB {ty ty':TypeId} {x y:Operand} {k k':IntKind} {p q z:Int} (hp:Pl n o t) (ho:o.op = .binOp .shr ty x y ty') (hx:S.opd x = iC k p) (hy:S.opd y = iC k' q) (hq:0 ≤ q) (hz:p / 2 ^ min q.toNat k.bits = z):OpOk n P ops o (opdN x ++ opdN y) (iC k z) [] S:=
 op_val hp fun C T g a w hA hR=>by
   have h1:=raw_opd (x:=x) hA (fun k h=>by simp [h]) hR hx
   have h2:=raw_opd (x:=y) hA (fun k h=>by simp [h]) hR hy
   subst hz
   refine ⟨.int k (p / 2 ^ min q.toNat k.bits),exec_bin ho h1 h2 ?_,rfl⟩
   rw [show eqGuard .shr ty x y (.int k p) (.int k' q) = pure () from rfl]
   simp only [binOp_shr,shift_shr_any k k' p q hq]
   rfl
/-- 'make([]T, n)', T one cell -/
theorem run_mk1B {t e bytes:Nat} (hT:TI P t e 1 bytes) (z:Value) (hz:(P.info? e).bind (·.zero) = some z) (hz1:z.cells = #[z]) (kl:IntKind) (n:Int) (h0:0 ≤ n) (hb:n ≤ 1099511627776) (hb1:bytes ≤ 64) (w:World) :
   (Instr.makeSlice t (.int kl n) (.int kl n)).run P w = .ok (.slice (some ⟨w.heap.size,0,none⟩) n.toNat n.toNat) (w.alloc (.cells (Array.replicate n.toNat z) e)):=by
 obtain ⟨i,z',hi,hz',h1,h2,h3⟩:=hT.info
 rw [hi] at hz
 simp only [Option.bind_some] at hz
 rw [hz'] at hz
 obtain rfl:=Option.some.inj hz
 have hle:(i.bytes:Int) * n ≤ 64 * 1099511627776:=Int.mul_le_mul (by omega) hb h0 (by omega)
 have:=run_make (P:=P) w t e i z' hT.und hi hz' kl kl n n h0 (Int.le_refl _) (by omega) (by omega)
 rw [this,h1,hz1]
 congr 3
 unfold madeCells
 apply Array.ext
 · simp
 · intro j hj1 hj2
   simp [Nat.mod_one]
theorem u_mk {ty e bytes:Nat} {x:Operand} {kk:IntKind} {m:Nat} {q:Int} {z:Value} (hp:Pl n o t) (ho:o.op = .makeSlice ty x x) (hT:TIc P ty e 1 bytes) (hz:Zro P e z) (hz1:z.cells = #[z]) (h1:z.oneCell' = true) (hby:Nat.ble bytes 64 = true)
   (hx:S.opd x = iC kk q) (hq:q = (m:Int)) (hm:m ≤ 1000000000) :
   OpOk n P ops o ((2 * t + 1) :: opdN x) (.row t (S.ver t + 1)) [(t,S.ver t + 1,.row e 1 (List.replicate m [rawP z]))] S:=
 op_mk hp (by simp) fun C T g a w hA hR=>by
   have h:=raw_opd (x:=x) hA (fun k h=>by simp [h]) hR hx
   subst hq
   have hrun:=run_mk1B hT.h z hz.h hz1 kk (m:Int) (by omega) (by omega) (Nat.le_of_ble_eq_true hby) w
   rw [Int.toNat_natCast] at hrun
   refine ⟨.slice (some ⟨w.heap.size,0,none⟩) m m,w.alloc (.cells (Array.replicate m z) e),w.heap.size,?_,(Ext.refl w).alloc _,Nat.le_refl _,alloc_lt _ _,fun vr' hvr hst=>⟨?_,?_⟩⟩
   · simp only [execOp,ho,h,Sem.run_bind,hrun];rfl
   · exact ⟨by rw [hvr,if_pos rfl];exact Nat.le_refl _,fun _=>(if_pos rfl).symm⟩
   · have hph:(g.mk1 t w.heap.size (.slice (some ⟨w.heap.size,0,none⟩) m m)).ph t = w.heap.size:=if_pos rfl
     have hrh:(g.mk1 t w.heap.size (.slice (some ⟨w.heap.size,0,none⟩) m m)).rh t = .slice (some ⟨w.heap.size,0,none⟩) m m:=if_pos rfl
     refine .inr ⟨m,Array.replicate m z,by rw [hrh,hph,List.length_replicate],by rw [hph];exact heap_alloc_new w _,by rw [hph];exact if_pos rfl,by simp,by unfold maxLen;omega,by simp,fun i ps hi=>?_⟩
     rw [List.getElem?_replicate] at hi
     split at hi
     · rename_i him
       cases hi
       refine ⟨rfl,fun j A hj=>?_⟩
       cases j with
       | zero=>simp at hj;subst hj;exact ⟨z,by simp [him],h1,rfl⟩
       | succ j=>simp at hj
     · cases hi
/-- 'copy(row, s)', the row just as long as the text -/
theorem u_copyS {dT sT e bytes:Nat} {x y:Operand} {id vr:Nat} {es:List (List PV)} {u:ByteArray} (hp:Pl n o t) (ho:o.op = .call { callee:=.builtin .copy,args:=#[x,y],argTypes:=#[dT,sT] }) (hT:TIc P dT e 1 bytes)
   (hx:S.opd x = .row id vr) (hv:S.ver id = vr) (hb:S.blk id = .row e 1 es) (hy:S.opd y = sC u) (hl:u.size = es.length) (h0:0 < es.length) :
   OpOk n P ops o ((2 * id + 1) :: (opdN x ++ opdN y)) (iC .i64 ((u.size:Nat):Int)) [(id,vr,.row e 1 (u.data.toList.map byteP))] S:=by
 refine ⟨?_⟩
 intro C T hA a w ⟨g,hR⟩
 have hxe:=opd_rep (x:=x) hA (fun k h=>by simp [h]) hR
 rw [hx] at hxe
 have hvt:=(hA.2 id (by simp)).2
 have hev:=hxe.2 (by rw [hvt,hv])
 have hye:=raw_opd (x:=y) hA (fun k h=>by simp [h]) hR hy
 have hB:=hR.blks id
 rw [(hA.2 id (by simp)).1,hb] at hB
 rcases hB with ⟨_,rfl⟩|⟨cap,cs,q1,q2,q3,q4,q5,q6,q7⟩
 · simp at h0
 rw [q1] at hev
 have hinf:(P.info? e).map (·.size) = some 1:=by
   obtain ⟨i,z',hi,hz',h1,h2,h3⟩:=hT.h.info
   rw [hi,Option.map_some,h1]
 have hrun:=Lib.run_copy_row_string (P:=P) w dT sT o.type e (g.ph id) 0 es.length cap u cs e hT.h.und hinf q2 (by omega) (by omega)
 unfold Exec
 rw [if_pos (hp.wanted a)]
 unfold Oper.wp
 have hex:(execOp a.eval o).run P w = .ok (.value (goInt u.size)) (w.setRow (g.ph id) (cs.toList.take 0 ++ Lib.byteCells u.data.toList ++ cs.toList.drop (0 + u.size)).toArray):=by
   simp only [execOp,ho,resolve,invoke,builtin,Sem.run_bind,Sem.run_pure,Result.andThen_ok,List.map_toArray,List.map_cons,List.map_nil,hev,hye,hrun]
 rw [hex,Oper.upon_value]
 have hst:=stp_set (cs':=(cs.toList.take 0 ++ Lib.byteCells u.data.toList ++ cs.toList.drop (0 + u.size)).toArray) hR rfl q2 q3
 have hver:(T.app o.dst (iC .i64 ((u.size:Nat):Int)) [(id,vr,.row e 1 (u.data.toList.map byteP))]).ver = T.ver:=by
   funext i'
   rw [St.app_some_ver]
   split
   · rename_i h;subst h;rw [hvt,hv]
   · rfl
 refine ⟨g,hR.app1 hp.dOk (by rw [hver];exact hst) rfl ?_⟩
 rw [hver]
 have hul:u.data.toList.length = u.size:=by rw [Array.length_toList];rfl
 have hcap:u.size ≤ cs.size:=by omega
 have hbl:(Lib.byteCells u.data.toList).length = u.size:=by simp [Lib.byteCells,hul]
 refine .inr ⟨cap,_,by rw [List.length_map,hul,hl];exact q1,setRow_heap _ _ _ _ _ _ q2,q3,by rw [List.length_map];omega,q5,by simp [hbl];omega,fun i ps hi=>?_⟩
 rw [List.getElem?_map] at hi
 cases hc:u.data.toList[i]? with
 | none=>rw [hc] at hi;cases hi
 | some c=>
   rw [hc] at hi;cases hi
   refine ⟨rfl,fun j A hj=>?_⟩
   cases j with
   | succ j=>simp [byteP] at hj
   | zero=>
     simp [byteP] at hj;subst hj
     have hil:i < u.size:=by rw [← hul];exact (List.getElem?_eq_some_iff.1 hc).1
     refine ⟨.int .u8 (c.toNat:Int),?_,rfl,rfl⟩
     rw [List.getElem?_toArray,List.take_zero,List.nil_append,List.getElem?_append_left (by rw [hbl];omega)]
     simp only [Lib.byteCells,List.getElem?_map,Nat.mul_one,Nat.add_zero,hc];rfl
end
section
variable {P:Program} {n:Nat} {ops:Array Oper} {o:Oper} {S:St} {t:Nat}
def idsN (ids:List Nat):List Nat:=ids.map fun i=>2 * i + 1
theorem idsN_mem {ids:List Nat}:∀ i ∈ ids,2 * i + 1 ∈ idsN ids:=fun i hi=>List.mem_map.2 ⟨i,hi,rfl⟩
theorem GivesP.mono {F F':List Nat} {ids:List Nat} {x:Operand} {c:Cnt} (h:GivesP F S ids x c) (hF:∀ k ∈ F,k ∈ F'):GivesP F' S ids x c:=
 fun n C T g a w hA hR=>h n C T g a w ⟨fun t ht=>hA.1 t (hF _ ht),fun i hi=>hA.2 i (hF _ hi)⟩ hR
inductive GPl (S:St) (ids:List Nat):List Operand → List Cnt → Prop
 | nil:GPl S ids [] []
 | cons {x:Operand} {c:Cnt} {xs:List Operand} {cs:List Cnt} (h:GivesP (srcN S x ++ idsN ids) S ids x c) (t:GPl S ids xs cs):GPl S ids (x :: xs) (c :: cs)
theorem GPl.gives {ids:List Nat} {xs:List Operand} {cs:List Cnt} (h:GPl S ids xs cs) {F:List Nat} (hF:∀ k ∈ callN S xs,k ∈ F) (hI:∀ k ∈ idsN ids,k ∈ F):GivesPL F S ids xs cs:=by
 induction h with
 | nil=>exact .nil
 | cons h t ih=>
   refine .cons (h.mono (fun k hk=>?_)) (ih (fun k hk=>hF k (by simp only [callN,List.flatMap_cons,List.mem_append];exact .inr hk)))
   rcases List.mem_append.1 hk with q|q
   · exact hF k (by simp only [callN,List.flatMap_cons,List.mem_append];exact .inl q)
   · exact hI k q
theorem c_P {ids:List Nat} {f:FuncId} {xs:List Operand} {As:List Cnt} {r:Ret} (hf:Fn P f As r) (hp:Pl n o t:=by exact ⟨rfl,rfl,rfl⟩) (ho:isCall o f xs:=by exact ⟨_,rfl⟩) (hpl:r.plain = true:=by rfl) (ha:AbsR r:=by infer_instance) (hg:GPl S ids xs As) :
   OpOk n P ops o (callN S xs ++ idsN ids) (ansC t 0 r) [] S:=op_callP hp ho hf hpl ha (hg.gives (fun _ h=>by simp [h]) (fun _ h=>by simp [h]))
instance absB (c:UInt8):AbsL (byteP c):=by unfold byteP;infer_instance
end

theorem wrapu_nn (n:Int):0 ≤ IntKind.u64.wrap n:=by rw [IntKind.wrap_u64];omega
def bitOf (n:Nat):UInt8:=UInt8.ofNat (2 ^ (n % 8))
def hasBit (row:List UInt8) (n:Nat):Bool:=((row[n / 8]?.getD 0) &&& bitOf n) != 0
theorem numI_le (n:Int) (h:okNum n):(numI n).length ≤ 9:=by
 have h':=h
 unfold okNum at h'
 exact numI_len n (by omega)
section
variable {bits probes seed:Int} {row:List UInt8}
end
theorem numSt_zero {l l':List UInt8} {e x:Int} (h:numSt l e = (x,l',0)):e = 0:=by
 unfold numSt at h
 split at h
 · rename_i he;simp at h;exact absurd h.2.2 he
 · omega
theorem within_zero {lo hi:Int} {l l':List UInt8} {e x:Int} (h:withinSt lo hi l e = (x,l',0)):e = 0 ∧ lo ≤ x ∧ x ≤ hi ∧ numSt l e = (x,l',0):=by
 unfold withinSt at h
 split at h
 · simp at h
 · rename_i hn
   refine ⟨numSt_zero h,?_,?_,h⟩
   · rw [h] at hn;simp at hn;omega
   · rw [h] at hn;simp at hn;omega
theorem text_zero {most:Int} {l l':List UInt8} {e:Int} {s:List UInt8} (h:textSt most l e = (s,l',0)):∃ x l1,withinSt 0 most l e = (x,l1,0) ∧ s = l1.take x.toNat ∧ l' = l1.drop x.toNat ∧ 0 ≤ x ∧ x ≤ l1.length:=by
 unfold textSt at h
 split at h
 · rename_i hn
   exact absurd (by have:=congrArg (fun p=>p.2.2) h;simpa using this) hn
 · rename_i hn
   split at h
   · simp at h
   · rename_i hx
     simp at h
     have hw:withinSt 0 most l e = ((withinSt 0 most l e).1,(withinSt 0 most l e).2.1,0):=by
       exact Prod.ext rfl (Prod.ext rfl (by simpa using hn))
     have:=within_zero hw
     exact ⟨_,_,hw,h.1.symm,h.2.symm,this.2.1,by omega⟩
theorem end_zero {l:List UInt8} {e:Int} (h:endSt l e = 0):e = 0 ∧ l = []:=by
 unfold endSt at h
 split at h
 · omega
 · rename_i hn
   subst h
   refine ⟨rfl,?_⟩
   cases l with
   | nil=>rfl
   | cons a l=>simp at hn
def topBad (bits:Int) (s:List UInt8):Prop:=0 < bits.toNat % 8 ∧ 0 < (s.getD (s.length - 1) 0).toNat / 2 ^ (bits.toNat % 8)
theorem top_bit (x:UInt8) (j:Nat) (hj:j < 8) (h:0 < x.toNat / 2 ^ j):∃ k,j ≤ k ∧ k < 8 ∧ (x &&& bitOf k != 0) = true:=by
 have:∀ j:Fin 8,∀ x:Fin 256,0 < x.val / 2 ^ j.val → ∃ k:Fin 8,j.val ≤ k.val ∧ (UInt8.ofNat x.val &&& bitOf k.val != 0) = true:=by decide +kernel
 obtain ⟨k,h1,h2⟩:=this ⟨j,hj⟩ ⟨x.toNat,x.toNat_lt⟩ h
 exact ⟨k.val,h1,k.isLt,by simpa using h2⟩
theorem not_top {bits:Int} {row:List UInt8} (h1:1 ≤ bits) (hl:row.length = (bits.toNat + 7) / 8) (h:∀ n,hasBit row n = true → (n:Int) < bits):¬ topBad bits row:=by
 rintro ⟨ha,hb⟩
 obtain ⟨k,k1,k2,k3⟩:=top_bit _ _ (Nat.mod_lt _ (by decide)) hb
 have:=h (8 * (row.length - 1) + k) (by
   unfold hasBit
   rw [show (8 * (row.length - 1) + k) / 8 = row.length - 1 by omega,show bitOf (8 * (row.length - 1) + k) = bitOf k by unfold bitOf;rw [show (8 * (row.length - 1) + k) % 8 = k % 8 by omega]]
   simpa using k3)
 omega
end Go.Proofs.YthlffkjpklpkfaaGreat
