/- Texts joined: Clo KnW. -/
import Derived.Test.YtfcpkegmdlchhaaGreatJ21
import Derived.Test.YtfcpkegmdlchhaaGreatJ06
import Derived.Test.YtfcpkegmdlchhaaGreatJ15
set_option maxRecDepth 10000
set_option maxHeartbeats 8000000
namespace Go.Proofs.YtfcpkegmdlchhaaGreat
open Go.RowKit
def cloP (f:FuncId) (As:List PV):PV:=⟨fun N w v=>∃ xs:List Value,v = .func (.func f) #[] xs.toArray ∧ xs.length = As.length ∧ ∀ (j:Nat) (x:Value) (A:PV),xs[j]? = some x → As[j]? = some A → A.p N w x,
 fun h1 h2 h3 ⟨xs,e,l,h⟩=>⟨xs,e,l,fun j x A a b=>A.mono h1 h2 h3 (h j x A a b)⟩⟩
section
variable {P:Program} {n t:Nat} {ops:Array Oper} {o:Oper} {F:List Nat} {S:St}
theorem op_mkP2 {f:FuncId} {x y:Operand} {A B:PV} (hp:Pl n o t) (ho:o.op = .makeFunc (.func f) #[] #[x,y]) (hx:S.opd x = .per A) (hy:S.opd y = .per B):OpOk n P ops o (opdN x ++ opdN y) (.per (cloP f [A,B])) [] S:=
 op_val hp fun C T g a w hA hR=>⟨.func (.func f) #[] #[a.eval x,a.eval y],by simp [execOp,ho,Instr.makeFunc],[a.eval x,a.eval y],rfl,rfl,fun j v B' h1 h2=>by
   have h:=opd_rep (x:=x) hA (fun k h=>by simp [h]) hR
   have h':=opd_rep (x:=y) hA (fun k h=>by simp [h]) hR
   rw [hx] at h
   rw [hy] at h'
   match j with
   | 0=>cases h1;cases h2;exact h
   | 1=>cases h1;cases h2;exact h'
   | j + 2=>cases h1⟩
theorem head_cloP {x0:Operand} {f:FuncId} {As:List PV} (hx:S.opd x0 = .per (cloP f As)) (hF:∀ k ∈ opdN x0,k ∈ F):HeadOk F S x0 f (As.map .per):=fun n C T g a w hA hR=>by
 have h:=opd_rep (x:=x0) hA hF hR
 rw [hx] at h
 obtain ⟨xs,e,l,h⟩:=h
 refine ⟨xs,e,by rw [l,List.length_map],fun j v c h1 h2=>?_⟩
 rw [List.getElem?_map] at h2
 obtain ⟨A,hA',rfl⟩:=Option.map_eq_some_iff.1 h2
 exact h j v A h1 hA'
theorem mp_pers {bo:Bool} {ρ:Nat → Option Nat} {old new:Nat → Nat} (As:List PV):(As.map Cnt.per).map (Cnt.mp bo ρ old new) = As.map Cnt.per:=by
 rw [List.map_map];exact List.map_congr_left fun _ _=>rfl
/-- a call of a function value that has caught things -/
theorem c_CP {f:FuncId} {x0:Operand} {xs:List Operand} (Bs:List Cnt) {As:List PV} {full:List Cnt} {r:Cnt} (hf:FnM P f full [] r []) (hfl:Bs ++ As.map Cnt.per = full:=by rfl) (hp:PlM n o:=by exact ⟨rfl,rfl⟩) (ho:isCallV o x0 xs:=by exact ⟨_,rfl⟩) (hx:S.opd x0 = .per (cloP f As):=by rfl)
   (hg:GMl S [] xs Bs:=by first|((repeat (first|exact GMl.nil|(refine GMl.cons ?_ ?_;focus (first|exact gq_per rfl|exact gq_lst rfl|exact gq_row rfl rfl rfl rfl|exact gq_bor rfl|exact gq_nil rfl|exact gq_nil' rfl|exact gq_ref rfl rfl))));done)|fail):OpOk n P ops o (opdN x0 ++ (callN S xs ++ sgN [])) (r.mp false (lk1 []) z0 (nvM S.ver [])) (updM S [] [] []) S:=
 op_callM (cs:=As.map .per) [] hp ho (head_cloP hx (fun k h=>by simp [h])) (by rw [mp_pers,hfl];exact hf) rfl (fun p h=>by cases h) (hg.gives (fun _ h=>by simp at h ⊢;exact .inr (.inl h)) (fun _ h=>by simp [h])) .nil
end
/-- not too much in all -/
def pcsMid (k:List Pc):Prop:=k.length ≤ 1000000 ∧ (k.flatMap Pc.set).length ≤ 1000000 ∧ ((k.flatMap Pc.set).flatMap Kn.runs).length ≤ 1000000
def hasF (s:ByteArray) (p:Pc):List Kn:=if rgHas p.rg s then p.set else []
theorem flat_sub {α β:Type} {f g:α → List β} (h:∀ x,(f x).Sublist (g x)):∀ l:List α,(l.flatMap f).Sublist (l.flatMap g):=by
 intro l
 induction l with
 | nil=>exact .slnil
 | cons x l ih=>rw [List.flatMap_cons,List.flatMap_cons];exact (h x).append ih
theorem flat_sub_len {α β:Type} (f:α → List β) {a b:List α} (h:a.Sublist b):(a.flatMap f).length ≤ (b.flatMap f).length:=by
 induction h with
 | slnil=>exact Nat.le_refl _
 | cons x _ ih=>rw [List.flatMap_cons,List.length_append];omega
 | cons_cons x _ ih=>rw [List.flatMap_cons,List.flatMap_cons,List.length_append,List.length_append];omega
theorem hasF_sub (s:ByteArray) (p:Pc):(hasF s p).Sublist p.set:=by
 unfold hasF;split
 · exact List.Sublist.refl _
 · exact List.nil_sublist _
theorem pcsMid.has {k:List Pc} (h:pcsMid k) (s:ByteArray):knsMid (k.flatMap (hasF s)):=by
 have h1:=flat_sub (hasF_sub s) k
 have h2:=h1.length_le
 have h3:=flat_sub_len Kn.runs h1
 exact ⟨by have:=h.2.1;omega,by have:=h.2.2;omega⟩
theorem flat_take {α β:Type} (f:α → List β) (l:List α) (z:Nat):(l.take z).flatMap f = (l.take z).flatMap f ∧ ((l.take z).flatMap f).length ≤ (l.flatMap f).length:=⟨rfl,flat_sub_len f (List.take_sublist _ _)⟩
theorem flat_snoc {α β:Type} (f:α → List β) (l:List α) (z:Nat) (h:z < l.length):(l.take (z + 1)).flatMap f = (l.take z).flatMap f ++ f l[z]:=by
 rw [List.take_succ_eq_append_getElem h,List.flatMap_append,List.flatMap_cons,List.flatMap_nil,List.append_nil]
theorem mem_flat_len2 {α β:Type} (f:α → List β) {l:List α} {x:α} (h:x ∈ l):(f x).length ≤ (l.flatMap f).length:=by
 induction l with
 | nil=>cases h
 | cons y l ih=>
   rw [List.flatMap_cons,List.length_append]
   rcases List.mem_cons.1 h with rfl|h
   · omega
   · have:=ih h;omega
section
theorem kn_At (k:List Pc) (s:ByteArray) (hk:pcsMid k) (hs:s.size ≤ 1000000000):Fn Tryz.prog 124 [pcsB k,sC s] (ownKn (atK k s)):=by
 have hk1:=hk.1
 have hO:=vset_Of (k.flatMap (hasF s)) (hk.has s).tot
 rw [show vsOf ofR (k.flatMap (hasF s)) = atK k s from rfl] at hO
 generalize atK k s = R at *
 refine fi Tryz.func124 Tryz.ntmps124 ?_
 (refine w0 ?_;(repeat' first|refine W2.mk ?_ ?_|refine W1.mk fun hc=>?_))
 refine AW_le (Le_nil 5 700 132 2 rfl rfl) ?_
 refine AW_loopP (X:=Nat) (fun z=>z ≤ k.length)
   (fun z=>mkSt [(1,sC s),(5,.row 700 0),(8,pcsB k),(9,iC .i64 (k.length:Nat)),(10,iC .i64 ((z:Nat):Int))] [(700,.row 132 2 (((k.take z).flatMap (hasF s)).map knP))]) (fun z=>k.length - z) 0 (Nat.zero_le _) ?_ ?_
 · exact le_auto
 · intro z hz
   by_cases hlt:z < k.length
   · have hsn:=flat_snoc (hasF s) k z hlt
     have h1:=(flat_take (hasF s) k z).2
     have h2:=(hk.has s).1
     have h3:=mem_flat_len2 Pc.set (List.getElem_mem hlt)
     have h4:=hk.2.1
     have c1:=span_Has k[z].rg s hs
     generalize (k.take z).flatMap (hasF s) = A at *
     unfold hasF at hsn
     clear hk
     cases c:rgHas k[z].rg s with
     | true=>
       rw [c] at c1 hsn
       rw [if_pos rfl] at hsn
       (have kc1:=c1;refine w0 ?_;(repeat' first|refine W2.mk ?_ ?_|refine W1.mk fun hc=>?_);all_goals clear kc1)
       refine ⟨z + 1,hlt,by omega,Le_trans (Le_mv 700 701) (Le_trans (Le_mv 701 700) ?_)⟩
       rw [show (k.take (z + 1)).flatMap (hasF s) = _ from hsn]
       exact le_auto
     | false=>
       rw [c] at c1 hsn
       rw [if_neg (by simp),List.append_nil] at hsn
       (have kc1:=c1;refine w0 ?_;(repeat' first|refine W2.mk ?_ ?_|refine W1.mk fun hc=>?_);all_goals clear kc1)
       refine ⟨z + 1,hlt,by omega,?_⟩
       rw [show (k.take (z + 1)).flatMap (hasF s) = _ from hsn]
       exact le_auto
   · rw [List.take_of_length_le (show k.length ≤ z by omega)]
     clear hk
     generalize k.flatMap (hasF s) = A at *
     (have kc1:=hO;refine w0 ?_;(repeat' first|refine W2.mk ?_ ?_|refine W1.mk fun hc=>?_);all_goals clear kc1)
     refine rt1 ?_
     exact rv_own rfl rfl rfl
/-- all edges as they come -/
def rawE (p:Pc):List ByteArray:=if rgR p.rg then (if p.rg.op then [p.rg.lo] else [p.rg.lo,p.rg.hi]) else []
theorem rawE_one (p:Pc) (m:ByteArray):m ∈ rawE p ↔ isEdge p.rg m:=by
 unfold rawE isEdge
 by_cases c:rgR p.rg = true
 · rw [if_pos c]
   cases o:p.rg.op with
   | true=>simp [c]
   | false=>simp [c]
 · rw [if_neg c]
   simp [c]
theorem rawE_mem (k:List Pc) (m:ByteArray):m ∈ k.flatMap rawE ↔ ∃ r ∈ rgsOf k,isEdge r m:=by
 unfold rgsOf
 rw [List.mem_flatMap]
 constructor
 · rintro ⟨p,hp,h⟩
   exact ⟨p.rg,List.mem_map_of_mem hp,(rawE_one p m).1 h⟩
 · rintro ⟨r,hr,h⟩
   obtain ⟨p,hp,rfl⟩:=List.mem_map.1 hr
   exact ⟨p,hp,(rawE_one p m).2 h⟩
theorem rawE_len (p:Pc):(rawE p).length ≤ 2:=by unfold rawE;split;split <;> simp;simp
theorem rawE_flen:∀ k:List Pc,(k.flatMap rawE).length ≤ 2 * k.length:=by
 intro k
 induction k with
 | nil=>simp
 | cons p k ih=>rw [List.flatMap_cons,List.length_append,List.length_cons];have:=rawE_len p;omega
theorem rawE_sz {k:List Pc} {m:ByteArray} (h:m ∈ emB :: k.flatMap rawE):m.size ≤ 1000000000000:=by
 rcases List.mem_cons.1 h with rfl|h
 · decide
 · obtain ⟨r,_,c,q⟩:=(rawE_mem k m).1 h
   have:=(rgR_iff r).1 c
   rcases q with q|⟨_,q⟩ <;> rw [q] <;> omega
theorem rawE_sort (k:List Pc):compB (sortT (emB :: k.flatMap rawE)) = edgK k:=
 sortC_eq (fun _ h=>rawE_sz h) (edgK_up k) (fun s=>by
   unfold edgK
   rw [edgT_mem,List.mem_cons (a:=s) (b:=emB) (l:=k.flatMap rawE),rawE_mem,List.mem_singleton])
abbrev pcsC (l:List Pc):Cnt:=.per (pcsP l)
abbrev txW (l:List ByteArray):Blk:=.row 9 1 (l.map strP)
theorem kn_edges (ls:List (List Pc)) (hl:ls.length ≤ 1000) (hk:ls.flatten.length ≤ 1000000):Fn Tryz.prog 122 [.bor 1 (ls.map fun k=>[pcsP k])] (.own 9 1 ((edgK ls.flatten).map strP)):=by
 have hsort:=rawE_sort ls.flatten
 have hlen:=rawE_flen ls.flatten
 have s1:=sort_str (emB :: ls.flatten.flatMap rawE) (fun s h=>rawE_sz h) (by rw [List.length_cons];omega)
 have s2:=comp_str (sortT (emB :: ls.flatten.flatMap rawE)) (by
   have:=(sortT_spec (l:=emB :: ls.flatten.flatMap rawE) (fun s h=>rawE_sz h)).1.length_eq
   rw [this,List.length_cons];omega)
 rw [hsort] at s2
 generalize edgK ls.flatten = R at *
 generalize sortT (emB :: ls.flatten.flatMap rawE) = Q at *
 clear hsort
 refine fi Tryz.func122 Tryz.ntmps122 ?_
 (repeat' (first|refine AW_seq ?_|refine AW_block ?_|refine AW_skip ?_|refine AW_exit ?_|refine AW_ret ?_|refine AW_region ?_|refine AW_draw mixed0 ?_|refine AL_nil ?_|refine AD_nil (by kernel_rfl) ?_|(refine AW_cl rfl rfl ⟨fun hc=>?_,fun hc=>?_⟩ <;> (repeat rw [List.length_map] at hc) <;> (try exact absd hc))|((first|apply AL_t rfl|apply AL_0 rfl|apply AD_t rfl|apply AD_0 rfl);focus (first|((apply u_k 15;(focus rfl);solve|(apply u_bslice_row <;> first|exact ⟨rfl,rfl,rfl⟩|rfl|infer_instance|(repeat (first|exact PartsL.nil|(apply PartsL.cons;(focus (first|exact part_raw rfl rfl rfl|exact part_agg rfl|exact part_lst rfl))))))))|(apply u_g;(focus rfl);apply op_gyes rfl rfl rfl rfl rfl;((apply u_k 15;(focus rfl);solve|(apply u_bslice_row <;> first|exact ⟨rfl,rfl,rfl⟩|rfl|infer_instance|(repeat (first|exact PartsL.nil|(apply PartsL.cons;(focus (first|exact part_raw rfl rfl rfl|exact part_agg rfl|exact part_lst rfl)))))))))|exact z_auto|fail))|refine thenA_n ?_|refine thenA_r ?_|refine thenA_e ?_|refine inB_n ?_|refine inB_r ?_|refine inB_hit ?_|refine inB_miss rfl ?_|((first|refine AL_cl rfl rfl rfl ⟨fun hc=>?_,fun hc=>?_⟩|refine AD_cl rfl rfl rfl ⟨fun hc=>?_,fun hc=>?_⟩) <;> (fail_if_success (have q:(true = true):=hc)) <;> (fail_if_success (have q:(false = false):=hc)) <;> (repeat rw [List.length_map] at hc) <;> (try exact absd hc))|refine AW_cond_nil rfl rfl (fun hc=>?_) ?_))
 refine AW_le (Le_mv 8 700) ?_
 refine AW_loopP (X:=Nat) (fun z=>z ≤ ls.length)
   (fun z=>mkSt [(3,.row 700 0),(9,.bor 1 (ls.map fun k=>[pcsP k])),(10,iC .i64 (ls.length:Nat)),(11,iC .i64 ((z:Nat):Int))] [(700,txW (emB :: (ls.take z).flatten.flatMap rawE))]) (fun z=>ls.length - z) 0 (Nat.zero_le _) ?_ ?_
 · exact le_auto
 · intro z hz
   by_cases hlt:z < ls.length
   · have htk:(ls.take (z + 1)).flatten = (ls.take z).flatten ++ ls[z]:=by rw [List.take_succ_eq_append_getElem hlt,List.flatten_append];simp
     have hsub:(ls.take (z + 1)).flatten.length ≤ ls.flatten.length:=by
       have:ls.flatten = (ls.take (z + 1)).flatten ++ (ls.drop (z + 1)).flatten:=by rw [← List.flatten_append,List.take_append_drop]
       rw [this,List.length_append];omega
     have hl2:=congrArg List.length htk
     rw [List.length_append] at hl2
     have hraw:(ls.take (z + 1)).flatten.flatMap rawE = (ls.take z).flatten.flatMap rawE ++ ls[z].flatMap rawE:=by rw [htk,List.flatMap_append]
     have hA:=rawE_flen (ls.take z).flatten
     generalize (ls.take z).flatten.flatMap rawE = A at *
     clear s1 s2 htk
     (refine w0 ?_;(repeat' first|refine W2.mk ?_ ?_|refine W1.mk fun hc=>?_))
     refine AW_loopP (X:=Nat) (fun y=>y ≤ ls[z].length)
       (fun y=>mkSt [(3,.row 700 0),(9,.bor 1 (ls.map fun k=>[pcsP k])),(10,iC .i64 (ls.length:Nat)),(11,iC .i64 ((z:Nat):Int)),(15,pcsC ls[z]),(16,iC .i64 (ls[z].length:Nat)),(17,iC .i64 ((y:Nat):Int))] [(700,txW (emB :: (A ++ (ls[z].take y).flatMap rawE)))]) (fun y=>ls[z].length - y) 0 (Nat.zero_le _) ?_ ?_
     · (refine Le_mk ?_ ?_;(focus ((repeat (first|exact AllG.nil|(refine AllG.cons ?_ ?_;rotate_left)));(all_goals try (first|rfl|(refine eqI ?_;first|omega|(simp;done)|(simp;omega))|(refine eqBo ?_;first|(simp;done)|(simp [*];done))))));(focus ((repeat (first|exact AllB.nil|(refine AllB.cons ?_ ?_;rotate_left)));(all_goals try (first|rfl|(refine eqRw ?_;(rw [List.map_append] <;> rfl);done)|(refine eqMix ?_;(rw [List.map_append] <;> rfl);done))))))
       rw [List.take_zero,List.flatMap_nil,List.append_nil]
       rfl
     · intro y hy
       by_cases hly:y < ls[z].length
       · have hsn:=flat_snoc rawE ls[z] y hly
         have hB:=(flat_take rawE ls[z] y).2
         have hB2:=rawE_flen ls[z]
         have c1:=span_Right ls[z][y].rg
         generalize (ls[z].take y).flatMap rawE = B at *
         unfold rawE at hsn
         cases c:rgR ls[z][y].rg with
         | false=>
           rw [c] at c1 hsn
           rw [if_neg (by simp),List.append_nil] at hsn
           (have kc1:=c1;refine w0 ?_;(repeat' first|refine W2.mk ?_ ?_|refine W1.mk fun hc=>?_);all_goals clear kc1)
           refine ⟨y + 1,hly,by omega,?_⟩
           rw [show (ls[z].take (y + 1)).flatMap rawE = _ from hsn]
           exact le_auto
         | true=>
           rw [c] at c1 hsn
           rw [if_pos rfl] at hsn
           cases o:ls[z][y].rg.op with
           | true=>
             rw [o,if_pos rfl] at hsn
             (have kc1:=c1;refine w0 ?_;(repeat' first|refine W2.mk ?_ ?_|refine W1.mk fun hc=>?_);all_goals clear kc1)
             all_goals first
               | (exfalso;simp [o] at hc;done)
               | (refine ⟨y + 1,hly,by omega,Le_trans (Le_mv 700 701) (Le_trans (Le_mv 701 700) ?_)⟩
                  rw [show (ls[z].take (y + 1)).flatMap rawE = _ from hsn]
                  (refine Le_mk ?_ ?_;(focus ((repeat (first|exact AllG.nil|(refine AllG.cons ?_ ?_;rotate_left)));(all_goals try (first|rfl|(refine eqI ?_;first|omega|(simp;done)|(simp;omega))|(refine eqBo ?_;first|(simp;done)|(simp [*];done))))));(focus ((repeat (first|exact AllB.nil|(refine AllB.cons ?_ ?_;rotate_left)));(all_goals try (first|rfl|(refine eqRw ?_;(rw [List.map_append] <;> rfl);done)|(refine eqMix ?_;(rw [List.map_append] <;> rfl);done))))))
                  show Blk.row _ _ _ = Blk.row _ _ _
                  simp
                  try rfl)
           | false=>
             rw [o,if_neg (by simp)] at hsn
             (have kc1:=c1;refine w0 ?_;(repeat' first|refine W2.mk ?_ ?_|refine W1.mk fun hc=>?_);all_goals clear kc1)
             all_goals first
               | (exfalso;simp [o] at hc;done)
               | (refine ⟨y + 1,hly,by omega,Le_trans (Le_mv 700 701) (Le_trans (Le_mv 701 700) ?_)⟩
                  rw [show (ls[z].take (y + 1)).flatMap rawE = _ from hsn]
                  (refine Le_mk ?_ ?_;(focus ((repeat (first|exact AllG.nil|(refine AllG.cons ?_ ?_;rotate_left)));(all_goals try (first|rfl|(refine eqI ?_;first|omega|(simp;done)|(simp;omega))|(refine eqBo ?_;first|(simp;done)|(simp [*];done))))));(focus ((repeat (first|exact AllB.nil|(refine AllB.cons ?_ ?_;rotate_left)));(all_goals try (first|rfl|(refine eqRw ?_;(rw [List.map_append] <;> rfl);done)|(refine eqMix ?_;(rw [List.map_append] <;> rfl);done))))))
                  show Blk.row _ _ _ = Blk.row _ _ _
                  simp
                  try rfl)
       · rw [List.take_of_length_le (show ls[z].length ≤ y by omega)]
         rw [← hraw]
         (refine w0 ?_;(repeat' first|refine W2.mk ?_ ?_|refine W1.mk fun hc=>?_))
         refine ⟨z + 1,hlt,by omega,?_⟩
         exact le_auto
   · rw [List.take_of_length_le (show ls.length ≤ z by omega)]
     (have km1:=(show FnMs [(1000,700)] _ _ _ _ _ _ from s1);have km2:=(show FnMs [(2000,700),(3000,800)] _ _ _ _ _ _ from s2);refine w0 ?_;(repeat' first|refine W2.mk ?_ ?_|refine W1.mk fun hc=>?_);all_goals clear km2 km1)
     refine rt1 ?_
     exact rv_own rfl rfl rfl
end
end Go.Proofs.YtfcpkegmdlchhaaGreat
