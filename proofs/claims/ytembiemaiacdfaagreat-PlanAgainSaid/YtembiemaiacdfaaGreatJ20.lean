/- Texts joined: KnO AbsZ Kw2. -/
import Derived.Test.YtembiemaiacdfaaGreatJ19
import Derived.Test.YtembiemaiacdfaaGreatJ05
import Derived.Test.YtembiemaiacdfaaGreatJ07
import Derived.Test.YtembiemaiacdfaaGreatJ18
set_option maxRecDepth 10000
set_option maxHeartbeats 8000000
namespace Go.Proofs.YtembiemaiacdfaaGreat
open Go.RowKit
/-! ### sizes -/
theorem setFrom_sz {M:Nat}:∀ (T:List (List Rn)) (i:Nat),(∀ l ∈ T,l.length ≤ M) → (setFrom ofR i T).length ≤ T.length ∧ ((setFrom ofR i T).flatMap Kn.runs).length ≤ T.length * M:=by
 intro T
 induction T with
 | nil=>intro i _;simp [setFrom]
 | cons l T ih=>
   intro i h
   have h1:=ih (i + 1) (fun x hx=>h x (List.mem_cons_of_mem _ hx))
   have h2:=h l (by simp)
   have h3:=ofR_len l
   rw [setFrom,List.flatMap_append,List.length_append,List.length_append,List.length_cons,Nat.add_mul,Nat.one_mul]
   split
   · simp only [List.length_nil,List.flatMap_nil];omega
   · simp only [List.length_cons,List.length_nil,List.flatMap_cons,List.flatMap_nil,List.append_nil];omega
theorem vsOf_sz {X:List Kn} {M:Nat} (h:(X.flatMap Kn.runs).length ≤ M):(vsOf ofR X).length ≤ 16 ∧ ((vsOf ofR X).flatMap Kn.runs).length ≤ 16 * M:=by
 have:=setFrom_sz (M:=M) (tabOf X) 0 (fun l hl=>by
   obtain ⟨r,_,rfl⟩:=List.mem_map.1 hl
   have:=tabAt_len X r
   omega)
 rw [tabOf_len] at this
 exact this
theorem atK_sz {k:List Pc} (hk:pcsMid k) (s:ByteArray):(atK k s).length ≤ 16 ∧ ((atK k s).flatMap Kn.runs).length ≤ 16000000:=by
 have h1:=flat_sub_len Kn.runs (flat_sub (hasF_sub s) k)
 have:=vsOf_sz (X:=k.flatMap (hasF s)) (M:=1000000) (by have:=hk.2.2;omega)
 exact this
theorem atK_mid2 {k:List Pc} (hk:pcsMid k) (s:ByteArray):knsMid (atK k s):=by
 have:=atK_sz hk s
 exact ⟨by omega,by omega⟩
theorem atK_tab {k:List Pc} (hk:pcsMid k) (s:ByteArray):∀ l ∈ tabOf (atK k s),l.length ≤ 1000000:=fun l hl=>by
 unfold atK at hl
 rw [tabOf_vsOf] at hl
 obtain ⟨t,ht,rfl⟩:=List.mem_map.1 hl
 obtain ⟨r,_,rfl⟩:=List.mem_map.1 ht
 have h1:=ofR_len (tabAt (k.flatMap (hasF s)) r)
 have h2:=tabAt_len (k.flatMap (hasF s)) r
 have h3:=flat_sub_len Kn.runs (flat_sub (hasF_sub s) k)
 have h4:=hk.2.2
 show (ofR (tabAt (k.flatMap (hasF s)) r)).length ≤ _
 omega
theorem zip_mem {g:List Rn → List Rn → List Rn}:∀ (T U:List (List Rn)) (l:List Rn),l ∈ List.zipWith g T U → ∃ t u,t ∈ T ∧ u ∈ U ∧ l = g t u:=by
 intro T
 induction T with
 | nil=>intro U l h;simp at h
 | cons t T ih=>
   intro U l h
   cases U with
   | nil=>simp at h
   | cons u U=>
     rw [List.zipWith_cons_cons] at h
     rcases List.mem_cons.1 h with h|h
     · exact ⟨t,u,by simp,by simp,h⟩
     · obtain ⟨t',u',a,b,c⟩:=ih U l h
       exact ⟨t',u',List.mem_cons_of_mem _ a,List.mem_cons_of_mem _ b,c⟩
theorem vsLess_sz {a b:List Pc} (ha:pcsMid a) (hb:pcsMid b) (s:ByteArray):(vsLess (atK a s) (atK b s)).length ≤ 16 ∧ ((vsLess (atK a s) (atK b s)).flatMap Kn.runs).length ≤ 64000000:=by
 have hl:(lessTab (tabOf (atK a s)) (tabOf (atK b s))).length = 16:=by unfold lessTab;rw [List.length_zipWith,tabOf_len,tabOf_len];rfl
 have:=setFrom_sz (M:=4000000) (lessTab (tabOf (atK a s)) (tabOf (atK b s))) 0 (fun l hl'=>by
   obtain ⟨t,u,ht,hu,rfl⟩:=zip_mem _ _ _ hl'
   have h1:=opR_len (byR lessK t u) t u
   have h2:=atK_tab ha s _ ht
   have h3:=atK_tab hb s _ hu
   unfold lessR
   omega)
 rw [hl] at this
 exact this
theorem vsLess_ok (a b:List Kn):knsOk (vsLess a b):=(setFrom_ok _ 0 (by unfold lessTab;rw [List.length_zipWith,tabOf_len,tabOf_len];decide)).1
def lessKn (a b:List Pc):List Pc:=bldK (fun s=>vsLess (atK a s) (atK b s)) (edgK (a ++ b))
theorem edgK_sz {k:List Pc} {m:ByteArray} (h:m ∈ edgK k):m.size ≤ 1000000000:=by
 have:=edgK_ok k m h;omega
theorem edgK_len (k:List Pc):(edgK k).length ≤ 1 + 2 * k.length:=by
 have:=edgT_len (rgsOf k) [emB]
 unfold edgK
 unfold rgsOf at *
 simp only [List.length_cons,List.length_nil,List.length_map,Nat.zero_add] at this
 exact this
section
theorem kn_clone (k:List Pc) (hk:pcsOk k) (hm:pcsSz k):Fn Tryz.prog 177 [pcsB k] (ownPc k):=by
 have hl:=hm.1
 refine fi Tryz.func177 Tryz.ntmps177 ?_
 (refine w0 ?_;(repeat' first|refine W2.mk ?_ ?_|refine W1.mk fun hc=>?_))
 refine AW_le (Le_nil 3 700 110 4 rfl rfl) ?_
 refine AW_loopP (X:=Nat) (fun z=>z ≤ k.length)
   (fun z=>mkSt [(3,.row 700 0),(6,pcsB k),(7,iC .i64 (k.length:Nat)),(8,iC .i64 ((z:Nat):Int))] [(700,pcsW (k.take z))]) (fun z=>k.length - z) 0 (Nat.zero_le _) ?_ ?_
 · exact le_auto
 · intro z hz
   by_cases hlt:z < k.length
   · have hset:=(hk z hlt hlt).2.2.1
     have htot:knsTot k[z].set:=hm.2 _ (List.getElem_mem hlt)
     have c1:=(vs_Of_ok k[z].set htot hset).frz
     have hsn:k.take (z + 1) = k.take z ++ [k[z]]:=by rw [List.take_succ_eq_append_getElem hlt]
     have hlk:(k.take z).length ≤ z:=by rw [List.length_take];omega
     generalize k.take z = A at *
     clear hk hm
     (have kc1:=c1;refine w0 ?_;(repeat' first|refine W2.mk ?_ ?_|refine W1.mk fun hc=>?_);all_goals clear kc1)
     refine ⟨z + 1,hlt,by omega,Le_trans (Le_mv 700 701) (Le_trans (Le_mv 701 700) ?_)⟩
     rw [hsn]
     exact le_auto
   · rw [List.take_of_length_le (show k.length ≤ z by omega)]
     (refine w0 ?_;(repeat' first|refine W2.mk ?_ ?_|refine W1.mk fun hc=>?_))
     refine rt1 ?_
     exact rv_own rfl rfl rfl
theorem pcsMid_sz {k:List Pc} (h:pcsMid k):pcsSz k:=⟨by have:=h.1;omega,fun p hp=>by
 have h1:=mem_flat_len2 Pc.set hp
 have h2:=flat_sub_len Kn.runs (a:=p.set) (b:=k.flatMap Pc.set) (by
   clear h1 h
   induction k with
   | nil=>cases hp
   | cons q k ih=>
     rw [List.flatMap_cons]
     rcases List.mem_cons.1 hp with rfl|h
     · exact List.sublist_append_left _ _
     · exact (ih h).trans (List.sublist_append_right _ _))
 have h3:=h.2
 exact ⟨by omega,by omega⟩⟩
theorem kn_of1 (k:List Pc) (s:ByteArray) (hk:pcsMid k) (hs:s.size ≤ 1000000000):Fn Tryz.prog 178 [sC s,.per (rptrP [pcsP k])] (ownKn (atK k s)):=by
 have h1:=kn_At k s hk hs
 generalize atK k s = A at *
 refine fi Tryz.func178 Tryz.ntmps178 ?_
 (have ko1:=h1;refine w0 ?_;(repeat' first|refine W2.mk ?_ ?_|refine W1.mk fun hc=>?_);all_goals clear ko1)
 refine rt1 ?_
 exact rv_own rfl rfl rfl
theorem kn_Of_ok (k:List Pc) (hok:pcsOk k) (hk:pcsSz k):Fn Tryz.prog 130 [pcsC k] (ownPc k):=by
 have h0:=know_Right k hk true (by simp [hok])
 have h1:=kn_clone k hok hk
 clear hok hk
 refine fi Tryz.func130 Tryz.ntmps130 ?_
 (have kc1:=h0;have kc2:=h1;refine w0 ?_;(repeat' first|refine W2.mk ?_ ?_|refine W1.mk fun hc=>?_);all_goals clear kc2 kc1)
 refine rt1 ?_
 exact rv_own rfl rfl rfl
theorem kn_Of (k:List Pc) (hk:pcsMid k):Fn Tryz.prog 130 [pcsC k] (ownPc (ofK k)):=by
 have hl:=hk.1
 by_cases hok:pcsOk k
 · rw [ofK_id hok]
   exact kn_Of_ok k hok (pcsMid_sz hk)
 · have h0:=know_Right k (pcsMid_sz hk) false (by simp [hok])
   have h1:=kn_edges [k] (by simp) (by simp;omega)
   have e1:[k].flatten = k:=by simp
   rw [e1] at h1
   have hlE:=edgK_len k
   have h2:=kn_build 178 [rptrP [pcsP k]] (atK k) (edgK k) (by omega) (fun s hs=>(kn_of1 k s hk (edgK_sz hs)).frz.toM) (fun s _=>atK_ok k s) (fun s _=>by
     have:=atK_sz hk s
     exact ⟨by omega,by omega⟩)
   rw [show bldK (atK k) (edgK k) = ofK k from rfl] at h2
   generalize ofK k = R at *
   generalize edgK k = E at *
   clear hlE e1 hok hk
   refine fi Tryz.func130 Tryz.ntmps130 ?_
   (have kc1:=h0;refine w0 ?_;(repeat' first|refine W2.mk ?_ ?_|refine W1.mk fun hc=>?_);all_goals clear kc1)
   refine AL_le (Le_fzB 1 _ 24 rfl rfl rfl) ?_
   (repeat' (first|refine AW_seq ?_|refine AW_block ?_|refine AW_skip ?_|refine AW_exit ?_|refine AW_ret ?_|refine AW_region ?_|refine AW_draw mixed0 ?_|refine AL_nil ?_|refine AD_nil (by kernel_rfl) ?_|(refine AW_cl rfl rfl ⟨fun hc=>?_,fun hc=>?_⟩ <;> (repeat rw [List.length_map] at hc) <;> (try exact absd hc))|((first|apply AL_t rfl|apply AL_0 rfl|apply AD_t rfl|apply AD_0 rfl);focus (first|((apply u_k 22;(focus rfl);exact op_mkP1 ⟨rfl,rfl,rfl⟩ rfl rfl))|(apply u_g;(focus rfl);apply op_gyes rfl rfl rfl rfl rfl;((apply u_k 22;(focus rfl);exact op_mkP1 ⟨rfl,rfl,rfl⟩ rfl rfl)))|exact z_auto|((refine c_O (h1) (hg:=?_);((repeat (first|exact GL.nil|(refine GL.cons ?_ ?_;focus (first|exact gl_per rfl|exact gl_lst rfl|exact gl_row rfl rfl rfl|exact gl_bor rfl|exact gl_nil rfl|exact gl_nil' rfl))));done)))|(apply u_g;(focus rfl);apply op_gyes rfl rfl rfl rfl rfl;((refine c_O (h1) (hg:=?_);((repeat (first|exact GL.nil|(refine GL.cons ?_ ?_;focus (first|exact gl_per rfl|exact gl_lst rfl|exact gl_row rfl rfl rfl|exact gl_bor rfl|exact gl_nil rfl|exact gl_nil' rfl))));done))))|((refine c_O (h2) (hg:=?_);((repeat (first|exact GL.nil|(refine GL.cons ?_ ?_;focus (first|exact gl_per rfl|exact gl_lst rfl|exact gl_row rfl rfl rfl|exact gl_bor rfl|exact gl_nil rfl|exact gl_nil' rfl))));done)))|(apply u_g;(focus rfl);apply op_gyes rfl rfl rfl rfl rfl;((refine c_O (h2) (hg:=?_);((repeat (first|exact GL.nil|(refine GL.cons ?_ ?_;focus (first|exact gl_per rfl|exact gl_lst rfl|exact gl_row rfl rfl rfl|exact gl_bor rfl|exact gl_nil rfl|exact gl_nil' rfl))));done))))|fail))|refine thenA_n ?_|refine thenA_r ?_|refine thenA_e ?_|refine inB_n ?_|refine inB_r ?_|refine inB_hit ?_|refine inB_miss rfl ?_|((first|refine AL_cl rfl rfl rfl ⟨fun hc=>?_,fun hc=>?_⟩|refine AD_cl rfl rfl rfl ⟨fun hc=>?_,fun hc=>?_⟩) <;> (fail_if_success (have q:(true = true):=hc)) <;> (fail_if_success (have q:(false = false):=hc)) <;> (repeat rw [List.length_map] at hc) <;> (try exact absd hc))|refine AW_cond_nil rfl rfl (fun hc=>?_) ?_))
   refine rt1 ?_
   exact rv_own rfl rfl rfl
/-- joined -/
theorem kn_Join (ls:List (List Pc)) (hl:ls.length ≤ 1000) (hk:pcsMid ls.flatten):Fn Tryz.prog 70 [.bor 1 (ls.map fun k=>[pcsP k])] (ownPc (ofK ls.flatten)):=by
 have h1:=kn_Of ls.flatten hk
 have hkl:=hk.1
 generalize ofK ls.flatten = R at *
 clear hk
 refine fi Tryz.func70 Tryz.ntmps70 ?_
 (refine w0 ?_;(repeat' first|refine W2.mk ?_ ?_|refine W1.mk fun hc=>?_))
 refine AW_le (Le_nil 3 700 110 4 rfl rfl) ?_
 refine AW_loopP (X:=Nat) (fun z=>z ≤ ls.length)
   (fun z=>mkSt [(3,.row 700 0),(6,.bor 1 (ls.map fun k=>[pcsP k])),(7,iC .i64 (ls.length:Nat)),(8,iC .i64 ((z:Nat):Int))] [(700,pcsW (ls.take z).flatten)]) (fun z=>ls.length - z) 0 (Nat.zero_le _) ?_ ?_
 · exact le_auto
 · intro z hz
   by_cases hlt:z < ls.length
   · have htk:(ls.take (z + 1)).flatten = (ls.take z).flatten ++ ls[z]:=by rw [List.take_succ_eq_append_getElem hlt,List.flatten_append];simp
     have hsub:(ls.take (z + 1)).flatten.length ≤ ls.flatten.length:=by
       have:ls.flatten = (ls.take (z + 1)).flatten ++ (ls.drop (z + 1)).flatten:=by rw [← List.flatten_append,List.take_append_drop]
       rw [this,List.length_append];omega
     rw [htk,List.length_append] at hsub
     generalize (ls.take z).flatten = A at *
     clear h1
     (refine w0 ?_;(repeat' first|refine W2.mk ?_ ?_|refine W1.mk fun hc=>?_))
     refine ⟨z + 1,hlt,by omega,Le_trans (Le_mv 700 701) (Le_trans (Le_mv 701 700) ?_)⟩
     rw [htk]
     exact le_auto
   · rw [List.take_of_length_le (show ls.length ≤ z by omega)]
     generalize ls.flatten = A at *
     (refine w0 ?_;(repeat' first|refine W2.mk ?_ ?_|refine W1.mk fun hc=>?_))
     refine AL_le (Le_fz 700 _ 110 4 rfl rfl) ?_
     (have kc1:=h1;refine w0 ?_;(repeat' first|refine W2.mk ?_ ?_|refine W1.mk fun hc=>?_);all_goals clear kc1)
     refine rt1 ?_
     exact rv_own rfl rfl rfl
end
section
variable {P:Program} {n:Nat} {ops:Array Oper} {o:Oper} {S:St} {t:Nat}
theorem take_cells {cs:List PV} {k:Nat} {N:BP} {w:World} {f:Nat → Option Value} (h:∀ (j:Nat) (A:PV),cs[j]? = some A → ∃ y,f j = some y ∧ y.oneCell' = true ∧ A.p N w y) :
   ∀ (j:Nat) (A:PV),(cs.take k)[j]? = some A → ∃ y,f j = some y ∧ y.oneCell' = true ∧ A.p N w y:=fun j A hj=>by
 rw [List.getElem?_take] at hj
 split at hj
 · exact h j A hj
 · cases hj
theorem u_load_bpT {ty:TypeId} {x:Operand} {cs As:List PV} {k:Nat} (hp:Pl n o t) (ho:o.op = .load ty x) (hT:AggC P ty true) (hk:Siz P ty k) (h0:Nat.blt 0 k = true) (hx:S.opd x = .bpt cs) (hl:Nat.ble k cs.length = true) (hc:cs.take k = As) :
   OpOk n P ops o (opdN x) (.per (aggP As)) [] S:=
 op_val hp fun C T g a w hAg hR=>by
   obtain ⟨d,hT,hd⟩:=hT.h
   have h:=opd_rep (x:=x) hAg (fun k h=>h) hR
   rw [hx] at h
   obtain ⟨b,of,hv,hb,hn,hcs⟩:=h
   obtain ⟨vs,g1,g2,g3⟩:=list_of_cells (cs.take k) (take_cells hcs)
   subst hc
   have hkl:=Nat.le_of_ble_eq_true hl
   have h0:=Nat.le_of_ble_eq_true h0
   have hlen:(cs.take k).length = k:=by rw [List.length_take];omega
   refine ⟨.agg vs.toArray,?_,⟨vs.toArray,rfl,g3⟩⟩
   simp only [execOp,ho,hv,Sem.run_bind,loadAt_agg hT hd (by rw [hk.h,g1,hlen]) (by omega) g2];rfl
theorem u_load_rpT {ty:TypeId} {x:Operand} {cs As:List PV} {k:Nat} (hp:Pl n o t) (ho:o.op = .load ty x) (hT:AggC P ty true) (hk:Siz P ty k) (h0:Nat.blt 0 k = true) (hx:S.opd x = .per (rptrP cs)) (hl:Nat.ble k cs.length = true) (hc:cs.take k = As) :
   OpOk n P ops o (opdN x) (.per (aggP As)) [] S:=
 op_val hp fun C T g a w hAg hR=>by
   obtain ⟨d,hT,hd⟩:=hT.h
   have h:=opd_rep (x:=x) hAg (fun k h=>h) hR
   rw [hx] at h
   obtain ⟨b,of,hv,hb,hn,hcs⟩:=h
   obtain ⟨vs,g1,g2,g3⟩:=list_of_cells (cs.take k) (take_cells hcs)
   subst hc
   have hkl:=Nat.le_of_ble_eq_true hl
   have h0:=Nat.le_of_ble_eq_true h0
   have hlen:(cs.take k).length = k:=by rw [List.length_take];omega
   refine ⟨.agg vs.toArray,?_,⟨vs.toArray,rfl,g3⟩⟩
   simp only [execOp,ho,hv,Sem.run_bind,loadAt_agg hT hd (by rw [hk.h,g1,hlen]) (by omega) g2];rfl
end
section
theorem rknow_Right (k:List Pc) (hk:pcsSz k) (b:Bool) (hb:b = true ↔ pcsOk k):Fn Tryz.prog 39 [pcsB k] (boR b):=by
 have hl0:=hk.1
 refine fi Tryz.func39 Tryz.ntmps39 ?_
 (refine w0 ?_;(repeat' first|refine W2.mk ?_ ?_|refine W1.mk fun hc=>?_))
 refine AW_loopP (X:=Nat) (fun z=>z ≤ k.length ∧ ∀ i,i < z → pcOk k i)
   (fun z=>mkSt [(0,pcsB k),(3,iC .i64 (z:Nat))] []) (fun z=>k.length - z) 0 ⟨Nat.zero_le _,fun i h=>absurd h (Nat.not_lt_zero _)⟩ ?_ ?_
 · exact le_auto
 · rintro z ⟨h1,h2⟩
   by_cases hz:z < k.length
   · have c1:=rspan_Right k[z].rg
     have c2:=rvs_Right k[z].set (hk.at hz).sz (decide (knsOk k[z].set)) (by simp)
     have hE:k[z].set ≠ [] ↔ ¬ k[z].set.length = 0:=by simp
     have hno:¬ pcOk k z → b = false:=fun h=>by rw [← Bool.not_eq_true,hb];exact fun q=>h (q z hz)
     by_cases q1:rgR k[z].rg = true
     · rw [q1] at c1
       by_cases q2:k[z].set.length = 0
       · have hb0:=hno (fun h=>absurd q2 (hE.1 (h hz).2.1))
         subst hb0
         clear hb hno h2 hE q1
         (have kc1:=c1;have kc2:=c2;refine w0 ?_;(repeat' (first|refine W2.mk ?_ ?_|refine W1.mk fun hc=>?_|((first|apply AL_t rfl|apply AL_0 rfl|apply AD_t rfl|apply AD_0 rfl);(focus (first|((apply u_k 5;(focus rfl);first|exact u_load_bpT ⟨rfl,rfl,rfl⟩ rfl inferInstance inferInstance rfl rfl rfl rfl|exact u_load_rpT ⟨rfl,rfl,rfl⟩ rfl inferInstance inferInstance rfl rfl rfl rfl))|(apply u_g;(focus rfl);apply op_gyes rfl rfl rfl rfl rfl;first|((apply u_k 5;(focus rfl);first|exact u_load_bpT ⟨rfl,rfl,rfl⟩ rfl inferInstance inferInstance rfl rfl rfl rfl|exact u_load_rpT ⟨rfl,rfl,rfl⟩ rfl inferInstance inferInstance rfl rfl rfl rfl)))));refine w0 ?_)));all_goals clear kc2 kc1)
         refine rt1 ?_
         exact rv_bool rfl rfl
       · by_cases q3:knsOk k[z].set
         · rw [decide_eq_true q3] at c2
           by_cases h0:0 < z
           · obtain ⟨q,rfl⟩:∃ q,z = q + 1:=⟨z - 1,by omega⟩
             have hqE:((q + 1:Nat):Int) - 1 = (q:Nat):=by omega
             have hq:=(h2 q (by omega)) (by omega)
             have hrq:=(rgR_iff _).1 q1
             have c3:=ref_Less k[q + 1].rg.lo k[q].rg.hi (by omega)
             have hsw:=cmpB_swap k[q].rg.hi k[q + 1].rg.lo
             have c5:=rvs_Same k[q].set k[q + 1].set (hk.at (by omega)).sz
             have hiff:pcOk k (q + 1) ↔ k[q].rg.op = false ∧ cmpB k[q].rg.hi k[q + 1].rg.lo ≤ 0 ∧ ¬ (k[q].rg.hi = k[q + 1].rg.lo ∧ k[q].set = k[q + 1].set):=
               ⟨fun h=>(h hz).2.2.2 (by omega),fun h _=>⟨q1,hE.2 q2,q3,fun _=>h⟩⟩
             clear hq hrq
             have hE2:((k[q + 1].set.length:Nat):Int) ≠ 0:=by omega
             cases o:k[q].rg.op with
             | true=>
               have hb0:=hno (fun h=>by have:=(hiff.1 h).1;rw [o] at this;cases this)
               subst hb0
               clear hb hno h2 hE q1 q3 hiff hsw
               (have ke1:=Lib.hid (hqE);have kc1:=c1;have kc2:=c2;have kc3:=c3;have kc4:=c5;refine w0e ?_;(repeat' (first|refine W2.mk ?_ ?_|refine W1.mk fun hc=>?_|((first|apply AL_t rfl|apply AL_0 rfl|apply AD_t rfl|apply AD_0 rfl);(focus (first|((apply u_k 5;(focus rfl);first|exact u_load_bpT ⟨rfl,rfl,rfl⟩ rfl inferInstance inferInstance rfl rfl rfl rfl|exact u_load_rpT ⟨rfl,rfl,rfl⟩ rfl inferInstance inferInstance rfl rfl rfl rfl))|(apply u_g;(focus rfl);apply op_gyes rfl rfl rfl rfl rfl;first|((apply u_k 5;(focus rfl);first|exact u_load_bpT ⟨rfl,rfl,rfl⟩ rfl inferInstance inferInstance rfl rfl rfl rfl|exact u_load_rpT ⟨rfl,rfl,rfl⟩ rfl inferInstance inferInstance rfl rfl rfl rfl)))));refine w0e ?_)));all_goals clear kc4 kc3 kc2 kc1 ke1)
               all_goals first|(exfalso;simp_all;done)|skip
               refine rt1 ?_
               exact rv_bool rfl rfl
             | false=>
               by_cases g:cmpB k[q].rg.hi k[q + 1].rg.lo ≤ 0
               · rw [decide_eq_false (by omega)] at c3
                 by_cases e:k[q].rg.hi = k[q + 1].rg.lo
                 · by_cases s:k[q].set = k[q + 1].set
                   · rw [decide_eq_true s] at c5
                     have hb0:=hno (fun h=>(hiff.1 h).2.2 ⟨e,s⟩)
                     subst hb0
                     clear hb hno h2 hE q1 q3 hiff s hsw
                     (have ke1:=Lib.hid (hqE);have kc1:=c1;have kc2:=c2;have kc3:=c3;have kc4:=c5;refine w0e ?_;(repeat' (first|refine W2.mk ?_ ?_|refine W1.mk fun hc=>?_|((first|apply AL_t rfl|apply AL_0 rfl|apply AD_t rfl|apply AD_0 rfl);(focus (first|((apply u_k 5;(focus rfl);first|exact u_load_bpT ⟨rfl,rfl,rfl⟩ rfl inferInstance inferInstance rfl rfl rfl rfl|exact u_load_rpT ⟨rfl,rfl,rfl⟩ rfl inferInstance inferInstance rfl rfl rfl rfl))|(apply u_g;(focus rfl);apply op_gyes rfl rfl rfl rfl rfl;first|((apply u_k 5;(focus rfl);first|exact u_load_bpT ⟨rfl,rfl,rfl⟩ rfl inferInstance inferInstance rfl rfl rfl rfl|exact u_load_rpT ⟨rfl,rfl,rfl⟩ rfl inferInstance inferInstance rfl rfl rfl rfl)))));refine w0e ?_)));all_goals clear kc4 kc3 kc2 kc1 ke1)
                     all_goals first|(exfalso;simp_all;done)|skip
                     refine rt1 ?_
                     exact rv_bool rfl rfl
                   · rw [decide_eq_false s] at c5
                     have hok:=hiff.2 ⟨o,g,fun h=>s h.2⟩
                     clear hb hno hE q1 q3 hiff s hsw
                     (have ke1:=Lib.hid (hqE);have kc1:=c1;have kc2:=c2;have kc3:=c3;have kc4:=c5;refine w0e ?_;(repeat' (first|refine W2.mk ?_ ?_|refine W1.mk fun hc=>?_|((first|apply AL_t rfl|apply AL_0 rfl|apply AD_t rfl|apply AD_0 rfl);(focus (first|((apply u_k 5;(focus rfl);first|exact u_load_bpT ⟨rfl,rfl,rfl⟩ rfl inferInstance inferInstance rfl rfl rfl rfl|exact u_load_rpT ⟨rfl,rfl,rfl⟩ rfl inferInstance inferInstance rfl rfl rfl rfl))|(apply u_g;(focus rfl);apply op_gyes rfl rfl rfl rfl rfl;first|((apply u_k 5;(focus rfl);first|exact u_load_bpT ⟨rfl,rfl,rfl⟩ rfl inferInstance inferInstance rfl rfl rfl rfl|exact u_load_rpT ⟨rfl,rfl,rfl⟩ rfl inferInstance inferInstance rfl rfl rfl rfl)))));refine w0e ?_)));all_goals clear kc4 kc3 kc2 kc1 ke1)
                     all_goals first|(exfalso;simp_all;done)|skip
                     refine ⟨q + 1 + 1,⟨by omega,up_step h2 hok⟩,by omega,?_⟩
                     exact le_auto
                 · have hok:=hiff.2 ⟨o,g,fun h=>e h.1⟩
                   rw [← toL_inj'] at e
                   clear hb hno hE q1 q3 hiff c5 hsw
                   (have ke1:=Lib.hid (hqE);have kc1:=c1;have kc2:=c2;have kc3:=c3;refine w0e ?_;(repeat' (first|refine W2.mk ?_ ?_|refine W1.mk fun hc=>?_|((first|apply AL_t rfl|apply AL_0 rfl|apply AD_t rfl|apply AD_0 rfl);(focus (first|((apply u_k 5;(focus rfl);first|exact u_load_bpT ⟨rfl,rfl,rfl⟩ rfl inferInstance inferInstance rfl rfl rfl rfl|exact u_load_rpT ⟨rfl,rfl,rfl⟩ rfl inferInstance inferInstance rfl rfl rfl rfl))|(apply u_g;(focus rfl);apply op_gyes rfl rfl rfl rfl rfl;first|((apply u_k 5;(focus rfl);first|exact u_load_bpT ⟨rfl,rfl,rfl⟩ rfl inferInstance inferInstance rfl rfl rfl rfl|exact u_load_rpT ⟨rfl,rfl,rfl⟩ rfl inferInstance inferInstance rfl rfl rfl rfl)))));refine w0e ?_)));all_goals clear kc3 kc2 kc1 ke1)
                   all_goals first|(exfalso;simp_all;done)|skip
                   refine ⟨q + 1 + 1,⟨by omega,up_step h2 hok⟩,by omega,?_⟩
                   exact le_auto
               · have hb0:=hno (fun h=>g (hiff.1 h).2.1)
                 rw [decide_eq_true (by omega)] at c3
                 subst hb0
                 clear hb hno h2 hE q1 q3 hiff hsw
                 (have ke1:=Lib.hid (hqE);have kc1:=c1;have kc2:=c2;have kc3:=c3;have kc4:=c5;refine w0e ?_;(repeat' (first|refine W2.mk ?_ ?_|refine W1.mk fun hc=>?_|((first|apply AL_t rfl|apply AL_0 rfl|apply AD_t rfl|apply AD_0 rfl);(focus (first|((apply u_k 5;(focus rfl);first|exact u_load_bpT ⟨rfl,rfl,rfl⟩ rfl inferInstance inferInstance rfl rfl rfl rfl|exact u_load_rpT ⟨rfl,rfl,rfl⟩ rfl inferInstance inferInstance rfl rfl rfl rfl))|(apply u_g;(focus rfl);apply op_gyes rfl rfl rfl rfl rfl;first|((apply u_k 5;(focus rfl);first|exact u_load_bpT ⟨rfl,rfl,rfl⟩ rfl inferInstance inferInstance rfl rfl rfl rfl|exact u_load_rpT ⟨rfl,rfl,rfl⟩ rfl inferInstance inferInstance rfl rfl rfl rfl)))));refine w0e ?_)));all_goals clear kc4 kc3 kc2 kc1 ke1)
                 all_goals first|(exfalso;simp_all;done)|skip
                 refine rt1 ?_
                 exact rv_bool rfl rfl
           · have hok:pcOk k z:=fun _=>⟨q1,hE.2 q2,q3,fun h=>absurd h h0⟩
             obtain rfl:z = 0:=by omega
             clear hb hno hE q1 q3
             (have kc1:=c1;have kc2:=c2;refine w0 ?_;(repeat' (first|refine W2.mk ?_ ?_|refine W1.mk fun hc=>?_|((first|apply AL_t rfl|apply AL_0 rfl|apply AD_t rfl|apply AD_0 rfl);(focus (first|((apply u_k 5;(focus rfl);first|exact u_load_bpT ⟨rfl,rfl,rfl⟩ rfl inferInstance inferInstance rfl rfl rfl rfl|exact u_load_rpT ⟨rfl,rfl,rfl⟩ rfl inferInstance inferInstance rfl rfl rfl rfl))|(apply u_g;(focus rfl);apply op_gyes rfl rfl rfl rfl rfl;first|((apply u_k 5;(focus rfl);first|exact u_load_bpT ⟨rfl,rfl,rfl⟩ rfl inferInstance inferInstance rfl rfl rfl rfl|exact u_load_rpT ⟨rfl,rfl,rfl⟩ rfl inferInstance inferInstance rfl rfl rfl rfl)))));refine w0 ?_)));all_goals clear kc2 kc1)
             refine ⟨0 + 1,⟨by omega,up_step h2 hok⟩,by omega,?_⟩
             exact le_auto
         · rw [decide_eq_false q3] at c2
           have hb0:=hno (fun h=>q3 (h hz).2.2.1)
           subst hb0
           clear hb hno h2 hE q1 q3
           (have kc1:=c1;have kc2:=c2;refine w0 ?_;(repeat' (first|refine W2.mk ?_ ?_|refine W1.mk fun hc=>?_|((first|apply AL_t rfl|apply AL_0 rfl|apply AD_t rfl|apply AD_0 rfl);(focus (first|((apply u_k 5;(focus rfl);first|exact u_load_bpT ⟨rfl,rfl,rfl⟩ rfl inferInstance inferInstance rfl rfl rfl rfl|exact u_load_rpT ⟨rfl,rfl,rfl⟩ rfl inferInstance inferInstance rfl rfl rfl rfl))|(apply u_g;(focus rfl);apply op_gyes rfl rfl rfl rfl rfl;first|((apply u_k 5;(focus rfl);first|exact u_load_bpT ⟨rfl,rfl,rfl⟩ rfl inferInstance inferInstance rfl rfl rfl rfl|exact u_load_rpT ⟨rfl,rfl,rfl⟩ rfl inferInstance inferInstance rfl rfl rfl rfl)))));refine w0 ?_)));all_goals clear kc2 kc1)
           refine rt1 ?_
           exact rv_bool rfl rfl
     · rw [Bool.not_eq_true] at q1
       rw [q1] at c1
       have hb0:=hno (fun h=>by have:=(h hz).1;rw [q1] at this;cases this)
       subst hb0
       clear hb hno h2 hE q1
       (have kc1:=c1;have kc2:=c2;refine w0 ?_;(repeat' (first|refine W2.mk ?_ ?_|refine W1.mk fun hc=>?_|((first|apply AL_t rfl|apply AL_0 rfl|apply AD_t rfl|apply AD_0 rfl);(focus (first|((apply u_k 5;(focus rfl);first|exact u_load_bpT ⟨rfl,rfl,rfl⟩ rfl inferInstance inferInstance rfl rfl rfl rfl|exact u_load_rpT ⟨rfl,rfl,rfl⟩ rfl inferInstance inferInstance rfl rfl rfl rfl))|(apply u_g;(focus rfl);apply op_gyes rfl rfl rfl rfl rfl;first|((apply u_k 5;(focus rfl);first|exact u_load_bpT ⟨rfl,rfl,rfl⟩ rfl inferInstance inferInstance rfl rfl rfl rfl|exact u_load_rpT ⟨rfl,rfl,rfl⟩ rfl inferInstance inferInstance rfl rfl rfl rfl)))));refine w0 ?_)));all_goals clear kc2 kc1)
       refine rt1 ?_
       exact rv_bool rfl rfl
   · have hb1:b = true:=hb.2 (fun i hi=>h2 i (by omega))
     subst hb1
     clear hb h2
     (refine w0 ?_;(repeat' first|refine W2.mk ?_ ?_|refine W1.mk fun hc=>?_))
     refine rt1 ?_
     exact rv_bool rfl rfl
theorem rknow_Same (l m:List Pc) (hl:pcsSz l):Fn Tryz.prog 23 [pcsB l,pcsB m] (boR (decide (l = m))):=by
 have hl0:=hl.1
 refine fi Tryz.func23 Tryz.ntmps23 ?_
 (refine w0 ?_;(repeat' first|refine W2.mk ?_ ?_|refine W1.mk fun hc=>?_))
 · refine rt1 ?_
   exact rv_bool rfl (by symm;rw [decide_eq_false_iff_not];intro h;subst h;omega)
 have hlm:l.length = m.length:=by omega
 refine AW_loopP (fun k=>k ≤ l.length ∧ l.take k = m.take k) (fun k=>mkSt [(0,pcsB l),(1,pcsB m),(4,bC false),(5,iC .i64 (k:Nat))] []) (fun k=>l.length - k) 0 ⟨Nat.zero_le _,rfl⟩ ?_ ?_
 · exact le_auto
 · rintro k ⟨hk,hpre⟩
   by_cases hlt:k < l.length
   · have hltm:k < m.length:=by omega
     have c1:=rvs_Same l[k].set m[k].set (hl.at hlt).sz
     have hEo:=rgE_o l[k].rg m[k].rg
     by_cases h1:l[k].rg = m[k].rg
     · rw [(rgE_iff _ _).2 h1] at hEo
       by_cases h2:l[k].set = m[k].set
       · rw [decide_eq_true h2] at c1
         have hlm1:l[k] = m[k]:=by
           cases hx:l[k];cases hy:m[k]
           rw [hx,hy] at h1 h2
           simp only at h1 h2
           rw [h1,h2]
         clear h2 h1
         (have kc1:=c1;refine w0 ?_;(repeat' (first|refine W2.mk ?_ ?_|refine W1.mk fun hc=>?_|((first|apply AL_t rfl|apply AL_0 rfl|apply AD_t rfl|apply AD_0 rfl);(focus (first|(exact op_eqA (us:=encRg l[k].rg) (vs:=encRg m[k].rg) ⟨rfl,rfl,rfl⟩ rfl rfl rfl (by first|exact .inl ⟨rfl,rfl⟩|exact .inr ⟨rfl,rfl⟩) rgG rfl hEo)|((apply u_k 5;(focus rfl);first|exact u_load_bpT ⟨rfl,rfl,rfl⟩ rfl inferInstance inferInstance rfl rfl rfl rfl|exact u_load_rpT ⟨rfl,rfl,rfl⟩ rfl inferInstance inferInstance rfl rfl rfl rfl))|(apply u_g;(focus rfl);apply op_gyes rfl rfl rfl rfl rfl;first|(exact op_eqA (us:=encRg l[k].rg) (vs:=encRg m[k].rg) ⟨rfl,rfl,rfl⟩ rfl rfl rfl (by first|exact .inl ⟨rfl,rfl⟩|exact .inr ⟨rfl,rfl⟩) rgG rfl hEo)|((apply u_k 5;(focus rfl);first|exact u_load_bpT ⟨rfl,rfl,rfl⟩ rfl inferInstance inferInstance rfl rfl rfl rfl|exact u_load_rpT ⟨rfl,rfl,rfl⟩ rfl inferInstance inferInstance rfl rfl rfl rfl)))));refine w0 ?_)));all_goals clear kc1)
         refine ⟨k + 1,⟨by omega,?_⟩,by omega,?_⟩
         · rw [take_snoc' l k hlt,take_snoc' m k hltm,hpre,hlm1]
         · exact le_auto
       · rw [decide_eq_false h2] at c1
         have hd:¬ l = m:=fun h=>h2 (by subst h;rfl)
         rw [decide_eq_false hd]
         clear h1 h2 hd
         (have kc1:=c1;refine w0 ?_;(repeat' (first|refine W2.mk ?_ ?_|refine W1.mk fun hc=>?_|((first|apply AL_t rfl|apply AL_0 rfl|apply AD_t rfl|apply AD_0 rfl);(focus (first|(exact op_eqA (us:=encRg l[k].rg) (vs:=encRg m[k].rg) ⟨rfl,rfl,rfl⟩ rfl rfl rfl (by first|exact .inl ⟨rfl,rfl⟩|exact .inr ⟨rfl,rfl⟩) rgG rfl hEo)|((apply u_k 5;(focus rfl);first|exact u_load_bpT ⟨rfl,rfl,rfl⟩ rfl inferInstance inferInstance rfl rfl rfl rfl|exact u_load_rpT ⟨rfl,rfl,rfl⟩ rfl inferInstance inferInstance rfl rfl rfl rfl))|(apply u_g;(focus rfl);apply op_gyes rfl rfl rfl rfl rfl;first|(exact op_eqA (us:=encRg l[k].rg) (vs:=encRg m[k].rg) ⟨rfl,rfl,rfl⟩ rfl rfl rfl (by first|exact .inl ⟨rfl,rfl⟩|exact .inr ⟨rfl,rfl⟩) rgG rfl hEo)|((apply u_k 5;(focus rfl);first|exact u_load_bpT ⟨rfl,rfl,rfl⟩ rfl inferInstance inferInstance rfl rfl rfl rfl|exact u_load_rpT ⟨rfl,rfl,rfl⟩ rfl inferInstance inferInstance rfl rfl rfl rfl)))));refine w0 ?_)));all_goals clear kc1)
         refine rt1 ?_
         exact rv_bool rfl rfl
     · have hd:¬ l = m:=fun h=>h1 (by subst h;rfl)
       rw [decide_eq_false hd]
       have he:rgE l[k].rg m[k].rg = false:=by rw [← Bool.not_eq_true,rgE_iff];exact h1
       rw [he] at hEo
       clear hd h1 he
       (have kc1:=c1;refine w0 ?_;(repeat' (first|refine W2.mk ?_ ?_|refine W1.mk fun hc=>?_|((first|apply AL_t rfl|apply AL_0 rfl|apply AD_t rfl|apply AD_0 rfl);(focus (first|(exact op_eqA (us:=encRg l[k].rg) (vs:=encRg m[k].rg) ⟨rfl,rfl,rfl⟩ rfl rfl rfl (by first|exact .inl ⟨rfl,rfl⟩|exact .inr ⟨rfl,rfl⟩) rgG rfl hEo)|((apply u_k 5;(focus rfl);first|exact u_load_bpT ⟨rfl,rfl,rfl⟩ rfl inferInstance inferInstance rfl rfl rfl rfl|exact u_load_rpT ⟨rfl,rfl,rfl⟩ rfl inferInstance inferInstance rfl rfl rfl rfl))|(apply u_g;(focus rfl);apply op_gyes rfl rfl rfl rfl rfl;first|(exact op_eqA (us:=encRg l[k].rg) (vs:=encRg m[k].rg) ⟨rfl,rfl,rfl⟩ rfl rfl rfl (by first|exact .inl ⟨rfl,rfl⟩|exact .inr ⟨rfl,rfl⟩) rgG rfl hEo)|((apply u_k 5;(focus rfl);first|exact u_load_bpT ⟨rfl,rfl,rfl⟩ rfl inferInstance inferInstance rfl rfl rfl rfl|exact u_load_rpT ⟨rfl,rfl,rfl⟩ rfl inferInstance inferInstance rfl rfl rfl rfl)))));refine w0 ?_)));all_goals clear kc1)
       refine rt1 ?_
       exact rv_bool rfl rfl
   · rw [List.take_of_length_le (by omega),List.take_of_length_le (by omega)] at hpre
     rw [decide_eq_true hpre]
     clear hpre
     (refine w0 ?_;(repeat' first|refine W2.mk ?_ ?_|refine W1.mk fun hc=>?_))
     refine rt1 ?_
     exact rv_bool rfl rfl
def pcLg (p:Pc):Bool:=decide (p.rg.lo.size > 40) || decide (p.rg.hi.size > 40) || longKns p.set 16
def longPcs (l:List Pc) (most:Int):Bool:=decide ((l.length:Int) > most) || l.any pcLg
theorem rknow_Long (l:List Pc) (most:Int) (hl:most ≤ 1000000000000):Fn Tryz.prog 36 [pcsB l,iC .i64 most] (boR (longPcs l most)):=by
 refine fi Tryz.func36 Tryz.ntmps36 ?_
 (refine w0 ?_;(repeat' first|refine W2.mk ?_ ?_|refine W1.mk fun hc=>?_))
 · refine rt1 ?_
   exact rv_bool rfl (by unfold longPcs;rw [decide_eq_true hc];rfl)
 refine AW_loopP (fun k=>k ≤ l.length ∧ (l.take k).any pcLg = false) (fun k=>mkSt [(0,pcsB l),(1,iC .i64 most),(4,bC false),(5,iC .i64 (k:Nat))] []) (fun k=>l.length - k) 0 ⟨Nat.zero_le _,by simp⟩ ?_ ?_
 · exact le_auto
 · rintro k ⟨hk,hpre⟩
   by_cases hlt:k < l.length
   · have hsn:(l.take (k + 1)).any pcLg = ((l.take k).any pcLg || pcLg l[k]):=by rw [take_snoc' l k hlt,List.any_append];simp
     have hyes:pcLg l[k] = true → longPcs l most = true:=fun hq=>by unfold longPcs;rw [Bool.or_eq_true,List.any_eq_true];exact .inr ⟨l[k],List.getElem_mem hlt,hq⟩
     have c1:=rvs_Long l[k].set 16 (by decide)
     by_cases q1:l[k].rg.lo.size > 40
     · have hd:=hyes (by simp [pcLg,q1])
       rw [hd]
       clear hd hsn hpre hyes
       (have kc1:=c1;refine w0 ?_;(repeat' first|refine W2.mk ?_ ?_|refine W1.mk fun hc=>?_);all_goals clear kc1)
       refine rt1 ?_
       exact rv_bool rfl rfl
     · by_cases q2:l[k].rg.hi.size > 40
       · have hd:=hyes (by simp [pcLg,q2])
         rw [hd]
         clear hd hsn hpre hyes
         (have kc1:=c1;refine w0 ?_;(repeat' first|refine W2.mk ?_ ?_|refine W1.mk fun hc=>?_);all_goals clear kc1)
         refine rt1 ?_
         exact rv_bool rfl rfl
       · cases q3:longKns l[k].set 16 with
         | true=>
           have hd:=hyes (by simp [pcLg,q3])
           rw [hd]
           rw [q3] at c1
           clear hd hsn hpre hyes
           (have kc1:=c1;refine w0 ?_;(repeat' first|refine W2.mk ?_ ?_|refine W1.mk fun hc=>?_);all_goals clear kc1)
           refine rt1 ?_
           exact rv_bool rfl rfl
         | false=>
           have hf:pcLg l[k] = false:=by simp [pcLg,q1,q2,q3]
           rw [hpre,hf] at hsn
           rw [q3] at c1
           clear hpre hyes hf
           (have kc1:=c1;refine w0 ?_;(repeat' first|refine W2.mk ?_ ?_|refine W1.mk fun hc=>?_);all_goals clear kc1)
           refine ⟨k + 1,⟨by omega,hsn⟩,by omega,?_⟩
           exact le_auto
   · have e:l.take k = l:=List.take_of_length_le (by omega)
     rw [e] at hpre
     have hd:longPcs l most = false:=by unfold longPcs;rw [hpre,Bool.or_false,decide_eq_false_iff_not];assumption
     rw [hd]
     clear hd hpre e
     (refine w0 ?_;(repeat' first|refine W2.mk ?_ ?_|refine W1.mk fun hc=>?_))
     refine rt1 ?_
     exact rv_bool rfl rfl
theorem longPcs_sz {l:List Pc} {most:Int} (h:longPcs l most = false):(l.length:Int) ≤ most ∧ ∀ p ∈ l,p.rg.lo.size ≤ 40 ∧ p.rg.hi.size ≤ 40 ∧ longKns p.set 16 = false:=by
 unfold longPcs at h
 rw [Bool.or_eq_false_iff,decide_eq_false_iff_not] at h
 refine ⟨by omega,fun p hp=>?_⟩
 have:=List.any_eq_false.1 h.2 p hp
 simp [pcLg] at this
 exact ⟨by omega,by omega,this.2⟩
end
end Go.Proofs.YtembiemaiacdfaaGreat
