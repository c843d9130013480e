/- Texts joined: WkB StR Rkp Rkq. -/
import Derived.Test.YtembiemaiacdfaaGreatJ26
import Derived.Test.YtembiemaiacdfaaGreatJ05
import Derived.Test.YtembiemaiacdfaaGreatJ20
import Derived.Test.YtembiemaiacdfaaGreatJ23
import Derived.Test.YtembiemaiacdfaaGreatJ25
set_option maxRecDepth 10000
set_option maxHeartbeats 8000000
namespace Go.Proofs.YtembiemaiacdfaaGreat
open Go.RowKit
/-- a row whose cells say less -/
theorem Le_rowW {n:Nat} {S:St} (id vr e k:Nat) (es es':List (List PV)) (hv:S.ver id = vr) (hb:S.blk id = .row e k es) (hl:es.length = es'.length) (h:∀ (i:Nat) (ps':List PV),es'[i]? = some ps' → ∃ ps,es[i]? = some ps ∧ PW ps ps'):Le n S (S.putB [(id,vr,.row e k es')]):=by
 rintro C a w ⟨g,hR⟩
 have hB:=hR.blks id
 rw [hb] at hB
 refine ⟨g,R_blk hR hv ?_⟩
 rcases hB with ⟨q1,q2⟩|⟨cap,cs,q1,q2,q3,q4,q5,q6,q7⟩
 · refine .inl ⟨q1,?_⟩
   rw [q2] at hl
   exact List.eq_nil_of_length_eq_zero hl.symm
 · refine .inr ⟨cap,cs,by rw [← hl];exact q1,q2,q3,by omega,q5,q6,fun i ps' hi=>?_⟩
   obtain ⟨ps,r1,r2⟩:=h i ps' hi
   obtain ⟨t1,t2⟩:=q7 i ps r1
   refine ⟨by rw [← t1,r2.len],fun j B hj=>?_⟩
   obtain ⟨A,u1,u2⟩:=r2.get j B hj
   obtain ⟨y,z1,z2,z3⟩:=t2 j A u1
   exact ⟨y,z1,z2,u2 _ _ _ z3⟩
def cutsP (f:List Rg):List Pc:=f.map fun r=>⟨r,[]⟩
theorem cuts_edg (k:List Pc) (f:List Rg):edgK (k ++ cutsP f) = resE k f:=by
 have e:cutsP f = f.map fun r=>(⟨r,[]⟩:Pc):=rfl
 unfold edgK resE rgsOf
 rw [List.map_append,e,List.map_map]
 congr 2
 have:(Pc.rg ∘ fun r=>(⟨r,[]⟩:Pc)) = id:=rfl
 rw [this,List.map_id]
theorem resE_len (k:List Pc) (f:List Rg):(resE k f).length ≤ 1 + 2 * (k.length + f.length):=by
 have:=edgT_len (rgsOf k ++ f) [emB]
 unfold resE
 unfold rgsOf at *
 simp only [List.length_cons,List.length_nil,List.length_append,List.length_map,Nat.zero_add] at this
 exact this
theorem resE_sz {k:List Pc} {f:List Rg} {m:ByteArray} (h:m ∈ resE k f):m.size ≤ 1000000000:=by
 have:=resE_ok k f m h;omega
theorem resF_tot {k:List Pc} (hk:pcsMid k) (f:List Rg) (s:ByteArray):knsTot (resF k f s):=by
 unfold resF
 split
 · have:=atK_sz hk s
   exact ⟨by omega,by omega⟩
 · exact ⟨by simp,by simp⟩
abbrev rgRw (r:Rg):List PV:=[rawP (.string r.lo),rawP (.string r.hi),rawP (.bool r.op),rawP (.slice none 0 0)]
section
theorem kn_res1 (k:List Pc) (f:List Rg) (s:ByteArray) (hk:pcsMid k) (hf:rgsOk f) (hfl:f.length ≤ 1000000) (hs:s.size ≤ 1000000000) :
   Fn Tryz.prog 94 [sC s,.per (rptrP [rgsP f]),.per (rptrP [pcsP k])] (ownKn (resF k f s)):=by
 have h1:=rgs_HasR f s hf (by omega) hs
 have h2:=kn_At k s hk hs
 unfold resF
 cases hh:anyR f s with
 | false=>
   rw [hh] at h1
   simp only [Bool.false_eq_true,if_false]
   refine fi Tryz.func94 Tryz.ntmps94 ?_
   (have kc1:=h1;refine w0 ?_;(repeat' first|refine W2.mk ?_ ?_|refine W1.mk fun hc=>?_);all_goals clear kc1)
   refine rt1 ?_
   exact rv_nil rfl
 | true=>
   rw [hh] at h1
   simp only [if_true]
   generalize atK k s = A at *
   refine fi Tryz.func94 Tryz.ntmps94 ?_
   (have kc1:=h1;have kc2:=h2;refine w0 ?_;(repeat' first|refine W2.mk ?_ ?_|refine W1.mk fun hc=>?_);all_goals clear kc2 kc1)
   refine rt1 ?_
   exact rv_own rfl rfl rfl
theorem kn_Restrict (k:List Pc) (f:List Rg) (hk:pcsMid k) (hf:rgsOk f) (hfl:f.length ≤ 100000) (hkl:k.length ≤ 500000) (hof:Fn Tryz.prog 91 [rgsB f] (ownRg f)) :
   Fn Tryz.prog 50 [pcsC k,.per (rgsP f)] (ownPc (restK k f)):=by
 have h0:=hof.frz
 have h1:=kn_edges [k,cutsP f] (by simp) (by simp [cutsP];omega)
 have e1:[k,cutsP f].flatten = k ++ cutsP f:=by simp
 rw [e1,cuts_edg] at h1
 have hlE:=resE_len k f
 have h2:=kn_build 94 [rptrP [rgsP f],rptrP [pcsP k]] (resF k f) (resE k f) (by omega) (fun s hs=>(kn_res1 k f s hk hf (by omega) (resE_sz hs)).frz.toM) (fun s _=>resF_ok k f s) (fun s _=>resF_tot hk f s)
 rw [show bldK (resF k f) (resE k f) = restK k f from rfl] at h2
 generalize restK k f = R at *
 generalize resE k f = E at *
 clear hlE e1 hk
 refine fi Tryz.func50 Tryz.ntmps50 ?_
 (have kc1:=h0;refine w0 ?_;(repeat' first|refine W2.mk ?_ ?_|refine W1.mk fun hc=>?_);all_goals clear kc1)
 refine AW_le (Le_nil 6 700 110 4 rfl rfl) ?_
 refine AW_loopP (X:=Nat) (fun i=>i ≤ f.length) (fun i=>mkSt [(2,.ptr 2 0 0),(5,.ptr 5 0 0),(6,.row 700 0),(11,.per (rgsP f)),(12,iC .i64 (f.length:Nat)),(13,iC .i64 (i:Nat))] [(2,.box 24 [pcsC k]),(5,.box 22 [.per (rgsP f)]),(700,.row 110 4 ((f.take i).map rgRw))]) (fun i=>f.length - i) 0 (Nat.zero_le _) ?_ ?_
 · exact le_auto
 · intro i hi
   by_cases hlt:i < f.length
   · have hsn:f.take (i + 1) = f.take i ++ [f[i]]:=by rw [List.take_succ_eq_append_getElem hlt]
     have hlk:(f.take i).length ≤ i:=by rw [List.length_take];omega
     generalize f.take i = A at *
     clear h0 h1 h2
     (refine w0 ?_;(repeat' first|refine W2.mk ?_ ?_|refine W1.mk fun hc=>?_))
     refine ⟨i + 1,hlt,by omega,Le_trans (Le_mv 700 701) (Le_trans (Le_mv 701 700) ?_)⟩
     rw [hsn]
     exact le_auto
   · rw [List.take_of_length_le (show f.length ≤ i by omega)]
     clear h0
     refine AW_le (Le_rowW 700 _ 110 4 _ ((cutsP f).map pcP) rfl rfl (by simp [cutsP]) (fun j ps' hj=>?_)) ?_
     · unfold cutsP at hj
       rw [List.map_map,List.getElem?_map] at hj
       cases hq:f[j]? with
       | none=>rw [hq] at hj;cases hj
       | some r=>
         rw [hq] at hj;cases hj
         refine ⟨rgRw r,by rw [List.getElem?_map,hq];rfl,?_⟩
         (repeat (first|exact PW.nil|(refine PW.cons (by first|exact Imp.refl|exact nil_imp) ?_)))
     refine AW_le (Le_fz 700 _ 110 4 rfl rfl) (AW_le (Le_fzB 2 _ 24 rfl rfl rfl) (AW_le (Le_fzB 5 _ 22 rfl rfl rfl) ?_))
     (repeat' (first|refine AW_seq ?_|refine AW_block ?_|refine AW_skip ?_|refine AW_exit ?_|refine AW_ret ?_|refine AW_region ?_|refine AW_draw mixed0 ?_|refine AL_nil ?_|refine AD_nil (by kernel_rfl) ?_|(refine AW_cl rfl rfl ⟨fun hc=>?_,fun hc=>?_⟩ <;> (repeat rw [List.length_map] at hc) <;> (try exact absd hc))|((first|apply AL_t rfl|apply AL_0 rfl|apply AD_t rfl|apply AD_0 rfl);focus (first|((apply u_k 22;(focus rfl);exact op_mkP2 ⟨rfl,rfl,rfl⟩ rfl rfl rfl))|(apply u_g;(focus rfl);apply op_gyes rfl rfl rfl rfl rfl;((apply u_k 22;(focus rfl);exact op_mkP2 ⟨rfl,rfl,rfl⟩ rfl rfl rfl)))|exact z_auto|((refine c_O (h1) (hg:=?_);((repeat (first|exact GL.nil|(refine GL.cons ?_ ?_;focus (first|exact gl_per rfl|exact gl_lst rfl|exact gl_row rfl rfl rfl|exact gl_bor rfl|exact gl_nil rfl|exact gl_nil' rfl))));done)))|(apply u_g;(focus rfl);apply op_gyes rfl rfl rfl rfl rfl;((refine c_O (h1) (hg:=?_);((repeat (first|exact GL.nil|(refine GL.cons ?_ ?_;focus (first|exact gl_per rfl|exact gl_lst rfl|exact gl_row rfl rfl rfl|exact gl_bor rfl|exact gl_nil rfl|exact gl_nil' rfl))));done))))|((refine c_O (h2) (hg:=?_);((repeat (first|exact GL.nil|(refine GL.cons ?_ ?_;focus (first|exact gl_per rfl|exact gl_lst rfl|exact gl_row rfl rfl rfl|exact gl_bor rfl|exact gl_nil rfl|exact gl_nil' rfl))));done)))|(apply u_g;(focus rfl);apply op_gyes rfl rfl rfl rfl rfl;((refine c_O (h2) (hg:=?_);((repeat (first|exact GL.nil|(refine GL.cons ?_ ?_;focus (first|exact gl_per rfl|exact gl_lst rfl|exact gl_row rfl rfl rfl|exact gl_bor rfl|exact gl_nil rfl|exact gl_nil' rfl))));done))))|fail))|refine thenA_n ?_|refine thenA_r ?_|refine thenA_e ?_|refine inB_n ?_|refine inB_r ?_|refine inB_hit ?_|refine inB_miss rfl ?_|((first|refine AL_cl rfl rfl rfl ⟨fun hc=>?_,fun hc=>?_⟩|refine AD_cl rfl rfl rfl ⟨fun hc=>?_,fun hc=>?_⟩) <;> (fail_if_success (have q:(true = true):=hc)) <;> (fail_if_success (have q:(false = false):=hc)) <;> (repeat rw [List.length_map] at hc) <;> (try exact absd hc))|refine AW_cond_nil rfl rfl (fun hc=>?_) ?_))
     refine rt1 ?_
     exact rv_own rfl rfl rfl
theorem kn_Same1 (p q:Pc) (hp:knsOk p.set) (hq:knsOk q.set) (tp:knsTot p.set) (tq:knsTot q.set):FnM Tryz.prog 164 [pcC p,pcC q] [] (bC (decide (p = q))) []:=by
 have h1:=vs_Same p.set q.set p.set q.set (vs_Of_ok p.set tp hp) (vs_Of_ok q.set tq hq) tp.sz
 have hEo:=rgE_o p.rg q.rg
 have hE:p = q ↔ p.rg = q.rg ∧ p.set = q.set:=by cases p;cases q;simp
 clear hp hq tp tq
 by_cases e1:p.rg = q.rg
 · rw [(rgE_iff _ _).2 e1] at hEo
   by_cases e2:p.set = q.set
   · rw [decide_eq_true (hE.2 ⟨e1,e2⟩)]
     rw [decide_eq_true e2] at h1
     clear hE e2 e1
     refine fmi Tryz.func164 Tryz.ntmps164 ?_
     (have kc1:=h1;refine w0 ?_;(repeat' (first|refine W2.mk ?_ ?_|refine W1.mk fun hc=>?_|((first|apply AL_t rfl|apply AL_0 rfl|apply AD_t rfl|apply AD_0 rfl);(focus (first|(exact op_eqA (us:=encRg p.rg) (vs:=encRg q.rg) ⟨rfl,rfl,rfl⟩ rfl rfl rfl (by first|exact .inl ⟨rfl,rfl⟩|exact .inr ⟨rfl,rfl⟩) rgG rfl hEo)|((apply u_k 5;(focus rfl);first|exact u_load_bpT ⟨rfl,rfl,rfl⟩ rfl inferInstance inferInstance rfl rfl rfl rfl|exact u_load_rpT ⟨rfl,rfl,rfl⟩ rfl inferInstance inferInstance rfl rfl rfl rfl))|(apply u_g;(focus rfl);apply op_gyes rfl rfl rfl rfl rfl;first|(exact op_eqA (us:=encRg p.rg) (vs:=encRg q.rg) ⟨rfl,rfl,rfl⟩ rfl rfl rfl (by first|exact .inl ⟨rfl,rfl⟩|exact .inr ⟨rfl,rfl⟩) rgG rfl hEo)|((apply u_k 5;(focus rfl);first|exact u_load_bpT ⟨rfl,rfl,rfl⟩ rfl inferInstance inferInstance rfl rfl rfl rfl|exact u_load_rpT ⟨rfl,rfl,rfl⟩ rfl inferInstance inferInstance rfl rfl rfl rfl)))));refine w0 ?_)));all_goals clear kc1)
     (refine ⟨(by first|exact .inl rfl|exact .inr rfl),resM1 [] rfl rfl .nil ?_⟩)
     exact rvm_bool rfl (by first|rfl|(simp;done))
   · rw [decide_eq_false (fun h=>e2 (hE.1 h).2)]
     rw [decide_eq_false e2] at h1
     clear hE e2 e1
     refine fmi Tryz.func164 Tryz.ntmps164 ?_
     (have kc1:=h1;refine w0 ?_;(repeat' (first|refine W2.mk ?_ ?_|refine W1.mk fun hc=>?_|((first|apply AL_t rfl|apply AL_0 rfl|apply AD_t rfl|apply AD_0 rfl);(focus (first|(exact op_eqA (us:=encRg p.rg) (vs:=encRg q.rg) ⟨rfl,rfl,rfl⟩ rfl rfl rfl (by first|exact .inl ⟨rfl,rfl⟩|exact .inr ⟨rfl,rfl⟩) rgG rfl hEo)|((apply u_k 5;(focus rfl);first|exact u_load_bpT ⟨rfl,rfl,rfl⟩ rfl inferInstance inferInstance rfl rfl rfl rfl|exact u_load_rpT ⟨rfl,rfl,rfl⟩ rfl inferInstance inferInstance rfl rfl rfl rfl))|(apply u_g;(focus rfl);apply op_gyes rfl rfl rfl rfl rfl;first|(exact op_eqA (us:=encRg p.rg) (vs:=encRg q.rg) ⟨rfl,rfl,rfl⟩ rfl rfl rfl (by first|exact .inl ⟨rfl,rfl⟩|exact .inr ⟨rfl,rfl⟩) rgG rfl hEo)|((apply u_k 5;(focus rfl);first|exact u_load_bpT ⟨rfl,rfl,rfl⟩ rfl inferInstance inferInstance rfl rfl rfl rfl|exact u_load_rpT ⟨rfl,rfl,rfl⟩ rfl inferInstance inferInstance rfl rfl rfl rfl)))));refine w0 ?_)));all_goals clear kc1)
     (refine ⟨(by first|exact .inl rfl|exact .inr rfl),resM1 [] rfl rfl .nil ?_⟩)
     exact rvm_bool rfl (by first|rfl|(simp;done))
 · rw [decide_eq_false (fun h=>e1 (hE.1 h).1)]
   have he:rgE p.rg q.rg = false:=by rw [← Bool.not_eq_true,rgE_iff];exact e1
   rw [he] at hEo
   clear hE e1 he
   refine fmi Tryz.func164 Tryz.ntmps164 ?_
   (have kc1:=h1;refine w0 ?_;(repeat' (first|refine W2.mk ?_ ?_|refine W1.mk fun hc=>?_|((first|apply AL_t rfl|apply AL_0 rfl|apply AD_t rfl|apply AD_0 rfl);(focus (first|(exact op_eqA (us:=encRg p.rg) (vs:=encRg q.rg) ⟨rfl,rfl,rfl⟩ rfl rfl rfl (by first|exact .inl ⟨rfl,rfl⟩|exact .inr ⟨rfl,rfl⟩) rgG rfl hEo)|((apply u_k 5;(focus rfl);first|exact u_load_bpT ⟨rfl,rfl,rfl⟩ rfl inferInstance inferInstance rfl rfl rfl rfl|exact u_load_rpT ⟨rfl,rfl,rfl⟩ rfl inferInstance inferInstance rfl rfl rfl rfl))|(apply u_g;(focus rfl);apply op_gyes rfl rfl rfl rfl rfl;first|(exact op_eqA (us:=encRg p.rg) (vs:=encRg q.rg) ⟨rfl,rfl,rfl⟩ rfl rfl rfl (by first|exact .inl ⟨rfl,rfl⟩|exact .inr ⟨rfl,rfl⟩) rgG rfl hEo)|((apply u_k 5;(focus rfl);first|exact u_load_bpT ⟨rfl,rfl,rfl⟩ rfl inferInstance inferInstance rfl rfl rfl rfl|exact u_load_rpT ⟨rfl,rfl,rfl⟩ rfl inferInstance inferInstance rfl rfl rfl rfl)))));refine w0 ?_)));all_goals clear kc1)
   (refine ⟨(by first|exact .inl rfl|exact .inr rfl),resM1 [] rfl rfl .nil ?_⟩)
   exact rvm_bool rfl (by first|rfl|(simp;done))
abbrev ks1C:Cnt:=.per (rawP (.func (.func 164) #[] #[]))
theorem sl_EqualPc (l m:List Pc) (hl:pcsSz l) (hm:pcsSz m) (ol:∀ p ∈ l,knsOk p.set) (om:∀ p ∈ m,knsOk p.set):Fn Tryz.prog 163 [pcsB l,pcsB m,ks1C] (boR (decide (l = m))):=by
 have hl0:=hl.1
 refine fi Tryz.func163 Tryz.ntmps163 ?_
 (refine w0 ?_;(repeat' first|refine W2.mk ?_ ?_|refine W1.mk fun hc=>?_))
 · refine rt1 ?_
   exact rv_bool rfl (by symm;rw [decide_eq_false_iff_not];intro h;subst h;omega)
 have hlm:l.length = m.length:=by omega
 refine AW_loopP (fun k=>k ≤ l.length ∧ l.take k = m.take k) (fun k=>mkSt [(1,pcsB m),(2,ks1C),(15,pcsB l),(16,iC .i64 (l.length:Nat)),(17,iC .i64 (k:Nat))] []) (fun k=>l.length - k) 0 ⟨Nat.zero_le _,rfl⟩ ?_ ?_
 · exact le_auto
 · rintro k ⟨hk,hpre⟩
   by_cases hlt:k < l.length
   · have hltm:k < m.length:=by omega
     have c1:=kn_Same1 l[k] m[k] (ol _ (List.getElem_mem hlt)) (om _ (List.getElem_mem hltm)) (hl.at hlt) (hm.at hltm)
     clear ol om hl hm
     by_cases he:l[k] = m[k]
     · rw [decide_eq_true he] at c1
       (refine w0 ?_;(repeat' (first|refine W2.mk ?_ ?_|refine W1.mk fun hc=>?_|((first|apply AL_t rfl|apply AL_0 rfl|apply AD_t rfl|apply AD_0 rfl);(focus (first|(exact c_Vx [] c1)|(apply u_g;(focus rfl);apply op_gyes rfl rfl rfl rfl rfl;first|(exact c_Vx [] c1))));refine w0 ?_))))
       refine ⟨k + 1,⟨by omega,?_⟩,by omega,?_⟩
       · rw [take_snoc' l k hlt,take_snoc' m k hltm,hpre,he]
       · exact le_auto
     · rw [decide_eq_false he] at c1
       have hd:¬ l = m:=fun h=>he (by subst h;rfl)
       rw [decide_eq_false hd]
       clear hd he
       (refine w0 ?_;(repeat' (first|refine W2.mk ?_ ?_|refine W1.mk fun hc=>?_|((first|apply AL_t rfl|apply AL_0 rfl|apply AD_t rfl|apply AD_0 rfl);(focus (first|(exact c_Vx [] c1)|(apply u_g;(focus rfl);apply op_gyes rfl rfl rfl rfl rfl;first|(exact c_Vx [] c1))));refine w0 ?_))))
       refine rt1 ?_
       exact rv_bool rfl rfl
   · rw [List.take_of_length_le (by omega),List.take_of_length_le (by omega)] at hpre
     rw [decide_eq_true hpre]
     clear hpre ol om hl hm
     (refine w0 ?_;(repeat' first|refine W2.mk ?_ ?_|refine W1.mk fun hc=>?_))
     refine rt1 ?_
     exact rv_bool rfl rfl
theorem pcsOk_sets {k:List Pc} (h:pcsOk k):∀ p ∈ k,knsOk p.set:=fun p hp=>by
 obtain ⟨i,hi,rfl⟩:=List.getElem_of_mem hp
 exact (h i hi hi).2.2.1
/-- two right ones held against each other -/
theorem kn_SameR (a b:List Pc) (ha:pcsSz a) (hb:pcsSz b) (oa:pcsOk a) (ob:pcsOk b):Fn Tryz.prog 118 [pcsC a,pcsC b] (boR (decide (a = b))):=by
 have h1:=kn_Of_ok a oa ha
 have h2:=kn_Of_ok b ob hb
 have h3:=sl_EqualPc a b ha hb (pcsOk_sets oa) (pcsOk_sets ob)
 clear ha hb oa ob
 refine fi Tryz.func118 Tryz.ntmps118 ?_
 (have ko1:=h1;have ko2:=h2;have kc1:=h3;refine w0 ?_;(repeat' first|refine W2.mk ?_ ?_|refine W1.mk fun hc=>?_);all_goals clear kc1 ko2 ko1)
 refine rt1 ?_
 exact rv_bool rfl rfl
end
theorem putT_at:∀ (l:List ByteArray) (n:ByteArray) (k:Nat),k ≤ l.length → (∀ j (h:j < l.length),j < k → l[j] < n) → (∀ h:k < l.length,¬ l[k] < n) →
   ((∃ h:k < l.length,l[k] = n) → putT l n = l) ∧ ((¬ ∃ h:k < l.length,l[k] = n) → putT l n = l.take k ++ n :: l.drop k):=by
 intro l
 induction l with
 | nil=>
   intro n k hk _ _
   obtain rfl:k = 0:=by simpa using hk
   exact ⟨fun ⟨h,_⟩=>by simp at h,fun _=>rfl⟩
 | cons x l ih=>
   intro n k hk h1 h2
   cases k with
   | zero=>
     have:=h2 (by simp)
     simp only [List.getElem_cons_zero] at this
     rw [putT,if_neg this]
     refine ⟨fun ⟨_,e⟩=>?_,fun e=>?_⟩
     · simp only [List.getElem_cons_zero] at e
       rw [if_pos e]
     · rw [if_neg (fun q=>e ⟨by simp,by simpa using q⟩)]
       rfl
   | succ k=>
     have h3:=h1 0 (by simp) (by omega)
     simp only [List.getElem_cons_zero] at h3
     have:=ih n k (by simpa using hk) (fun j hj hjk=>by have:=h1 (j + 1) (by simpa using hj) (by omega);simpa using this) (fun h=>by have:=h2 (by simpa using h);simpa using this)
     rw [putT,if_pos h3]
     refine ⟨fun ⟨h,e⟩=>?_,fun e=>?_⟩
     · rw [this.1 ⟨by simpa using h,by simpa using e⟩]
     · rw [this.2 (fun ⟨h,q⟩=>e ⟨by simpa using h,by simpa using q⟩)]
       rfl
abbrev txP (l:List ByteArray):PV:=lstP 1 (l.map strP)
abbrev txC (l:List ByteArray):Cnt:=.per (txP l)
theorem edgT_snoc (e:List ByteArray) (l:List Rg) (k:Nat) (h:k < l.length):edgT e (l.take (k + 1)) = edg1T (edgT e (l.take k)) l[k]:=by
 unfold edgT
 rw [List.take_succ_eq_append_getElem h,List.foldl_append]
 rfl
theorem putT_len:∀ (l:List ByteArray) (n:ByteArray),(putT l n).length ≤ l.length + 1:=by
 intro l
 induction l with
 | nil=>intro n;simp [putT]
 | cons x l ih=>
   intro n
   rw [putT]
   split
   · have:=ih n;simp;omega
   · split <;> simp
theorem mkSet_raw (X Y:List Kn):mkSet orR X Y = vsOf ofR (X ++ Y):=by
 unfold mkSet vsOf
 rw [tabOf_app,← setFrom_map,List.map_zipWith]
 congr 1
 exact zip_congr _ _ (fun t u _ _=>orR_eq t u)
theorem mkSet_less (X Y:List Kn):mkSet lessR X Y = vsLess X Y:=by
 unfold mkSet vsLess lessTab
 rw [setFrom_id _ _ (fun l hl=>by
   obtain ⟨t,u,_,_,rfl⟩:=zip_mem _ _ _ hl
   exact (opR_ok rfl t u).1)]
section
theorem rrg_put (l:List ByteArray) (n:ByteArray) (hl:l.length ≤ 1000000000) (hs:∀ t ∈ l,t.size ≤ 1000000000):Fn Tryz.prog 149 [txC l,sC n] (.per (txP (putT l n))):=by
 generalize hR:putT l n = R
 refine fi Tryz.func149 Tryz.ntmps149 ?_
 (refine w0 ?_;(repeat' first|refine W2.mk ?_ ?_|refine W1.mk fun hc=>?_))
 refine AW_loopP (X:=Nat) (fun k=>k ≤ l.length ∧ ∀ j (h:j < l.length),j < k → l[j] < n)
   (fun k=>mkSt [(0,txC l),(1,sC n),(5,iC .i64 ((k:Nat):Int))] []) (fun k=>l.length - k) 0 ⟨Nat.zero_le _,fun j _ h=>by omega⟩ ?_ ?_
 · exact le_auto
 · rintro k ⟨h1,h2⟩
   by_cases hk:k < l.length
   · have c0:=ref_Less l[k] n (by have:=hs _ (List.getElem_mem hk);omega)
     by_cases hlt:l[k] < n
     · rw [decide_eq_true (show cmpB l[k] n < 0 from hlt)] at c0
       have h2':∀ j (h:j < l.length),j < k + 1 → l[j] < n:=fun j h hj=>by
         rcases Nat.lt_or_ge j k with q|q
         · exact h2 j h q
         · obtain rfl:j = k:=by omega
           exact hlt
       clear hR h2 hs hlt
       (have kc1:=c0;refine w0 ?_;(repeat' first|refine W2.mk ?_ ?_|refine W1.mk fun hc=>?_);all_goals clear kc1)
       refine ⟨k + 1,⟨hk,h2'⟩,by omega,?_⟩
       exact le_auto
     · rw [decide_eq_false (show ¬ cmpB l[k] n < 0 from hlt)] at c0
       have hP:=putT_at l n k h1 h2 (fun _=>hlt)
       by_cases he:l[k] = n
       · have hR':l = R:=by rw [← hR,hP.1 ⟨hk,he⟩]
         clear hR hP h2 hs hlt
         (have kc1:=c0;refine w0 ?_;(repeat' first|refine W2.mk ?_ ?_|refine W1.mk fun hc=>?_);all_goals clear kc1)
         all_goals first
           | (exfalso;simp [he] at hc;done)
           | (refine rt1 ?_
              exact rv_lstM rfl hR')
       · have hR':l.take k ++ n :: l.drop k = R:=by rw [← hR,hP.2 (fun ⟨_,q⟩=>he q)]
         clear hR hP h2 hs hlt
         (have kc1:=c0;refine w0 ?_;(repeat' first|refine W2.mk ?_ ?_|refine W1.mk fun hc=>?_);all_goals clear kc1)
         all_goals first
           | (exfalso;rw [toL_inj'] at hc;exact he hc)
           | (refine AL_le (Le_nil 34 700 9 1 rfl rfl) ?_
              (refine w0 ?_;(repeat' first|refine W2.mk ?_ ?_|refine W1.mk fun hc=>?_))
              refine ⟨.inl rfl,ResO_le (Le_fz 700 _ 9 1 rfl rfl) (res1 rfl (rv_lstE rfl (by rw [← hR'];simp [List.map_take,List.map_drop];rfl)))⟩)
   · have hP:=putT_at l n k h1 h2 (fun h=>absurd h hk)
     have hR':l.take k ++ n :: l.drop k = R:=by rw [← hR,hP.2 (fun ⟨q,_⟩=>hk q)]
     clear hR hP h2 hs
     (refine w0 ?_;(repeat' first|refine W2.mk ?_ ?_|refine W1.mk fun hc=>?_))
     refine AL_le (Le_nil 34 700 9 1 rfl rfl) ?_
     (refine w0 ?_;(repeat' first|refine W2.mk ?_ ?_|refine W1.mk fun hc=>?_))
     refine ⟨.inl rfl,ResO_le (Le_fz 700 _ 9 1 rfl rfl) (res1 rfl (rv_lstE rfl (by rw [← hR'];simp [List.map_take,List.map_drop];rfl)))⟩
theorem rrg_Edges (A B:List Rg) (hA:A.length ≤ 1000000) (hB:B.length ≤ 1000000):Fn Tryz.prog 97 [rgsB A,rgsB B] (.per (txP (edgT [emB] (A ++ B)))):=by
 have hmem:∀ k,∀ t ∈ edgT [emB] ((A ++ B).take k),t.size ≤ 1000000000:=fun k t ht=>by
   rcases (edgT_mem _ _ _).1 ht with h|⟨r,_,h1,h2⟩
   · have h:t = emB:=by simpa using h
     rw [h];decide
   · have:=(rgR_iff r).1 h1
     rcases h2 with h2|⟨_,h2⟩ <;> rw [h2] <;> omega
 have hlen:∀ k,(edgT [emB] ((A ++ B).take k)).length ≤ 10000000:=fun k=>by
   have h1:=edgT_len ((A ++ B).take k) [emB]
   have h2:((A ++ B).take k).length ≤ A.length + B.length:=by rw [List.length_take,List.length_append];omega
   simp only [List.length_cons,List.length_nil] at h1
   omega
 refine fi Tryz.func97 Tryz.ntmps97 ?_
 (repeat' (first|refine AW_seq ?_|refine AW_block ?_|refine AW_skip ?_|refine AW_exit ?_|refine AW_ret ?_|refine AW_region ?_|refine AW_draw mixed0 ?_|refine AL_nil ?_|refine AD_nil (by kernel_rfl) ?_|(refine AW_cl rfl rfl ⟨fun hc=>?_,fun hc=>?_⟩ <;> (repeat rw [List.length_map] at hc) <;> (try exact absd hc))|((first|apply AL_t rfl|apply AL_0 rfl|apply AD_t rfl|apply AD_0 rfl);focus (first|((apply u_k 15;(focus rfl);solve|(apply u_bslice_row <;> first|exact ⟨rfl,rfl,rfl⟩|rfl|infer_instance|(repeat (first|exact PartsL.nil|(apply PartsL.cons;(focus (first|exact part_raw rfl rfl rfl|exact part_agg rfl|exact part_lst rfl))))))))|(apply u_g;(focus rfl);apply op_gyes rfl rfl rfl rfl rfl;((apply u_k 15;(focus rfl);solve|(apply u_bslice_row <;> first|exact ⟨rfl,rfl,rfl⟩|rfl|infer_instance|(repeat (first|exact PartsL.nil|(apply PartsL.cons;(focus (first|exact part_raw rfl rfl rfl|exact part_agg rfl|exact part_lst rfl)))))))))|exact z_auto|fail))|refine thenA_n ?_|refine thenA_r ?_|refine thenA_e ?_|refine inB_n ?_|refine inB_r ?_|refine inB_hit ?_|refine inB_miss rfl ?_|((first|refine AL_cl rfl rfl rfl ⟨fun hc=>?_,fun hc=>?_⟩|refine AD_cl rfl rfl rfl ⟨fun hc=>?_,fun hc=>?_⟩) <;> (fail_if_success (have q:(true = true):=hc)) <;> (fail_if_success (have q:(false = false):=hc)) <;> (repeat rw [List.length_map] at hc) <;> (try exact absd hc))|refine AW_cond_nil rfl rfl (fun hc=>?_) ?_))
 refine AW_le (Le_fz 8 _ 9 1 rfl rfl) ?_
 refine AW_loopP (X:=Nat) (fun k=>k ≤ A.length + B.length)
   (fun k=>mkSt [(0,rgsB A),(1,rgsB B),(5,txC (edgT [emB] ((A ++ B).take k))),(6,iC .i64 ((k:Nat):Int))] []) (fun k=>A.length + B.length - k) 0 (Nat.zero_le _) ?_ ?_
 · exact le_auto
 · intro k hk
   by_cases hlt:k < A.length + B.length
   · have hlt':k < (A ++ B).length:=by rw [List.length_append];exact hlt
     have hs:=edgT_snoc [emB] (A ++ B) k hlt'
     have hm:=hmem k
     have hl:=hlen k
     have hm2:=hmem (k + 1)
     generalize edgT [emB] ((A ++ B).take k) = E at *
     obtain ⟨r,hr⟩:∃ r,r = (A ++ B)[k]:=⟨_,rfl⟩
     rw [← hr] at hs
     have c0:=rspan_Right r
     have c1:=rrg_put E r.lo (by omega) hm
     have hp:=putT_len E r.lo
     have hpm:rgR r = true → ∀ t ∈ putT E r.lo,t.size ≤ 1000000000:=fun h t ht=>by
       rcases (putT_mem _ _ _).1 ht with q|q
       · rw [q];have:=(rgR_iff r).1 h;omega
       · exact hm t q
     clear hmem hlen hm2 hm
     by_cases hkA:k < A.length
     · have hrA:A[k] = r:=by rw [hr,List.getElem_append_left hkA]
       rw [← hrA] at c0 c1 hs hp hpm
       clear hr hrA
       cases hR:rgR A[k] with
       | false=>
         rw [hR] at c0
         rw [edg1T,if_neg (by simp [hR])] at hs
         (have kc1:=c0;refine w0 ?_;(repeat' first|refine W2.mk ?_ ?_|refine W1.mk fun hc=>?_);all_goals clear kc1)
         refine ⟨k + 1,hlt,by omega,?_⟩
         rw [hs]
         exact le_auto
       | true=>
         rw [hR] at c0
         rw [edg1T,if_pos hR] at hs
         have hpm:=hpm hR
         cases hO:A[k].op with
         | true=>
           rw [if_pos hO] at hs
           generalize putT E A[k].lo = E1 at *
           (have kc1:=c0;have kf1:=c1;refine w0 ?_;(repeat' first|refine W2.mk ?_ ?_|refine W1.mk fun hc=>?_);all_goals clear kf1 kc1)
           all_goals first
             | (exfalso;simp [hO] at hc;done)
             | (refine ⟨k + 1,hlt,by omega,?_⟩
                rw [hs]
                exact le_auto)
         | false=>
           rw [if_neg (by simp [hO])] at hs
           have c2:=rrg_put (putT E A[k].lo) A[k].hi (by omega) hpm
           generalize putT E A[k].lo = E1 at *
           generalize putT E1 A[k].hi = E2 at *
           (have kc1:=c0;have kf1:=c1;have kf2:=c2;refine w0 ?_;(repeat' first|refine W2.mk ?_ ?_|refine W1.mk fun hc=>?_);all_goals clear kf2 kf1 kc1)
           all_goals first
             | (exfalso;simp [hO] at hc;done)
             | (refine ⟨k + 1,hlt,by omega,?_⟩
                rw [hs]
                exact le_auto)
     · have hkB:k - A.length < B.length:=by omega
       have hrB:B[k - A.length] = r:=by rw [hr,List.getElem_append_right (by omega)]
       have eK:((k:Nat):Int) - ((A.length:Nat):Int) = ((k - A.length:Nat):Int):=by omega
       rw [← hrB] at c0 c1 hs hp hpm
       clear hr hrB
       cases hR:rgR B[k - A.length] with
       | false=>
         rw [hR] at c0
         rw [edg1T,if_neg (by simp [hR])] at hs
         (have ke1:=Lib.hid (eK);have kc1:=c0;refine w0e ?_;(repeat' first|refine W2.mk ?_ ?_|refine W1.mk fun hc=>?_);all_goals clear kc1 ke1)
         refine ⟨k + 1,hlt,by omega,?_⟩
         rw [hs]
         exact le_auto
       | true=>
         rw [hR] at c0
         rw [edg1T,if_pos hR] at hs
         have hpm:=hpm hR
         cases hO:B[k - A.length].op with
         | true=>
           rw [if_pos hO] at hs
           generalize putT E B[k - A.length].lo = E1 at *
           (have ke1:=Lib.hid (eK);have kc1:=c0;have kf1:=c1;refine w0e ?_;(repeat' first|refine W2.mk ?_ ?_|refine W1.mk fun hc=>?_);all_goals clear kf1 kc1 ke1)
           all_goals first
             | (exfalso;simp [hO] at hc;done)
             | (refine ⟨k + 1,hlt,by omega,?_⟩
                rw [hs]
                exact le_auto)
         | false=>
           rw [if_neg (by simp [hO])] at hs
           have c2:=rrg_put (putT E B[k - A.length].lo) B[k - A.length].hi (by omega) hpm
           generalize putT E B[k - A.length].lo = E1 at *
           generalize putT E1 B[k - A.length].hi = E2 at *
           (have ke1:=Lib.hid (eK);have kc1:=c0;have kf1:=c1;have kf2:=c2;refine w0e ?_;(repeat' first|refine W2.mk ?_ ?_|refine W1.mk fun hc=>?_);all_goals clear kf2 kf1 kc1 ke1)
           all_goals first
             | (exfalso;simp [hO] at hc;done)
             | (refine ⟨k + 1,hlt,by omega,?_⟩
                rw [hs]
                exact le_auto)
   · rw [List.take_of_length_le (by rw [List.length_append];omega)]
     generalize edgT [emB] (A ++ B) = E at *
     (refine w0 ?_;(repeat' first|refine W2.mk ?_ ?_|refine W1.mk fun hc=>?_))
     refine rt1 ?_
     exact rv_lstM rfl rfl
end
section
theorem rkn_spans (k:List Pc) (hl:k.length ≤ 1000000000):Fn Tryz.prog 96 [pcsB k] (.own 82 3 ((rgsOf k).map rgP)):=by
 refine fi Tryz.func96 Tryz.ntmps96 ?_
 (refine w0 ?_;(repeat' first|refine W2.mk ?_ ?_|refine W1.mk fun hc=>?_))
 refine AW_le (Le_nil 3 700 82 3 rfl rfl) ?_
 refine AW_loopP (X:=Nat) (fun z=>z ≤ k.length)
   (fun z=>mkSt [(0,pcsB k),(3,.row 700 0),(4,iC .i64 ((z:Nat):Int))] [(700,.row 82 3 ((rgsOf (k.take z)).map rgP))]) (fun z=>k.length - z) 0 (Nat.zero_le _) ?_ ?_
 · exact le_auto
 · intro z hz
   by_cases hlt:z < k.length
   · have hsn:rgsOf (k.take (z + 1)) = rgsOf (k.take z) ++ [k[z].rg]:=by unfold rgsOf;rw [List.take_succ_eq_append_getElem hlt,List.map_append];rfl
     have hlk:(rgsOf (k.take z)).length ≤ z:=by unfold rgsOf;rw [List.length_map,List.length_take];omega
     generalize rgsOf (k.take z) = A at *
     (refine w0 ?_;(repeat' (first|refine W2.mk ?_ ?_|refine W1.mk fun hc=>?_|((first|apply AL_t rfl|apply AL_0 rfl|apply AD_t rfl|apply AD_0 rfl);(focus (first|((apply u_k 5;(focus rfl);first|exact u_load_bpT ⟨rfl,rfl,rfl⟩ rfl inferInstance inferInstance rfl rfl rfl rfl|exact u_load_rpT ⟨rfl,rfl,rfl⟩ rfl inferInstance inferInstance rfl rfl rfl rfl))|(apply u_g;(focus rfl);apply op_gyes rfl rfl rfl rfl rfl;first|((apply u_k 5;(focus rfl);first|exact u_load_bpT ⟨rfl,rfl,rfl⟩ rfl inferInstance inferInstance rfl rfl rfl rfl|exact u_load_rpT ⟨rfl,rfl,rfl⟩ rfl inferInstance inferInstance rfl rfl rfl rfl)))));refine w0 ?_))))
     refine ⟨z + 1,hlt,by omega,Le_trans (Le_mv 700 701) (Le_trans (Le_mv 701 700) ?_)⟩
     rw [hsn]
     exact le_auto
   · rw [List.take_of_length_le (show k.length ≤ z by omega)]
     generalize rgsOf k = A at *
     (refine w0 ?_;(repeat' first|refine W2.mk ?_ ?_|refine W1.mk fun hc=>?_))
     refine rt1 ?_
     exact rv_own rfl rfl rfl
theorem rvs_Of (s:List Kn) (hs:knsMid s):Fn Tryz.prog 85 [knsB s] (ownKn (vsOf ofR s)):=by
 have h:=rvs_Make 1 orR s [] hs.tot ⟨by simp,by simp⟩ (fun r _=>rcnt_Make1 (tabAt s r) (tabAt [] r) (by have:=tabAt_len s r;have:=hs.2;omega) (by simp [tabAt]))
 rw [mkSet_raw,List.append_nil] at h
 generalize vsOf ofR s = R at *
 refine fi Tryz.func85 Tryz.ntmps85 ?_
 (have kc1:=h;refine w0 ?_;(repeat' first|refine W2.mk ?_ ?_|refine W1.mk fun hc=>?_);all_goals clear kc1)
 refine rt1 ?_
 exact rv_own rfl rfl rfl
theorem rkn_At (k:List Pc) (s:ByteArray) (hk:pcsMid k) (hs:s.size ≤ 1000000000):Fn Tryz.prog 150 [pcsB k,sC s] (ownKn (atK k s)):=by
 have hk1:=hk.1
 have hO:=rvs_Of (k.flatMap (hasF s)) (hk.has s)
 rw [show vsOf ofR (k.flatMap (hasF s)) = atK k s from rfl] at hO
 generalize atK k s = R at *
 refine fi Tryz.func150 Tryz.ntmps150 ?_
 (refine w0 ?_;(repeat' first|refine W2.mk ?_ ?_|refine W1.mk fun hc=>?_))
 refine AW_le (Le_nil 5 700 130 2 rfl rfl) ?_
 refine AW_loopP (X:=Nat) (fun z=>z ≤ k.length)
   (fun z=>mkSt [(0,pcsB k),(1,sC s),(5,.row 700 0),(6,iC .i64 ((z:Nat):Int))] [(700,.row 130 2 (((k.take z).flatMap (hasF s)).map knP))]) (fun z=>k.length - z) 0 (Nat.zero_le _) ?_ ?_
 · exact le_auto
 · intro z hz
   by_cases hlt:z < k.length
   · have hsn:=flat_snoc (hasF s) k z hlt
     have h1:=(flat_take (hasF s) k z).2
     have h2:=(hk.has s).1
     have h3:=mem_flat_len2 Pc.set (List.getElem_mem hlt)
     have h4:=hk.2.1
     have c1:=rspan_Has k[z].rg s hs
     generalize (k.take z).flatMap (hasF s) = A at *
     unfold hasF at hsn
     clear hk
     cases c:rgHas k[z].rg s with
     | true=>
       rw [c] at c1 hsn
       rw [if_pos rfl] at hsn
       (have kc1:=c1;refine w0 ?_;(repeat' (first|refine W2.mk ?_ ?_|refine W1.mk fun hc=>?_|((first|apply AL_t rfl|apply AL_0 rfl|apply AD_t rfl|apply AD_0 rfl);(focus (first|((apply u_k 5;(focus rfl);first|exact u_load_bpT ⟨rfl,rfl,rfl⟩ rfl inferInstance inferInstance rfl rfl rfl rfl|exact u_load_rpT ⟨rfl,rfl,rfl⟩ rfl inferInstance inferInstance rfl rfl rfl rfl))|(apply u_g;(focus rfl);apply op_gyes rfl rfl rfl rfl rfl;first|((apply u_k 5;(focus rfl);first|exact u_load_bpT ⟨rfl,rfl,rfl⟩ rfl inferInstance inferInstance rfl rfl rfl rfl|exact u_load_rpT ⟨rfl,rfl,rfl⟩ rfl inferInstance inferInstance rfl rfl rfl rfl)))));refine w0 ?_)));all_goals clear kc1)
       refine ⟨z + 1,hlt,by omega,Le_trans (Le_mv 700 701) (Le_trans (Le_mv 701 700) ?_)⟩
       rw [show (k.take (z + 1)).flatMap (hasF s) = _ from hsn]
       exact le_auto
     | false=>
       rw [c] at c1 hsn
       rw [if_neg (by simp),List.append_nil] at hsn
       (have kc1:=c1;refine w0 ?_;(repeat' (first|refine W2.mk ?_ ?_|refine W1.mk fun hc=>?_|((first|apply AL_t rfl|apply AL_0 rfl|apply AD_t rfl|apply AD_0 rfl);(focus (first|((apply u_k 5;(focus rfl);first|exact u_load_bpT ⟨rfl,rfl,rfl⟩ rfl inferInstance inferInstance rfl rfl rfl rfl|exact u_load_rpT ⟨rfl,rfl,rfl⟩ rfl inferInstance inferInstance rfl rfl rfl rfl))|(apply u_g;(focus rfl);apply op_gyes rfl rfl rfl rfl rfl;first|((apply u_k 5;(focus rfl);first|exact u_load_bpT ⟨rfl,rfl,rfl⟩ rfl inferInstance inferInstance rfl rfl rfl rfl|exact u_load_rpT ⟨rfl,rfl,rfl⟩ rfl inferInstance inferInstance rfl rfl rfl rfl)))));refine w0 ?_)));all_goals clear kc1)
       refine ⟨z + 1,hlt,by omega,?_⟩
       rw [show (k.take (z + 1)).flatMap (hasF s) = _ from hsn]
       exact le_auto
   · rw [List.take_of_length_le (show k.length ≤ z by omega)]
     clear hk
     generalize k.flatMap (hasF s) = A at *
     (have kc1:=hO;refine w0 ?_;(repeat' first|refine W2.mk ?_ ?_|refine W1.mk fun hc=>?_);all_goals clear kc1)
     refine rt1 ?_
     exact rv_own rfl rfl rfl
abbrev noRg:Cnt:=.bor 3 []
theorem rkn_What1 (a b:List Pc) (s:ByteArray) (ha:pcsMid a) (hb:pcsMid b) (hs:s.size ≤ 1000000000):Fn Tryz.prog 98 [iC .i64 1,pcsB a,pcsB b,noRg,sC s] (ownKn (atK (a ++ b) s)):=by
 have h1:=rkn_At a s ha hs
 have h2:=rkn_At b s hb hs
 have h3:=rvs_Make 1 orR (atK a s) (atK b s) (atK_mid2 ha s).tot (atK_mid2 hb s).tot (fun r _=>rcnt_Make1 _ _ (by have:=tabAt_len (atK a s) r;have:=(atK_mid2 ha s).2;omega) (by have:=tabAt_len (atK b s) r;have:=(atK_mid2 hb s).2;omega))
 rw [atK_app] at h3
 generalize atK (a ++ b) s = R at *
 generalize atK a s = A at *
 generalize atK b s = B at *
 refine fi Tryz.func98 Tryz.ntmps98 ?_
 (have ko1:=h1;have ko2:=h2;have kc1:=h3;refine w0 ?_;(repeat' first|refine W2.mk ?_ ?_|refine W1.mk fun hc=>?_);all_goals clear kc1 ko2 ko1)
 refine rt1 ?_
 exact rv_own rfl rfl rfl
theorem rkn_What2 (a b:List Pc) (s:ByteArray) (ha:pcsMid a) (hb:pcsMid b) (hs:s.size ≤ 1000000000):Fn Tryz.prog 98 [iC .i64 2,pcsB a,pcsB b,noRg,sC s] (ownKn (vsLess (atK a s) (atK b s))):=by
 have h1:=rkn_At a s ha hs
 have h2:=rkn_At b s hb hs
 have h3:=rvs_Make 3 lessR (atK a s) (atK b s) (atK_mid2 ha s).tot (atK_mid2 hb s).tot (fun r _=>rcnt_Make3 _ _ (by have:=tabAt_len (atK a s) r;have:=(atK_mid2 ha s).2;omega) (by have:=tabAt_len (atK b s) r;have:=(atK_mid2 hb s).2;omega))
 rw [mkSet_less] at h3
 generalize vsLess (atK a s) (atK b s) = R at *
 generalize atK a s = A at *
 generalize atK b s = B at *
 refine fi Tryz.func98 Tryz.ntmps98 ?_
 (have ko1:=h1;have ko2:=h2;have kc1:=h3;refine w0 ?_;(repeat' first|refine W2.mk ?_ ?_|refine W1.mk fun hc=>?_);all_goals clear kc1 ko2 ko1)
 refine rt1 ?_
 exact rv_own rfl rfl rfl
end
end Go.Proofs.YtembiemaiacdfaaGreat
