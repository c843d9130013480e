/- Texts joined: SoV. -/
import Derived.Test.YtfcpkegmdlchhaaGreatJ20
import Derived.Test.YtfcpkegmdlchhaaGreatJ27
import Derived.Test.YtfcpkegmdlchhaaGreatJ16
import Derived.Test.YtfcpkegmdlchhaaGreatJ21
import Derived.Test.YtfcpkegmdlchhaaGreatJ06
set_option maxRecDepth 10000
set_option maxHeartbeats 8000000
namespace Go.Proofs.YtfcpkegmdlchhaaGreat
open Go.RowKit Go.Shelf
abbrev Vn:=Int × Int
abbrev vnP (v:Vn):List PV:=vrP v.1 v.2
abbrev vnR (v:Vn):Bool:=verR v.1 v.2
/-- neighbours alike are one -/
def keepV (p:Vn):List Vn → List Vn
 | []=>[]
 | x :: l=>if x = p then keepV x l else x :: keepV x l
def compV:List Vn → List Vn
 | []=>[]
 | x :: l=>x :: keepV x l
theorem keepV_len (p:Vn) (l:List Vn):(keepV p l).length ≤ l.length:=by
 induction l generalizing p with
 | nil=>exact Nat.le_refl _
 | cons x l ih=>
   unfold keepV
   have:=ih x
   split
   · simp only [List.length_cons];omega
   · simp only [List.length_cons];omega
theorem compV_len (l:List Vn):(compV l).length ≤ l.length:=by
 cases l with
 | nil=>exact Nat.le_refl _
 | cons x l=>have:=keepV_len x l;simp only [compV,List.length_cons];omega
theorem compV_take {l:List Vn} {k:Nat} (h:k < l.length) (h0:k = 0):l.take (k + 1) ++ keepV l[k] (l.drop (k + 1)) = compV l:=by
 subst h0
 cases l with
 | nil=>cases h
 | cons x l=>rfl
section
theorem vn_eq (x y:Vn):(decide (x.1 = y.1) && (decide (x.2 = y.2) && true)) = decide (x = y):=by
 rw [Bool.eq_iff_iff];simp [Prod.ext_iff]
theorem zro_vn:Zro Tryz.prog 68 (.agg #[.int .i64 0,.int .i64 0]):=⟨by kernel_rfl⟩
theorem comp_ver (l:List Vn) (hl:l.length ≤ 1000000000) :
   FnM Tryz.prog 175 [.row 2000 0] [(2000,.row 68 2 (l.map vnP))] (.row 3000 0) [(3000,.row 68 2 ((compV l).map vnP))]:=by
 have hE:∀ x y:Vn,eqO Tryz.prog 10000 68 [.int .i64 x.1,.int .i64 x.2] [.int .i64 y.1,.int .i64 y.2] = some (decide (x = y)):=fun x y=>(eqO_ver x.1 x.2 y.1 y.2).trans (congrArg some (vn_eq x y))
 by_cases h2:l.length < 2
 · have hR:compV l = l:=by
     match l,h2 with
     | [],_=>rfl
     | [x],_=>rfl
   rw [hR]
   clear hE hR
   refine fmi Tryz.func175 Tryz.ntmps175 ?_
   (refine w0e ?_;(repeat' first|refine W2.mk ?_ ?_|refine W1.mk fun hc=>?_))
   (refine ⟨(by first|exact .inl rfl|exact .inr rfl),resM1 [(2000,3000)] rfl rfl ?_ ?_⟩;(focus (repeat (first|exact AllX.nil|(refine AllX.cons rfl ?_ ?_;(focus first|rfl|skip))))))
   exact rvm rfl rfl
 generalize hR:compV l = R
 have hRl:R.length ≤ l.length:=by rw [← hR];exact compV_len l
 refine fmi Tryz.func175 Tryz.ntmps175 ?_
 (refine w0e ?_;(repeat' first|refine W2.mk ?_ ?_|refine W1.mk fun hc=>?_))
 refine AW_loopP (X:=Nat) (fun k=>k + 1 ≤ l.length ∧ ∃ h:k < l.length,l.take (k + 1) ++ keepV l[k] (l.drop (k + 1)) = R) (fun k=>mkSt [(0,.row 2000 0),(3,iC .i64 ((k + 1:Nat):Int))] [(2000,.row 68 2 (l.map vnP))]) (fun k=>l.length - k) 0 ⟨by omega,by omega,(compV_take (by omega) rfl).trans hR⟩ ?_ ?_
 · exact le_auto
 · rintro k ⟨h1,h3,h4⟩
   by_cases hk:k + 1 < l.length
   · have e0:((k + 1:Nat):Int) - 1 = (k:Nat):=by omega
     have kL1:Hid ((l.map vnP)[k]? = some (vnP l[k])):=Lib.hid (by rw [List.getElem?_map,List.getElem?_eq_getElem h3];rfl)
     have kL2:Hid ((l.map vnP)[k + 1]? = some (vnP l[k + 1])):=Lib.hid (by rw [List.getElem?_map,List.getElem?_eq_getElem hk];rfl)
     have hE1:=hE l[k + 1] l[k]
     rw [List.drop_eq_getElem_cons hk] at h4
     unfold keepV at h4
     by_cases hxy:l[k + 1] = l[k]
     · rw [if_pos hxy] at h4
       rw [decide_eq_true hxy] at hE1
       have h4:l.take (k + 1) ++ keepV l[k + 1] (l.drop (k + 1 + 1)) = R:=h4
       have hEa:=hE
       clear hE hR
       (have ke1:=Lib.hid (e0);refine w0e ?_;(repeat' (first|refine W2.mk ?_ ?_|refine W1.mk fun hc=>?_|((first|apply AL_t rfl|apply AL_0 rfl|apply AD_t rfl|apply AD_0 rfl);(focus (first|(exact op_eqA (us:=[.int .i64 l[k + 1].1,.int .i64 l[k + 1].2]) (vs:=[.int .i64 l[k].1,.int .i64 l[k].2]) ⟨rfl,rfl,rfl⟩ rfl rfl rfl (by first|exact .inl ⟨rfl,rfl⟩|exact .inr ⟨rfl,rfl⟩) verG rfl hE1)|((exact op_vw (l:=k + 1) (h:=l.length) ⟨rfl,rfl,rfl⟩ rfl inferInstance inferInstance rfl rfl rfl rfl ⟨⟨_,_,rfl,rfl⟩,(by simp),by omega,by simp⟩ (by simp;omega)))|(apply u_g;(focus rfl);apply op_gyes rfl rfl rfl rfl rfl;first|(exact op_eqA (us:=[.int .i64 l[k + 1].1,.int .i64 l[k + 1].2]) (vs:=[.int .i64 l[k].1,.int .i64 l[k].2]) ⟨rfl,rfl,rfl⟩ rfl rfl rfl (by first|exact .inl ⟨rfl,rfl⟩|exact .inr ⟨rfl,rfl⟩) verG rfl hE1)|((exact op_vw (l:=k + 1) (h:=l.length) ⟨rfl,rfl,rfl⟩ rfl inferInstance inferInstance rfl rfl rfl rfl ⟨⟨_,_,rfl,rfl⟩,(by simp),by omega,by simp⟩ (by simp;omega))))));refine w0e ?_)));all_goals clear ke1)
       have h6:∃ h:k + 1 + 0 < l.length,l.take (k + 1) ++ keepV l[k + 1 + 0] (l.drop (k + 1 + 0 + 1)) = R:=⟨hk,h4⟩
       clear h4 kL1 kL2 hE1 hxy e0
       refine AW_loopP (X:=List Vn × Nat × Nat) (fun x=>x.1.length = l.length ∧ x.2.1 < k + 1 + x.2.2 + 1 ∧ ∃ h:k + 1 + x.2.2 < x.1.length,x.1.take x.2.1 ++ keepV x.1[k + 1 + x.2.2] (x.1.drop (k + 1 + x.2.2 + 1)) = R)
         (fun x=>mkSt [(0,.row 2000 0),(3,iC .i64 (x.2.1:Nat)),(4,.vw 2000 0 2 (k + 1) (l.length - (k + 1))),(5,iC .i64 ((x.2.2 + 1:Nat):Int))] [(2000,.row 68 2 (x.1.map vnP))]) (fun x=>l.length - (k + 1 + x.2.2)) (l,k + 1,0) ⟨rfl,by simp only;omega,h6⟩ ?_ ?_
       · exact le_auto
       · clear h6
         rintro ⟨M,kk,m⟩ ⟨g1,g2,g3,g4⟩
         simp only at g1 g2 g3 g4 ⊢
         by_cases hm:k + 1 + m + 1 < M.length
         · have e1:((m + 1:Nat):Int) - 1 = (m:Nat):=by omega
           have kL1:Hid ((M.map vnP)[k + 1 + m]? = some (vnP M[k + 1 + m])):=Lib.hid (by rw [List.getElem?_map,List.getElem?_eq_getElem g3];rfl)
           have kL2:Hid ((M.map vnP)[k + 1 + (m + 1)]? = some (vnP M[k + 1 + m + 1])):=Lib.hid (by rw [List.getElem?_map,← Nat.add_assoc,List.getElem?_eq_getElem hm];rfl)
           have hE1:=hEa M[k + 1 + m + 1] M[k + 1 + m]
           rw [List.drop_eq_getElem_cons hm] at g4
           unfold keepV at g4
           by_cases hxy:M[k + 1 + m + 1] = M[k + 1 + m]
           · rw [if_pos hxy] at g4
             rw [decide_eq_true hxy] at hE1
             have g6:∃ h:k + 1 + (m + 1) < M.length,M.take kk ++ keepV M[k + 1 + (m + 1)] (M.drop (k + 1 + (m + 1) + 1)) = R:=⟨hm,g4⟩
             clear g4 hEa
             generalize M[k + 1 + m + 1] = x at *
             generalize M[k + 1 + m] = y at *
             (have ke1:=Lib.hid (e1);refine w0e ?_;(repeat' (first|refine W2.mk ?_ ?_|refine W1.mk fun hc=>?_|((first|apply AL_t rfl|apply AL_0 rfl|apply AD_t rfl|apply AD_0 rfl);(focus (first|(exact op_eqA (us:=[.int .i64 x.1,.int .i64 x.2]) (vs:=[.int .i64 y.1,.int .i64 y.2]) ⟨rfl,rfl,rfl⟩ rfl rfl rfl (by first|exact .inl ⟨rfl,rfl⟩|exact .inr ⟨rfl,rfl⟩) verG rfl hE1)|((exact op_vlen ⟨rfl,rfl,rfl⟩ rfl inferInstance rfl rfl))|((exact op_vidx (i:=m + 1) ⟨rfl,rfl,rfl⟩ rfl inferInstance inferInstance rfl rfl rfl rfl rfl (by omega)))|((exact op_vidx (i:=m) ⟨rfl,rfl,rfl⟩ rfl inferInstance inferInstance rfl rfl rfl rfl rfl (by omega)))|(apply u_g;(focus rfl);apply op_gyes rfl rfl rfl rfl rfl;first|(exact op_eqA (us:=[.int .i64 x.1,.int .i64 x.2]) (vs:=[.int .i64 y.1,.int .i64 y.2]) ⟨rfl,rfl,rfl⟩ rfl rfl rfl (by first|exact .inl ⟨rfl,rfl⟩|exact .inr ⟨rfl,rfl⟩) verG rfl hE1)|((exact op_vlen ⟨rfl,rfl,rfl⟩ rfl inferInstance rfl rfl))|((exact op_vidx (i:=m + 1) ⟨rfl,rfl,rfl⟩ rfl inferInstance inferInstance rfl rfl rfl rfl rfl (by omega)))|((exact op_vidx (i:=m) ⟨rfl,rfl,rfl⟩ rfl inferInstance inferInstance rfl rfl rfl rfl rfl (by omega))))));refine w0e ?_)));all_goals clear ke1)
             refine ⟨(M,kk,m + 1),⟨g1,by simp only;omega,g6⟩,by simp only;omega,?_⟩
             exact le_auto
           · rw [if_neg hxy] at g4
             rw [decide_eq_false hxy] at hE1
             have hkk:kk < M.length:=by omega
             have hS:(M.map vnP).set kk (setP (vnP M[kk]) 0 (vnP M[k + 1 + m + 1])) = (M.set kk M[k + 1 + m + 1]).map vnP:=map_set' vnP M kk _
             have g7:(M.set kk M[k + 1 + m + 1]).length = l.length:=by rw [List.length_set];exact g1
             have g6:∃ h:k + 1 + (m + 1) < (M.set kk M[k + 1 + m + 1]).length,(M.set kk M[k + 1 + m + 1]).take (kk + 1) ++ keepV (M.set kk M[k + 1 + m + 1])[k + 1 + (m + 1)] ((M.set kk M[k + 1 + m + 1]).drop (k + 1 + (m + 1) + 1)) = R:=by
               refine ⟨by rw [List.length_set];exact hm,?_⟩
               rw [List.getElem_set_ne (by omega),List.drop_set_of_lt (by omega),take_snoc' _ kk (by rw [List.length_set];exact hkk),List.getElem_set_self,List.take_set_of_le (Nat.le_refl _),List.append_assoc]
               exact g4
             have kL3:=kL1
             clear kL1
             have kL1:Hid ((M.map vnP)[kk]? = some (vnP M[kk])):=Lib.hid (by rw [List.getElem?_map,List.getElem?_eq_getElem hkk];rfl)
             have kS1:=Lib.hid hS
             clear g4 hEa hS
             generalize M.set kk M[k + 1 + m + 1] = M' at *
             generalize M[k + 1 + m + 1] = x at *
             generalize M[k + 1 + m] = y at *
             generalize M[kk] = z at *
             (have ke1:=Lib.hid (e1);refine w0e ?_;(repeat' (first|refine W2.mk ?_ ?_|refine W1.mk fun hc=>?_|((first|apply AL_t rfl|apply AL_0 rfl|apply AD_t rfl|apply AD_0 rfl);(focus (first|(exact op_eqA (us:=[.int .i64 x.1,.int .i64 x.2]) (vs:=[.int .i64 y.1,.int .i64 y.2]) ⟨rfl,rfl,rfl⟩ rfl rfl rfl (by first|exact .inl ⟨rfl,rfl⟩|exact .inr ⟨rfl,rfl⟩) verG rfl hE1)|((exact op_vlen ⟨rfl,rfl,rfl⟩ rfl inferInstance rfl rfl))|((exact op_vidx (i:=m + 1) ⟨rfl,rfl,rfl⟩ rfl inferInstance inferInstance rfl rfl rfl rfl rfl (by omega)))|((exact op_vidx (i:=m) ⟨rfl,rfl,rfl⟩ rfl inferInstance inferInstance rfl rfl rfl rfl rfl (by omega)))|(apply u_g;(focus rfl);apply op_gyes rfl rfl rfl rfl rfl;first|(exact op_eqA (us:=[.int .i64 x.1,.int .i64 x.2]) (vs:=[.int .i64 y.1,.int .i64 y.2]) ⟨rfl,rfl,rfl⟩ rfl rfl rfl (by first|exact .inl ⟨rfl,rfl⟩|exact .inr ⟨rfl,rfl⟩) verG rfl hE1)|((exact op_vlen ⟨rfl,rfl,rfl⟩ rfl inferInstance rfl rfl))|((exact op_vidx (i:=m + 1) ⟨rfl,rfl,rfl⟩ rfl inferInstance inferInstance rfl rfl rfl rfl rfl (by omega)))|((exact op_vidx (i:=m) ⟨rfl,rfl,rfl⟩ rfl inferInstance inferInstance rfl rfl rfl rfl rfl (by omega))))));refine w0e ?_)));all_goals clear ke1)
             refine ⟨(M',kk + 1,m + 1),⟨g7,by simp only;omega,g6⟩,by simp only;omega,?_⟩
             exact le_auto
         · have hm:M.length = k + 1 + m + 1:=by omega
           rw [List.drop_of_length_le (by omega)] at g4
           have hkk:kk < M.length:=by omega
           have g4:M.take kk = R:=by rw [← g4];simp [keepV]
           have hcut:((M.map vnP).take kk ++ List.replicate (M.length - kk) (List.replicate 2 anyP) ++ (M.map vnP).drop (kk + (M.length - kk))).take kk = R.map vnP:=by
             rw [List.append_assoc,List.take_append_of_le_length (by simp;omega),List.take_take,Nat.min_self,← List.map_take,g4]
           clear hEa g4
           (refine w0e ?_;(repeat' (first|refine W2.mk ?_ ?_|refine W1.mk fun hc=>?_|((first|apply AL_t rfl|apply AL_0 rfl|apply AD_t rfl|apply AD_0 rfl);(focus (first|((exact op_vlen ⟨rfl,rfl,rfl⟩ rfl inferInstance rfl rfl))|((exact op_vw (l:=kk) (h:=M.length) ⟨rfl,rfl,rfl⟩ rfl inferInstance inferInstance rfl rfl rfl rfl ⟨⟨_,_,rfl,rfl⟩,(by simp),by omega,by simp⟩ (by simp;omega)))|((exact op_clear ⟨rfl,rfl⟩ rfl inferInstance zro_vn rfl rfl rfl rfl rfl (by rw [List.length_map];omega) (by omega) rfl))|((exact op_rcut (h:=kk) ⟨rfl,rfl,rfl⟩ rfl inferInstance inferInstance rfl rfl rfl rfl ⟨rfl,⟨_,_,rfl,rfl⟩,by omega,(by simp;omega)⟩ hcut))|(apply u_g;(focus rfl);apply op_gyes rfl rfl rfl rfl rfl;first|((exact op_vlen ⟨rfl,rfl,rfl⟩ rfl inferInstance rfl rfl))|((exact op_vw (l:=kk) (h:=M.length) ⟨rfl,rfl,rfl⟩ rfl inferInstance inferInstance rfl rfl rfl rfl ⟨⟨_,_,rfl,rfl⟩,(by simp),by omega,by simp⟩ (by simp;omega)))|((exact op_clear ⟨rfl,rfl⟩ rfl inferInstance zro_vn rfl rfl rfl rfl rfl (by rw [List.length_map];omega) (by omega) rfl))|((exact op_rcut (h:=kk) ⟨rfl,rfl,rfl⟩ rfl inferInstance inferInstance rfl rfl rfl rfl ⟨rfl,⟨_,_,rfl,rfl⟩,by omega,(by simp;omega)⟩ hcut)))));refine w0e ?_))))
           (refine ⟨(by first|exact .inl rfl|exact .inr rfl),resM1 [(2000,3000)] rfl rfl ?_ ?_⟩;(focus (repeat (first|exact AllX.nil|(refine AllX.cons rfl ?_ ?_;(focus first|rfl|skip))))))
           exact rvm rfl rfl
     · rw [if_neg hxy] at h4
       rw [decide_eq_false hxy] at hE1
       have h5:l.take (k + 1 + 1) ++ keepV l[k + 1] (l.drop (k + 1 + 1)) = R:=by
         rw [← h4,take_snoc' l (k + 1) hk,List.append_assoc];rfl
       have h6:∃ h:k + 1 < l.length,l.take (k + 1 + 1) ++ keepV l[k + 1] (l.drop (k + 1 + 1)) = R:=⟨hk,h5⟩
       clear h4 h5 hE hR
       generalize l[k + 1] = x at *
       generalize l[k] = y at *
       (have ke1:=Lib.hid (e0);refine w0e ?_;(repeat' (first|refine W2.mk ?_ ?_|refine W1.mk fun hc=>?_|((first|apply AL_t rfl|apply AL_0 rfl|apply AD_t rfl|apply AD_0 rfl);(focus (first|(exact op_eqA (us:=[.int .i64 x.1,.int .i64 x.2]) (vs:=[.int .i64 y.1,.int .i64 y.2]) ⟨rfl,rfl,rfl⟩ rfl rfl rfl (by first|exact .inl ⟨rfl,rfl⟩|exact .inr ⟨rfl,rfl⟩) verG rfl hE1)|(apply u_g;(focus rfl);apply op_gyes rfl rfl rfl rfl rfl;first|(exact op_eqA (us:=[.int .i64 x.1,.int .i64 x.2]) (vs:=[.int .i64 y.1,.int .i64 y.2]) ⟨rfl,rfl,rfl⟩ rfl rfl rfl (by first|exact .inl ⟨rfl,rfl⟩|exact .inr ⟨rfl,rfl⟩) verG rfl hE1))));refine w0e ?_)));all_goals clear ke1)
       refine ⟨k + 1,⟨by omega,h6⟩,by omega,?_⟩
       exact le_auto
   · have hk:l.length = k + 1:=by omega
     rw [List.drop_of_length_le (by omega),List.take_of_length_le (by omega)] at h4
     have h4:l = R:=by rw [← h4];simp [keepV]
     subst h4
     clear hE hR
     (refine w0e ?_;(repeat' first|refine W2.mk ?_ ?_|refine W1.mk fun hc=>?_))
     (refine ⟨(by first|exact .inl rfl|exact .inr rfl),resM1 [(2000,3000)] rfl rfl ?_ ?_⟩;(focus (repeat (first|exact AllX.nil|(refine AllX.cons rfl ?_ ?_;(focus first|rfl|skip))))))
     exact rvm rfl rfl
end
/-! ### versions, sorted -/
def cmpVn (x y:Vn):Int:=cmpV x.1 x.2 y.1 y.2
theorem cmpVn_lt (x y:Vn):ltOf cmpVn x y = true ↔ x.1 < y.1 ∨ x.1 = y.1 ∧ x.2 < y.2:=by
 unfold ltOf cmpVn cmpV
 rw [decide_eq_true_eq]
 split
 · omega
 · split
   · omega
   · omega
theorem cmpVn_nlt (x y:Vn):ltOf cmpVn x y = false ↔ ¬ (x.1 < y.1 ∨ x.1 = y.1 ∧ x.2 < y.2):=by
 rw [← cmpVn_lt];simp
theorem cmpVn_swo:Sort.SWO (ltOf cmpVn) where
 irrefl x:=by rw [cmpVn_nlt];omega
 trans x y z h1 h2:=by rw [cmpVn_lt] at *;omega
 ntrans x y z h1 h2:=by rw [cmpVn_nlt] at *;omega
def sortV (l:List Vn):List Vn:=sortL cmpVn l
theorem sortV_perm (l:List Vn):(sortV l).Perm l:=(sortL_spec cmpVn_swo l).1
theorem keepV_nodup:∀ (l:List Vn) (p:Vn),(p :: l).Pairwise (fun x y=>ltOf cmpVn y x = false) → ((keepV p l).length = l.length ↔ (p :: l).Nodup):=by
 intro l
 induction l with
 | nil=>intro p _;simp [keepV]
 | cons x l ih=>
   intro p h
   have h2:=ih x h.of_cons
   unfold keepV
   by_cases e:x = p
   · rw [if_pos e]
     have:=keepV_len x l
     constructor
     · intro q;simp only [List.length_cons] at q;omega
     · intro q;exact absurd (by rw [e];exact List.mem_cons_self) (List.nodup_cons.1 q).1
   · rw [if_neg e,List.length_cons,List.length_cons,List.nodup_cons,← h2]
     constructor
     · intro q
       refine ⟨fun hm=>?_,by omega⟩
       rcases List.mem_cons.1 hm with hm|hm
       · exact e hm.symm
       · have a:=(List.pairwise_cons.1 h).1 x List.mem_cons_self
         have b:=(List.pairwise_cons.1 h.of_cons).1 p hm
         rw [cmpVn_nlt] at a b
         exact e (Prod.ext (by omega) (by omega))
     · intro q;omega
theorem compV_nodup (l:List Vn):(compV (sortV l)).length = l.length ↔ l.Nodup:=by
 obtain ⟨h1,h2⟩:=sortL_spec cmpVn_swo l
 have h1:(sortV l).Perm l:=h1
 have h2:(sortV l).Pairwise (fun x y=>ltOf cmpVn y x = false):=h2
 rw [← h1.nodup_iff,← h1.length_eq]
 generalize sortV l = L at *
 cases L with
 | nil=>simp [compV]
 | cons p L=>rw [← keepV_nodup L p h2];simp [compV]
section
def so_ver_ren:Go.Shelf.Ren:=⟨fun|6=>173|14=>191|15=>187|20=>213|21=>214|22=>215|23=>216|24=>217|25=>218|26=>219|27=>220|28=>201|29=>202|46=>231|47=>223|48=>224|49=>232|50=>233|57=>244|n=>n,fun|0=>0|3=>3|4=>4|5=>5|9=>9|22=>172|24=>68|25=>205|39=>215|45=>222|46=>223|50=>227|53=>230|55=>232|66=>246|70=>250|76=>257|77=>258|n=>n,fun n=>n⟩
theorem so_ver:SlLaysF0.n6 Tryz.prog so_ver_ren:={ mixed:=by kernel_rfl,f6:=⟨Tryz.f173.name,by decide,Tryz.func173.trans (congrArg some (by kernel_rfl))⟩,f14:=⟨Tryz.f191.name,by decide,Tryz.func191.trans (congrArg some (by kernel_rfl))⟩,f15:=Tryz.func187.trans (congrArg some (by kernel_rfl)),f20:=⟨Tryz.f213.name,by decide,Tryz.func213.trans (congrArg some (by kernel_rfl))⟩,f21:=⟨Tryz.f214.name,by decide,Tryz.func214.trans (congrArg some (by kernel_rfl))⟩,f22:=⟨Tryz.f215.name,by decide,Tryz.func215.trans (congrArg some (by kernel_rfl))⟩,f23:=⟨Tryz.f216.name,by decide,Tryz.func216.trans (congrArg some (by kernel_rfl))⟩,f24:=⟨Tryz.f217.name,by decide,Tryz.func217.trans (congrArg some (by kernel_rfl))⟩,f25:=⟨Tryz.f218.name,by decide,Tryz.func218.trans (congrArg some (by kernel_rfl))⟩,f26:=⟨Tryz.f219.name,by decide,Tryz.func219.trans (congrArg some (by kernel_rfl))⟩,f27:=⟨Tryz.f220.name,by decide,Tryz.func220.trans (congrArg some (by kernel_rfl))⟩,f28:=Tryz.func201.trans (congrArg some (by kernel_rfl)),f29:=Tryz.func202.trans (congrArg some (by kernel_rfl)),f46:=⟨Tryz.f231.name,by decide,Tryz.func231.trans (congrArg some (by kernel_rfl))⟩,f47:=Tryz.func223.trans (congrArg some (by kernel_rfl)),f48:=Tryz.func224.trans (congrArg some (by kernel_rfl)),f49:=⟨Tryz.f232.name,by decide,Tryz.func232.trans (congrArg some (by kernel_rfl))⟩,f50:=⟨Tryz.f233.name,by decide,Tryz.func233.trans (congrArg some (by kernel_rfl))⟩,f57:=⟨Tryz.f244.name,by decide,Tryz.func244.trans (congrArg some (by kernel_rfl))⟩,t0:=Tryz.underlying0,a0:=Tryz.isAgg0,z0:=Tryz.sizeOf0,v0:=Tryz.zeroValue0,t3:=Tryz.underlying3,a3:=Tryz.isAgg3,z3:=Tryz.sizeOf3,v3:=Tryz.zeroValue3,t4:=Tryz.underlying4,a4:=Tryz.isAgg4,z4:=Tryz.sizeOf4,v4:=Tryz.zeroValue4,t5:=Tryz.underlying5,a5:=Tryz.isAgg5,z5:=Tryz.sizeOf5,v5:=Tryz.zeroValue5,t9:=Tryz.underlying9,a9:=Tryz.isAgg9,z9:=Tryz.sizeOf9,v9:=Tryz.zeroValue9,t22:=Tryz.underlying172,a22:=Tryz.isAgg172,z22:=Tryz.sizeOf172,v22:=Tryz.zeroValue172,t25:=Tryz.underlying205,a25:=Tryz.isAgg205,z25:=Tryz.sizeOf205,v25:=Tryz.zeroValue205,t39:=Tryz.underlying215,a39:=Tryz.isAgg215,z39:=Tryz.sizeOf215,v39:=Tryz.zeroValue215,t45:=Tryz.underlying222,a45:=Tryz.isAgg222,z45:=Tryz.sizeOf222,v45:=Tryz.zeroValue222,t46:=Tryz.underlying223,a46:=Tryz.isAgg223,z46:=Tryz.sizeOf223,v46:=Tryz.zeroValue223,t50:=Tryz.underlying227,a50:=Tryz.isAgg227,z50:=Tryz.sizeOf227,v50:=Tryz.zeroValue227,t53:=Tryz.underlying230,a53:=Tryz.isAgg230,z53:=Tryz.sizeOf230,v53:=Tryz.zeroValue230,t55:=Tryz.underlying232,a55:=Tryz.isAgg232,z55:=Tryz.sizeOf232,v55:=Tryz.zeroValue232,t66:=Tryz.underlying246,a66:=Tryz.isAgg246,z66:=Tryz.sizeOf246,v66:=Tryz.zeroValue246,t70:=Tryz.underlying250,a70:=Tryz.isAgg250,z70:=Tryz.sizeOf250,v70:=Tryz.zeroValue250,t76:=Tryz.underlying257,a76:=Tryz.isAgg257,z76:=Tryz.sizeOf257,v76:=Tryz.zeroValue257,t77:=Tryz.underlying258,a77:=Tryz.isAgg258,z77:=Tryz.sizeOf258,v77:=Tryz.zeroValue258 }
theorem ver_CmpG (x y:Vn) (w:World) :
   Calls Tryz.prog 174 #[.agg #[.int .i64 x.1,.int .i64 x.2],.agg #[.int .i64 y.1,.int .i64 y.2]] w fun e w'=>e = .returned (.int .i64 (cmpVn x y)) ∧ Gw w w':=by
 unfold cmpVn cmpV
 go_enter Tryz.func174,Tryz.ntmps174
 go_wp2
 all_goals (go_ret;exact ⟨rfl,((Gw.refl w).alloc _).alloc _⟩)
abbrev vnsB (l:List Vn):Cnt:=.bor 2 (l.map vnP)
theorem sort_ver (l:List Vn) (hl:l.length ≤ 1000000000) :
   FnM Tryz.prog 173 [.row 1000 0,.per (rawP (.func (.func 174) #[] #[]))] [(1000,.row 68 2 (l.map vnP))] .any [(1000,.row 68 2 ((sortV l).map vnP))]:=
 fnm_sortK (e:=68) (k:=2) (G:=174) so_ver Tryz.isAgg68 Tryz.sizeOf68 (enc:=fun x:Vn=>[.int .i64 x.1,.int .i64 x.2]) ⟨by decide,fun _=>rfl,fun x v hv=>by simp at hv;rcases hv with rfl|rfl <;> rfl⟩ cmpVn_swo (enters_of Tryz.func174 (by kernel_rfl) rfl)
   (fun x y w=>ver_CmpG x y w) (ent_of Tryz.func173 (by kernel_rfl) (by kernel_rfl)) l (by omega)
end
section
theorem ver_Sorted (l:List Vn) (hl:l.length ≤ 1000000000):Fn Tryz.prog 126 [vnsB l] (.own 68 2 ((compV (sortV (l.filter vnR))).map vnP)):=by
 generalize hT:l.filter vnR = T at *
 have hTl:T.length ≤ 1000000000:=by rw [← hT];exact Nat.le_trans (List.length_filter_le _ _) hl
 have hs:=sort_ver T hTl
 have hc1:=comp_ver (sortV T) (by rw [(sortV_perm T).length_eq];exact hTl)
 generalize compV (sortV T) = R at *
 generalize sortV T = Q at *
 refine fi Tryz.func126 Tryz.ntmps126 ?_
 (refine w0e ?_;(repeat' first|refine W2.mk ?_ ?_|refine W1.mk fun hc=>?_))
 refine AW_le (Le_nil 3 600 68 2 rfl rfl) ?_
 refine AW_loopP (X:=Nat × List Vn) (fun x=>x.1 ≤ l.length ∧ x.2 ++ (l.drop x.1).filter vnR = T)
   (fun x=>mkSt [(3,.row 600 0),(6,vnsB l),(7,iC .i64 (l.length:Nat)),(8,iC .i64 (x.1:Nat))] [(600,.row 68 2 (x.2.map vnP))]) (fun x=>l.length - x.1) (0,[]) ⟨Nat.zero_le _,by simp [hT]⟩ ?_ ?_
 · exact le_auto
 · rintro ⟨k,ac⟩ ⟨g1,g2⟩
   simp only at g1 g2 ⊢
   by_cases hk:k < l.length
   · have hir:=ver_Right l[k].1 l[k].2
     have hlen:ac.length ≤ 1000000000:=by
       have:=congrArg List.length g2
       simp only [List.length_append] at this;omega
     rw [List.drop_eq_getElem_cons hk,List.filter_cons] at g2
     cases hr:vnR l[k] with
     | false=>
       rw [show verR l[k].1 l[k].2 = false from hr] at hir
       rw [hr] at g2
       clear hs hc1
       (have kc1:=hir;refine w0e ?_;(repeat' first|refine W2.mk ?_ ?_|refine W1.mk fun hc=>?_);all_goals clear kc1)
       refine ⟨(k + 1,ac),⟨by simp only;omega,by simpa using g2⟩,by simp only;omega,?_⟩
       exact le_auto
     | true=>
       rw [show verR l[k].1 l[k].2 = true from hr] at hir
       rw [hr] at g2
       clear hs hc1
       (have kc1:=hir;refine w0e ?_;(repeat' first|refine W2.mk ?_ ?_|refine W1.mk fun hc=>?_);all_goals clear kc1)
       refine ⟨(k + 1,ac ++ [l[k]]),⟨by simp only;omega,by simpa using g2⟩,by simp only;omega,Le_trans (Le_mv 600 601) (Le_trans (Le_mv 601 600) ?_)⟩
       exact le_auto
   · have hkl:k = l.length:=by omega
     subst hkl
     rw [List.drop_length] at g2
     simp at g2
     subst g2
     (have km1:=(show FnMs [(1000,600)] _ _ _ _ _ _ from hs);have km2:=(show FnMs [(2000,600),(3000,700)] _ _ _ _ _ _ from hc1);refine w0e ?_;(repeat' first|refine W2.mk ?_ ?_|refine W1.mk fun hc=>?_);all_goals clear km2 km1)
     refine rt1 ?_
     exact rv_own rfl rfl rfl
theorem st_apart (l:List It) (hr:l.all itR = true) (hl:l.length ≤ 1000000):Fn Tryz.prog 78 [itsB l] (boR (apartB l)):=by
 have hs:=ver_Sorted (l.map verOf) (by rw [List.length_map];omega)
 have hf:(l.map verOf).filter vnR = l.map verOf:=by
   rw [List.filter_eq_self]
   intro v hv
   obtain ⟨x,hx,rfl⟩:=List.mem_map.1 hv
   have:=List.all_eq_true.1 hr x hx
   unfold itR at this
   simp only [Bool.and_eq_true] at this
   exact this.1.2
 rw [hf] at hs
 have hb:apartB l = decide (((compV (sortV (l.map verOf))).length:Int) = (l.length:Nat)):=by
   unfold apartB
   rw [Bool.eq_iff_iff,decide_eq_true_eq,decide_eq_true_eq,← compV_nodup,List.length_map]
   omega
 rw [hb]
 clear hf hr hb
 generalize compV (sortV (l.map verOf)) = R at *
 refine fi Tryz.func78 Tryz.ntmps78 ?_
 (refine w0e ?_;(repeat' first|refine W2.mk ?_ ?_|refine W1.mk fun hc=>?_))
 refine AW_le (Le_nil 3 600 68 2 rfl rfl) ?_
 refine AW_loopP (X:=Nat) (fun k=>k ≤ l.length)
   (fun k=>mkSt [(0,itsB l),(3,.row 600 0),(6,itsB l),(7,iC .i64 (l.length:Nat)),(8,iC .i64 (k:Nat))] [(600,.row 68 2 (((l.take k).map verOf).map vnP))]) (fun k=>l.length - k) 0 (Nat.zero_le _) ?_ ?_
 · exact le_auto
 · intro k hk
   by_cases hlt:k < l.length
   · have hsn:(l.take (k + 1)).map verOf = (l.take k).map verOf ++ [(l[k].rep,l[k].cnt)]:=by rw [take_snoc' l k hlt,List.map_append];rfl
     have hln:((l.take k).map verOf).length ≤ 1000000:=by simp;omega
     clear hs
     generalize (l.take k).map verOf = A at *
     (refine w0e ?_;(repeat' first|refine W2.mk ?_ ?_|refine W1.mk fun hc=>?_))
     refine ⟨k + 1,hlt,by omega,Le_trans (Le_mv 600 601) (Le_trans (Le_mv 601 600) ?_)⟩
     rw [hsn]
     exact le_auto
   · rw [List.take_of_length_le (by omega)]
     (have kc1:=hs;refine w0e ?_;(repeat' first|refine W2.mk ?_ ?_|refine W1.mk fun hc=>?_);all_goals clear kc1)
     refine rt1 ?_
     exact rv_bool rfl rfl
end
end Go.Proofs.YtfcpkegmdlchhaaGreat
