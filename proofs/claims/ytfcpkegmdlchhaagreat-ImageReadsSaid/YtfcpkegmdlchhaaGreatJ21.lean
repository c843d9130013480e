/- Texts joined: Cnt Swp CntS FtM VsE SoP Span. -/
import Derived.Test.YtfcpkegmdlchhaaGreatJ20
import Derived.Test.YtfcpkegmdlchhaaGreatJ14
import Derived.Test.YtfcpkegmdlchhaaGreatJ06
import Derived.Test.YtfcpkegmdlchhaaGreatJ13
import Derived.Shelf.Slices.CompactS
import Derived.Test.YtfcpkegmdlchhaaGreatJ09
set_option maxRecDepth 10000
set_option maxHeartbeats 8000000
namespace Go.Proofs.YtfcpkegmdlchhaaGreat
open Go.RowKit
theorem set_at2 {α:Type} (A:List α) (x y:α) (T:List α) (j:Nat) (hj:j = A.length):(A ++ x :: T).set j y = A ++ y :: T:=by
 subst hj;simp
theorem snoc_c2 {α:Type} (l:List α):l = [] ∨ ∃ (l':List α) (y:α),l = l' ++ [y]:=by
 rcases List.eq_nil_or_concat l with h|⟨a,y,h⟩
 · exact .inl h
 · exact .inr ⟨a,y,by rw [h];simp⟩
theorem map_set2 {α β:Type} (f:α → β) (l:List α) (j:Nat) (y:α):(l.map f).set j (f y) = (l.set j y).map f:=by rw [List.map_set]
section
variable {P:Program} {n t:Nat} {ops:Array Oper} {o:Oper} {S:St}
theorem op_maxZ {ty ty':TypeId} {x y:Operand} {k:IntKind} {u v z:Int} (hp:Pl n o t) (ho:o.op = .call { callee:=.builtin .max,args:=#[x,y],argTypes:=#[ty,ty'] }) (hx:S.opd x = iC k u) (hy:S.opd y = iC k v) (hz:(if v > u then v else u) = z):OpOk n P ops o (opdN x ++ opdN y) (iC k z) [] S:=
 hz ▸ op_max hp ho hx hy
end
abbrev ownRn (l:List Rn):Ret:=.own 134 2 (l.map rnP)
abbrev rnsW (l:List Rn):Blk:=.row 134 2 (l.map rnP)
section
theorem cnt_Of (l:List Rn) (hl:l.length ≤ 1000000000):Fn Tryz.prog 189 [rnsB l] (ownRn (ofR l)):=by
 by_cases hok:rnsOk l
 · rw [ofR_id hok]
   exact cnt_Of_ok l hl hok
 have h0:=cnt_Right l hl false (by simp [hok])
 generalize hT:l.filter rnR = T at *
 have hTr:∀ x ∈ T,rnR x = true:=fun x hx=>by rw [← hT] at hx;exact (List.mem_filter.1 hx).2
 have hTl:T.length ≤ 1000000000:=by rw [← hT];exact Nat.le_trans (List.length_filter_le _ _) hl
 have hs:=sort_run T hTr hTl
 obtain ⟨hp,hsr⟩:=sortRn_spec hTr
 have hR:=ofR_sorted (l:=l) hsr (fun r=>by rw [hp.mem_iff,hT])
 have hQr:∀ x ∈ sortRn T,rnR x = true:=fun x hx=>hTr x (hp.mem_iff.1 hx)
 have hQl:(sortRn T).length = T.length:=hp.length_eq
 rw [← hR]
 generalize sortRn T = Q at *
 generalize hRR:mergeR Q = R
 clear hR hp hsr hok
 refine fi Tryz.func189 Tryz.ntmps189 ?_
 (have kc1:=h0;refine w0 ?_;(repeat' first|refine W2.mk ?_ ?_|refine W1.mk fun hc=>?_);all_goals clear kc1)
 refine AW_le (Le_nil 3 600 134 2 rfl rfl) ?_
 refine AW_loopP (X:=Nat × List Rn) (fun x=>x.1 ≤ l.length ∧ x.2 ++ (l.drop x.1).filter rnR = T)
   (fun x=>mkSt [(3,.row 600 0),(14,rnsB l),(15,iC .i64 (l.length:Nat)),(16,iC .i64 (x.1:Nat))] [(600,rnsW x.2)]) (fun x=>l.length - x.1) (0,[]) ⟨Nat.zero_le _,by simp [hT]⟩ ?_ ?_
 · exact le_auto
 · rintro ⟨k,ac⟩ ⟨g1,g2⟩
   simp only at g1 g2 ⊢
   by_cases hk:k < l.length
   · have hir:=cnt_one l[k]
     have hlen:ac.length ≤ 1000000000:=by
       have:=congrArg List.length g2
       simp only [List.length_append] at this;omega
     rw [List.drop_eq_getElem_cons hk,List.filter_cons] at g2
     cases hr:rnR l[k] with
     | false=>
       rw [hr] at hir g2
       clear hTr hQr hs
       (have kc1:=hir;refine w0 ?_;(repeat' first|refine W2.mk ?_ ?_|refine W1.mk fun hc=>?_);all_goals clear kc1)
       refine ⟨(k + 1,ac),⟨by simp only;omega,by simpa using g2⟩,by simp only;omega,?_⟩
       exact le_auto
     | true=>
       rw [hr] at hir g2
       clear hTr hQr hs
       (have kc1:=hir;refine w0 ?_;(repeat' first|refine W2.mk ?_ ?_|refine W1.mk fun hc=>?_);all_goals clear kc1)
       refine ⟨(k + 1,ac ++ [l[k]]),⟨by simp only;omega,by simpa using g2⟩,by simp only;omega,Le_trans (Le_mv 600 601) (Le_trans (Le_mv 601 600) ?_)⟩
       exact le_auto
   · have hkl:k = l.length:=by omega
     subst hkl
     rw [List.drop_length] at g2
     simp at g2
     subst g2
     (have km1:=(show FnMs [(1000,600)] _ _ _ _ _ _ from hs);refine w0 ?_;(repeat' first|refine W2.mk ?_ ?_|refine W1.mk fun hc=>?_);all_goals clear km1)
     clear hs hTr hT
     refine AW_le (Le_nil 6 700 134 2 rfl rfl) ?_
     refine AW_loopP (X:=Nat × List Rn) (fun x=>x.1 ≤ Q.length ∧ x.2.length ≤ x.1 ∧ ((x.2 = [] ∧ x.1 = 0) ∨ ∃ o y,x.2 = o ++ [y] ∧ rnR y = true ∧ o ++ mgC y (Q.drop x.1) = R))
       (fun x=>mkSt [(6,.row 700 0),(29,.row 600 0),(30,iC .i64 (Q.length:Nat)),(31,iC .i64 (x.1:Nat))] [(600,rnsW Q),(700,rnsW x.2)]) (fun x=>Q.length - x.1) (0,[]) ⟨Nat.zero_le _,Nat.le_refl _,.inl ⟨rfl,rfl⟩⟩ ?_ ?_
     · exact le_auto
     · rintro ⟨k,out⟩ ⟨g1,g0,g2⟩
       simp only at g1 g0 g2 ⊢
       by_cases hk:k < Q.length
       · have hxr:=hQr _ (List.getElem_mem hk)
         have hdr:=List.drop_eq_getElem_cons hk
         generalize hx:Q[k] = x at *
         have HQ:(Q.map rnP)[k]? = some (rnP x):=by rw [List.getElem?_map,List.getElem?_eq_getElem hk,hx];rfl
         have hxi:=(rnR_iff x).1 hxr
         clear hQr
         rcases g2 with ⟨rfl,rfl⟩|⟨o,y,rfl,hyr,g2⟩
         · have g4:[] ++ mgC x (Q.drop 1) = R:=by
             rw [List.drop_zero] at hdr
             rw [← hRR,hdr];rfl
           (refine w0 ?_;(repeat' (first|refine W2.mk ?_ ?_|refine W1.mk fun hc=>?_|((first|apply AL_t rfl|apply AL_0 rfl|apply AD_t rfl|apply AD_0 rfl);(focus (first|((apply u_k 5;(focus rfl);exact u_load_rA ⟨rfl,rfl,rfl⟩ rfl inferInstance inferInstance rfl rfl rfl HQ rfl rfl rfl))|(apply u_g;(focus rfl);apply op_gyes rfl rfl rfl rfl rfl;first|((apply u_k 5;(focus rfl);exact u_load_rA ⟨rfl,rfl,rfl⟩ rfl inferInstance inferInstance rfl rfl rfl HQ rfl rfl rfl)))));refine w0 ?_))))
           refine ⟨(1,[x]),⟨by simp only;omega,Nat.le_refl _,.inr ⟨[],x,rfl,hxr,g4⟩⟩,by simp only;omega,Le_trans (Le_mv 700 701) (Le_trans (Le_mv 701 700) ?_)⟩
           exact le_auto
         · have hyi:=(rnR_iff y).1 hyr
           rw [hdr,mgC] at g2
           have hL1:(o ++ [y]).length = o.length + 1:=by simp
           have hM:(if x.to > y.to then x.to else y.to) = max y.to x.to:=by omega
           have hmr:rnR ⟨y.fr,max y.to x.to⟩ = true:=(rnR_iff _).2 (by simp only;omega)
           generalize max y.to x.to = M at *
           generalize hL:o ++ [y] = L at *
           have hLi:((L.length:Int) - 1).toNat = o.length:=by omega
           have HY:(L.map rnP)[((L.length:Int) - 1).toNat]? = some (rnP y):=by
             rw [List.getElem?_map,hLi,← hL]
             simp
           have HS1:(L.map rnP).set ((L.length:Int) - 1).toNat (setP (rnP y) 1 [rawP (.int .i64 M)]) = (o ++ [(⟨y.fr,M⟩:Rn)]).map rnP:=by
             rw [show (L.map rnP).set ((L.length:Int) - 1).toNat (setP (rnP y) 1 [rawP (.int .i64 M)]) = (L.set ((L.length:Int) - 1).toNat ⟨y.fr,M⟩).map rnP from map_set2 rnP L _ (⟨y.fr,M⟩:Rn),← hL,set_at2 o y _ [] _ (by rw [hL];omega)]
           have hML:(o ++ [(⟨y.fr,M⟩:Rn)]).length = L.length:=by rw [← hL];simp
           by_cases c:x.fr - y.to < 2
           · rw [if_pos c] at g2
             (repeat' (first|refine AW_seq ?_|refine AW_block ?_|refine AW_skip ?_|refine AW_exit ?_|refine AW_ret ?_|refine AW_region ?_|refine AW_draw mixed0 ?_|refine AL_nil ?_|refine AD_nil (by kernel_rfl) ?_|(refine AW_cl rfl rfl ⟨fun hc=>?_,fun hc=>?_⟩ <;> (repeat rw [List.length_map] at hc) <;> (try exact absd hc))|((first|apply AL_t rfl|apply AL_0 rfl|apply AD_t rfl|apply AD_0 rfl);focus (first|((apply u_k 19;(focus rfl);exact op_maxZ ⟨rfl,rfl,rfl⟩ rfl rfl rfl hM))|(apply u_g;(focus rfl);apply op_gyes rfl rfl rfl rfl rfl;((apply u_k 19;(focus rfl);exact op_maxZ ⟨rfl,rfl,rfl⟩ rfl rfl rfl hM)))|exact z_auto|((apply u_k 5;(focus rfl);first|exact u_load_r1 ⟨rfl,rfl,rfl⟩ rfl inferInstance rfl rfl rfl HY rfl|exact u_load_rA ⟨rfl,rfl,rfl⟩ rfl inferInstance inferInstance rfl rfl rfl HQ rfl rfl rfl))|(apply u_g;(focus rfl);apply op_gyes rfl rfl rfl rfl rfl;((apply u_k 5;(focus rfl);first|exact u_load_r1 ⟨rfl,rfl,rfl⟩ rfl inferInstance rfl rfl rfl HY rfl|exact u_load_rA ⟨rfl,rfl,rfl⟩ rfl inferInstance inferInstance rfl rfl rfl HQ rfl rfl rfl)))|((apply u_k 6;(focus rfl);exact u_store_r ⟨rfl,rfl⟩ rfl inferInstance rfl rfl rfl rfl HY rfl (part_raw rfl rfl rfl) rfl HS1))|(apply u_g;(focus rfl);apply op_gyes rfl rfl rfl rfl rfl;((apply u_k 6;(focus rfl);exact u_store_r ⟨rfl,rfl⟩ rfl inferInstance rfl rfl rfl rfl HY rfl (part_raw rfl rfl rfl) rfl HS1)))|fail))|refine thenA_n ?_|refine thenA_r ?_|refine thenA_e ?_|refine inB_n ?_|refine inB_r ?_|refine inB_hit ?_|refine inB_miss rfl ?_|((first|refine AL_cl rfl rfl rfl ⟨fun hc=>?_,fun hc=>?_⟩|refine AD_cl rfl rfl rfl ⟨fun hc=>?_,fun hc=>?_⟩) <;> (fail_if_success (have q:(true = true):=hc)) <;> (fail_if_success (have q:(false = false):=hc)) <;> (repeat rw [List.length_map] at hc) <;> (try exact absd hc))|refine AW_cond_nil rfl rfl (fun hc=>?_) ?_))
             refine ⟨(k + 1,_),⟨by simp only;omega,by simp only;omega,.inr ⟨o,_,rfl,hmr,g2⟩⟩,by simp only;omega,?_⟩
             exact le_auto
           · rw [if_neg c] at g2
             (refine w0 ?_;(repeat' (first|refine W2.mk ?_ ?_|refine W1.mk fun hc=>?_|((first|apply AL_t rfl|apply AL_0 rfl|apply AD_t rfl|apply AD_0 rfl);(focus (first|((apply u_k 5;(focus rfl);first|exact u_load_r1 ⟨rfl,rfl,rfl⟩ rfl inferInstance rfl rfl rfl HY rfl|exact u_load_rA ⟨rfl,rfl,rfl⟩ rfl inferInstance inferInstance rfl rfl rfl HQ rfl rfl rfl))|(apply u_g;(focus rfl);apply op_gyes rfl rfl rfl rfl rfl;first|((apply u_k 5;(focus rfl);first|exact u_load_r1 ⟨rfl,rfl,rfl⟩ rfl inferInstance rfl rfl rfl HY rfl|exact u_load_rA ⟨rfl,rfl,rfl⟩ rfl inferInstance inferInstance rfl rfl rfl HQ rfl rfl rfl)))));refine w0 ?_))))
             refine ⟨(k + 1,L ++ [x]),⟨by simp only;omega,by simp;omega,.inr ⟨L,x,rfl,hxr,by simp only;rw [← hL,List.append_assoc];exact g2⟩⟩,by simp only;omega,Le_trans (Le_mv 700 701) (Le_trans (Le_mv 701 700) ?_)⟩
             exact le_auto
       · have hkl:k = Q.length:=by omega
         subst hkl
         have g3:out = R:=by
           rcases g2 with ⟨a,b⟩|⟨o,y,a,_,b⟩
           · rw [a,← hRR,List.eq_nil_of_length_eq_zero b];rfl
           · rw [List.drop_length] at b
             rw [a,← b];rfl
         clear g2 hRR hQr
         (refine w0 ?_;(repeat' first|refine W2.mk ?_ ?_|refine W1.mk fun hc=>?_))
         refine rt1 ?_
         exact rv_ownM rfl rfl rfl g3
end
end Go.Proofs.YtfcpkegmdlchhaaGreat
namespace Go.Proofs.YtfcpkegmdlchhaaGreat
/-- where a sweep stands in a list -/
structure SwP (l:List Rn) (a:Int) (i:Nat):Prop where
 le:i ≤ l.length
 lo:∀ j (h:j < l.length),j < i → l[j].to < a
 hi:∀ j (h:j < l.length),i ≤ j → a ≤ l[j].to
def cnS (l:List Rn) (i:Nat) (a:Int):Nat:=2 * i + (if h:i < l.length then (if l[i].fr ≤ a then 1 else 0) else 0)
section
variable {l:List Rn} {a e:Int} {i:Nat}
theorem cnS_le (h:i ≤ l.length):cnS l i a ≤ 2 * l.length:=by
 unfold cnS;split
 · split <;> omega
 · omega
end
/-- a sweep through two lists: what has been said so far -/
structure Swp (keep:Bool → Bool → Bool) (A B:List Rn) (a:Int) (i k:Nat) (out:List Rn):Prop where
 pos:1 ≤ a
 p:SwP A a i
 q:SwP B a k
 right:∀ r ∈ out,rnR r = true
 has:∀ n,hasR out n ↔ n < a ∧ byR keep A B n = true
 few:out.length ≤ cnS A i a + cnS B k a
theorem Swp.done {keep:Bool → Bool → Bool} (hk:keep false false = false) {A B:List Rn} {a:Int} {i k:Nat} {out:List Rn} (s:Swp keep A B a i k out) (h:¬ a ≤ 1099511627776 ∨ ¬ i < A.length ∧ ¬ k < B.length) :
   ofR out = opR (byR keep A B) A B:=by
 refine (opR_eq hk (ofR_ok out) (fun n=>?_)).symm
 rw [ofR_has,s.has n]
 refine ⟨fun q=>q.2,fun q=>⟨?_,q⟩⟩
 refine Classical.byContradiction fun z=>?_
 have no:∀ {l:List Rn} {i:Nat},SwP l a i → (¬ a ≤ 1099511627776 ∨ ¬ i < l.length) → hasRb l n = false:=fun {l i} p h=>by
   rw [← Bool.not_eq_true,hasRb_iff]
   intro w
   have w':=hasR_pos w
   obtain ⟨r,hr,_,w1⟩:=w
   obtain ⟨j,hj,rfl⟩:=List.getElem_of_mem hr
   rcases h with h|h
   · omega
   · have:=p.lo j hj (by omega);omega
 rw [byR,no s.p (h.imp id (·.1)),no s.q (h.imp id (·.2)),hk] at q
 cases q
theorem Swp.len {keep:Bool → Bool → Bool} {A B:List Rn} {a:Int} {i k:Nat} {out:List Rn} (s:Swp keep A B a i k out):out.length ≤ 2 * (A.length + B.length):=by
 have h1:=s.few
 have h2:=cnS_le (a:=a) s.p.le
 have h3:=cnS_le (a:=a) s.q.le
 omega
section
variable {P:Program} {n t:Nat} {ops:Array Oper} {o:Oper} {S:St}
end
section
end
def isPl:Cnt → Bool
 | .per _=>true
 | .bor _ _=>true
 | _=>false
theorem crep_low {C:Ctx} {w:World} {c:Cnt} (hc:isPl c = true) {v:Value} (h:crep C z0 C.G0 w v c):crep ⟨w,fun b=>C.N0 b ∨ C.G0.ow b ≠ none,fun _=>False,g0⟩ (fun _=>0) g0 w v c:=by
 have hn:∀ b,b < w.heap.size → Gh.N g0 ⟨w,fun b=>C.N0 b ∨ C.G0.ow b ≠ none,fun _=>False,g0⟩ b → C.G0.N C b:=fun b _ q=>by
   rcases q with q|q
   · exact q
   · exact absurd rfl q
 cases c with
 | per A=>exact A.mono (Nat.le_refl _) (fun _ _ _=>rfl) hn h
 | bor k es=>exact lstAt.mono (Nat.le_refl _) (fun _ _ _=>rfl) (fun _ _ _=>rfl) (fun b _ q=>absurd rfl q) hn h
 | _=>cases hc
theorem Fn.toM {P:Program} {f:FuncId} {As:List Cnt} {A:PV} (h:Fn P f As (.per A)) (hA:As.all isPl = true:=by rfl):FnM P f As [] (.per A) []:=by
 refine ⟨h.ent,?_⟩
 intro C w vs _ hN hO hl hvs _
 refine (h.run (fun b=>C.N0 b ∨ C.G0.ow b ≠ none) w vs (fun b q=>?_) ⟨hl,fun i v c h1 h2=>crep_low (List.all_eq_true.1 hA c (List.mem_of_getElem? h2)) (hvs i v c h1 h2)⟩).mono ?_
 · rcases q with q|q
   · exact (hN b q).1
   · obtain ⟨id,e⟩:=Option.ne_none_iff_exists'.1 q
     exact (hO b id e).1
 · rintro e w' ⟨v,rfl,hx,hr⟩
   refine ⟨v,C.G0,rfl,⟨hx.os,hx.tape,hx.output,hx.size,fun b hb _=>hx.block b hb,fun b id q=>⟨Nat.lt_of_lt_of_le (hO b id q).1 hx.size,.inr (hO b id q).2⟩,fun _ _=>⟨rfl,rfl⟩⟩,?_,fun id=>trivial⟩
   exact hr
abbrev ownKn (l:List Kn):Ret:=.own 132 2 (l.map knP)
theorem tabOf_lens (s:List Kn) (hs:knsTot s):∀ l ∈ tabOf s,l.length ≤ 1000000000:=fun l hl=>by
 obtain ⟨r,_,rfl⟩:=List.mem_map.1 hl
 have:=tabAt_len s r
 have:=hs.2
 omega
section
theorem vset_Of (s:List Kn) (hs:knsTot s):Fn Tryz.prog 161 [knsB s] (ownKn (vsOf ofR s)):=
 vs_Of ofR s hs (fun l hl=>cnt_Of l (tabOf_lens s hs l hl))
def knsMid (s:List Kn):Prop:=s.length ≤ 100000000 ∧ (s.flatMap Kn.runs).length ≤ 100000000
theorem knsMid.tot {s:List Kn} (h:knsMid s):knsTot s:=⟨by have:=h.1;omega,by have:=h.2;omega⟩
end
end Go.Proofs.YtfcpkegmdlchhaaGreat
namespace Go.Proofs.YtfcpkegmdlchhaaGreat
open Go.RowKit Go.Shelf
abbrev ofLB (l:List UInt8):ByteArray:=⟨l.toArray⟩
abbrev toLB (s:ByteArray):List UInt8:=s.data.toList
theorem ofLB_to (s:ByteArray):ofLB (toLB s) = s:=by cases s;rfl
def compB (l:List ByteArray):List ByteArray:=(Lib.compact (l.map toLB)).map ofLB
section
variable {d:Array (List UInt8)}
theorem cmp_mem:∀ (m:Nat) (x:List UInt8),x ∈ Lib.compactUpTo d m ↔ ∃ j,j < m ∧ d[j]! = x:=by
 intro m
 induction m with
 | zero=>intro x;simp [Lib.compactUpTo]
 | succ m ih=>
   intro x
   rw [Lib.compactUpTo_succ,List.mem_append,ih]
   by_cases k:Lib.keeps d m = true
   · rw [if_pos k]
     constructor
     · rintro (⟨j,h1,h2⟩|h)
       · exact ⟨j,by omega,h2⟩
       · exact ⟨m,by omega,by simpa using Eq.symm (List.mem_singleton.1 h)⟩
     · rintro ⟨j,h1,h2⟩
       rcases Nat.lt_or_ge j m with q|q
       · exact .inl ⟨j,q,h2⟩
       · obtain rfl:j = m:=by omega
         exact .inr (by rw [h2];exact List.mem_singleton.2 rfl)
   · rw [if_neg k]
     constructor
     · rintro (⟨j,h1,h2⟩|h)
       · exact ⟨j,by omega,h2⟩
       · cases h
     · rintro ⟨j,h1,h2⟩
       rcases Nat.lt_or_ge j m with q|q
       · exact .inl ⟨j,q,h2⟩
       · obtain rfl:j = m:=by omega
         have:¬ (j = 0 ∨ d[j]! ≠ d[j - 1]!):=by
           intro z;exact k (by unfold Lib.keeps;exact decide_eq_true z)
         have h3:d[j]! = d[j - 1]!:=Classical.byContradiction fun z=>this (.inr z)
         exact .inl ⟨j - 1,by omega,by rw [← h3];exact h2⟩
theorem cmp_up (h:∀ i j,i < j → j < d.size → ¬ ofLB d[j]! < ofLB d[i]!):∀ m,m ≤ d.size → ((Lib.compactUpTo d m).map ofLB).Pairwise (· < ·):=by
 intro m
 induction m with
 | zero=>intro _;simp [Lib.compactUpTo]
 | succ m ih=>
   intro hm
   have h1:=ih (by omega)
   rw [Lib.compactUpTo_succ]
   by_cases k:Lib.keeps d m = true
   · rw [if_pos k,List.map_append,List.pairwise_append]
     refine ⟨h1,by simp,fun x hx y hy=>?_⟩
     have hy:y = ofLB d[m]!:=by simpa using hy
     subst hy
     obtain ⟨z,hz,rfl⟩:=List.mem_map.1 hx
     obtain ⟨j,hj,rfl⟩:=(cmp_mem m z).1 hz
     have k':m = 0 ∨ d[m]! ≠ d[m - 1]!:=by unfold Lib.keeps at k;exact of_decide_eq_true k
     have a:=h (m - 1) m (by omega) (by omega)
     have ne:ofLB d[m]! ≠ ofLB d[m - 1]!:=fun e=>by
       rcases k' with q|q
       · omega
       · exact q (by have:=congrArg toLB e;exact this)
     rcases Nat.lt_or_ge j (m - 1) with q|q
     · have b:=h j (m - 1) q (by omega)
       grind
     · obtain rfl:j = m - 1:=by omega
       grind
   · rw [if_neg k,List.append_nil]
     exact h1
end
theorem compB_spec {l:List ByteArray} (h:l.Pairwise (fun x y=>¬ y < x)):upT (compB l) ∧ ∀ s,s ∈ compB l ↔ s ∈ l:=by
 have get:∀ i (hi:i < l.length),(l.map toLB).toArray[i]! = toLB l[i]:=fun i hi=>by
   rw [getElem!_pos _ i (by simpa using hi)];simp
 unfold compB Lib.compact
 refine ⟨cmp_up (fun i j hij hj=>?_) _ (by simp),fun s=>?_⟩
 · have hj:j < l.length:=by simpa using hj
   rw [get i (by omega),get j hj,ofLB_to,ofLB_to]
   exact List.pairwise_iff_getElem.1 h i j (by omega) hj hij
 · rw [List.mem_map]
   constructor
   · rintro ⟨x,hx,rfl⟩
     obtain ⟨j,hj,rfl⟩:=(cmp_mem _ _).1 hx
     have hj:j < l.length:=by simpa using hj
     rw [get j hj,ofLB_to]
     exact List.getElem_mem hj
   · intro hs
     obtain ⟨i,hi,rfl⟩:=List.getElem_of_mem hs
     exact ⟨toLB l[i],(cmp_mem _ _).2 ⟨i,by simpa using hi,get i hi⟩,ofLB_to _⟩
theorem compB_len (l:List ByteArray):(compB l).length ≤ l.length:=by
 unfold compB Lib.compact Lib.compactUpTo
 simp only [List.length_map]
 have:=List.length_filter_le (Lib.keeps (List.map toLB l).toArray) (List.range l.length)
 simpa using this
/-- sorted, each once -/
theorem sortC_eq {l E:List ByteArray} (h:∀ s ∈ l,s.size ≤ 1000000000000) (hu:upT E) (hm:∀ s,s ∈ E ↔ s ∈ l):compB (sortT l) = E:=by
 obtain ⟨h1,h2⟩:=sortT_spec h
 obtain ⟨h3,h4⟩:=compB_spec h2
 exact upT_uniq h3 hu (fun s=>by rw [h4,h1.mem_iff,hm])
def coCompS_ren:Go.Shelf.Ren:=⟨fun|194=>170|n=>n,fun|0=>0|3=>3|4=>4|9=>9|31=>155|n=>n,fun n=>n⟩
theorem coCompS (h:Tryz.f170 = Body.n194 coCompS_ren):Lays.n194 Tryz.prog coCompS_ren:={ mixed:=by kernel_rfl,f194:=Tryz.func170.trans (congrArg some h),t0:=Tryz.underlying0,a0:=Tryz.isAgg0,z0:=Tryz.sizeOf0,v0:=Tryz.zeroValue0,t3:=Tryz.underlying3,a3:=Tryz.isAgg3,z3:=Tryz.sizeOf3,v3:=Tryz.zeroValue3,t4:=Tryz.underlying4,a4:=Tryz.isAgg4,z4:=Tryz.sizeOf4,v4:=Tryz.zeroValue4,t9:=Tryz.underlying9,a9:=Tryz.isAgg9,z9:=Tryz.sizeOf9,v9:=Tryz.zeroValue9,t31:=Tryz.underlying155,a31:=Tryz.isAgg155,z31:=Tryz.sizeOf155,v31:=Tryz.zeroValue155 }
theorem comp_str (l:List ByteArray) (hl:l.length ≤ 1000000000) :
   FnM Tryz.prog 170 [.row 2000 0] [(2000,.row 9 1 (l.map strP))] (.row 3000 0) [(3000,.row 9 1 ((compB l).map strP))]:=by
 refine ⟨ent_of Tryz.func170 (by kernel_rfl) (by kernel_rfl),?_⟩
 intro C w vs hW hN hO hvl hvs hb
 obtain ⟨v0,rfl⟩:∃ v0,vs = [v0]:=by match vs,hvl with|[a],_=>exact ⟨a,rfl⟩
 have h0:=hvs 0 v0 _ rfl rfl
 have e0:v0 = C.G0.rh 2000:=h0.2 rfl
 subst e0
 have hrow:=hb 2000
 have L:=coCompS (by kernel_rfl)
 rcases hrow with ⟨q1,q2⟩|⟨cap,cs,q1,q2,q3,q4,q5,q6,q7⟩
 · have hl0:l = []:=by simpa using q2
   rw [q1]
   refine (Any.slices_Compact_string_empty L none 0 w).mono ?_
   rintro e' w' ⟨rfl,rfl⟩
   refine ⟨_,⟨C.G0.ow,C.G0.ph,fun i=>if i = 3000 then .slice none 0 0 else C.G0.rh i⟩,rfl,⟨rfl,rfl,rfl,Nat.le_refl _,fun _ _ _=>rfl,fun b id h=>⟨(hO b id h).1,.inr (hO b id h).2⟩,fun id hf=>⟨rfl,?_⟩⟩,⟨Nat.le_refl _,fun _=>rfl⟩,fun id=>?_⟩
   · by_cases q:id = 3000
     · subst q;cases hf
     · exact if_neg q
   · by_cases hid:id = 3000
     · subst hid
       exact .inl ⟨rfl,by rw [hl0];rfl⟩
     · rw [show lookB id [(3000,Blk.row 9 1 ((compB l).map strP))] = .none by simp [lookB,nbeq_false hid]];trivial
 · rw [List.length_map] at q1 q4
   obtain ⟨b,hb0⟩:∃ b,b = C.G0.ph 2000:=⟨_,rfl⟩
   rw [← hb0] at q1 q2 q3
   have hbl:=hO b 2000 q3
   have hH:Sort.Holds encStr w b 0 (l.map toLB).toArray:=by
     intro t ht
     have ht':t < l.length:=by simpa using ht
     obtain ⟨_,g⟩:=q7 t (strP l[t]) (by rw [List.getElem?_map,List.getElem?_eq_getElem ht'];rfl)
     obtain ⟨y,y1,_,y3⟩:=g 0 _ rfl
     have y3:y = .string l[t]:=y3
     subst y3
     rw [Nat.mul_one,Nat.add_zero] at y1
     rw [getElem!_pos _ t (by simpa using ht'),Nat.zero_add]
     refine ⟨?_,by simp [World.frozen?,q2]⟩
     have e:encStr ((l.map toLB).toArray[t]'(by simpa using ht')) = .string l[t]:=by simp [encStr]
     rw [e]
     simp [World.cell?,q2,y1]
   have:=Any.slices_Compact_string (P:=Tryz.prog) (ρ:=coCompS_ren) L b 0 cap (l.map toLB) w hH (by simp;omega) (by simpa using q4)
   rw [List.length_map] at this
   rw [q1]
   refine this.mono ?_
   have hcl:=compB_len l
   have hcE:(compB l).map toLB = Lib.compact (l.map toLB):=by
     unfold compB;rw [List.map_map];exact List.map_id' _
   have hcL:(Lib.compact (l.map toLB)).length = (compB l).length:=by rw [← hcE,List.length_map]
   rw [hcL]
   generalize Lib.compact (l.map toLB) = Z at *
   rintro e' w' ⟨rfl,n,rfl⟩
   have hblock:∀ (f:Array Value → Array Value) b',b' ≠ b → (Sort.mapBlock (Sort.ahead w n) b f).heap[b']? = w.heap[b']?:=fun f b' h'=>by
     show ((w.heap.modify b (Sort.onCells f)))[b']? = _
     rw [Array.getElem?_modify,if_neg (Ne.symm h')]
   have hthis:∀ (f:Array Value → Array Value),(Sort.mapBlock (Sort.ahead w n) b f).heap[b]? = some (.cells (f cs) 9 (0,0)):=fun f=>by
     show ((w.heap.modify b (Sort.onCells f)))[b]? = _
     rw [Array.getElem?_modify,if_pos rfl,q2]
     rfl
   have hsz:∀ (f:Array Value → Array Value),w.heap.size = (Sort.mapBlock (Sort.ahead w n) b f).heap.size:=fun f=>by
     show _ = (w.heap.modify b (Sort.onCells f)).size
     simp
   unfold Sort.putRow
   generalize hF:Sort.putCells encStr 0 (Z ++ List.replicate (l.length - (compB l).length) []).toArray = f
   refine ⟨_,⟨fun i=>if C.G0.ow i = some 2000 then some 3000 else C.G0.ow i,fun i=>if i = 3000 then b else C.G0.ph i,fun i=>if i = 3000 then .slice (some ⟨b,0,none⟩) (compB l).length cap else C.G0.rh i⟩,rfl,
     ⟨rfl,rfl,rfl,Nat.le_of_eq (hsz f),fun b' _ h'=>hblock f b' (fun e=>h' (e ▸ hbl.2)),fun b' id h=>?_,fun id hf=>?_⟩,⟨Nat.le_refl _,fun _=>rfl⟩,fun id=>?_⟩
   · simp only at h
     have:C.G0.ow b' ≠ none:=by
       intro e;rw [if_neg (by rw [e];simp),e] at h;cases h
     obtain ⟨id',he⟩:=Option.ne_none_iff_exists'.1 this
     have:=hO b' id' he
     exact ⟨by rw [← hsz f];exact this.1,.inr this.2⟩
   · by_cases q:id = 3000
     · subst q;cases hf
     · exact ⟨if_neg q,if_neg q⟩
   · by_cases hid:id = 3000
     · subst hid
       refine .inr ⟨cap,f cs,?_,?_,?_,?_,q5,?_,?_⟩
       · simp only [if_true,List.length_map]
       · simp only [if_true];exact hthis f
       · simp only [if_true];rw [q3];rfl
       · rw [List.length_map];omega
       · rw [← hF,putC_size];exact q6
       · intro i ps hi
         rw [List.getElem?_map] at hi
         obtain ⟨x,hx,rfl⟩:=Option.map_eq_some_iff.1 hi
         refine ⟨rfl,fun j A hj=>?_⟩
         obtain rfl:j = 0:=by
           have h1:j < 1:=(List.getElem?_eq_some_iff.1 hj).1
           omega
         cases hj
         obtain ⟨hi',hx'⟩:=List.getElem?_eq_some_iff.1 hx
         have hzl:Z.length = (compB l).length:=by rw [← hcE,List.length_map]
         rw [Nat.mul_one,Nat.add_zero,← hF,put_get _ _ _ _ (by rw [q6];omega) (by simp;omega)]
         refine ⟨_,rfl,rfl,?_⟩
         show Value.string _ = Value.string x
         rw [getElem!_pos _ i (by simp;omega)]
         have e3:(Z ++ List.replicate (l.length - (compB l).length) []).toArray[i]'(by simp;omega) = toLB x:=by
           have hiz:i < Z.length:=by omega
           have e4:Z[i]'hiz = toLB x:=by
             have:(compB l).map toLB = Z:=hcE
             subst this
             rw [List.getElem_map,hx']
           rw [List.getElem_toArray,List.getElem_append_left hiz,e4]
         rw [e3]
     · rw [show lookB id [(3000,Blk.row 9 1 ((compB l).map strP))] = .none by simp [lookB,nbeq_false hid]];trivial
section
theorem span_Has (r:Rg) (s:ByteArray) (hs:s.size ≤ 1000000000):Fn Tryz.prog 129 [rgC r,sC s] (boR (rgHas r s)):=by
 have h1:=span_Right r
 obtain ⟨lo,hi,op⟩:=r
 have hR:=rgR_iff ⟨lo,hi,op⟩
 have hH:rgHas ⟨lo,hi,op⟩ s = (rgR ⟨lo,hi,op⟩ && (decide (lo ≤ s) && (op || decide (s < hi)))):=rfl
 generalize rgHas ⟨lo,hi,op⟩ s = b at *
 generalize rgR ⟨lo,hi,op⟩ = q at *
 subst hH
 show Fn Tryz.prog _ [.per (aggP [rawP (.string lo),rawP (.string hi),rawP (.bool op)]),sC s] (boR _)
 cases q with
 | false=>
   refine fi Tryz.func129 Tryz.ntmps129 ?_
   (have kc1:=h1;refine w0 ?_;(repeat' first|refine W2.mk ?_ ?_|refine W1.mk fun hc=>?_);all_goals clear kc1)
   refine rt1 ?_
   exact rv_bool rfl rfl
 | true=>
   have hlo:=(hR.1 rfl).1
   simp only at hlo
   clear hR
   have h2:=key_Cmp lo s (by omega)
   have h3:=key_Cmp s hi (by omega)
   by_cases q1:cmpB lo s ≤ 0
   · rw [decide_eq_true (show lo ≤ s from q1)]
     cases op with
     | true=>
       refine fi Tryz.func129 Tryz.ntmps129 ?_
       (have kc1:=h1;have kf1:=h2;have kf2:=h3;refine w0 ?_;(repeat' first|refine W2.mk ?_ ?_|refine W1.mk fun hc=>?_);all_goals clear kf2 kf1 kc1)
       refine rt1 ?_
       exact rv_bool rfl rfl
     | false=>
       refine fi Tryz.func129 Tryz.ntmps129 ?_
       (have kc1:=h1;have kf1:=h2;have kf2:=h3;refine w0 ?_;(repeat' first|refine W2.mk ?_ ?_|refine W1.mk fun hc=>?_);all_goals clear kf2 kf1 kc1)
       refine rt1 ?_
       exact rv_bool rfl rfl
   · rw [decide_eq_false (show ¬ lo ≤ s from q1)]
     refine fi Tryz.func129 Tryz.ntmps129 ?_
     (have kc1:=h1;have kc2:=h2;refine w0 ?_;(repeat' first|refine W2.mk ?_ ?_|refine W1.mk fun hc=>?_);all_goals clear kc2 kc1)
     refine rt1 ?_
     exact rv_bool rfl rfl
theorem rspan_Has (r:Rg) (s:ByteArray) (hs:s.size ≤ 1000000000):Fn Tryz.prog 91 [rgC r,sC s] (boR (rgHas r s)):=by
 have h1:=rspan_Right r
 obtain ⟨lo,hi,op⟩:=r
 have hR:=rgR_iff ⟨lo,hi,op⟩
 have hH:rgHas ⟨lo,hi,op⟩ s = (rgR ⟨lo,hi,op⟩ && (decide (lo ≤ s) && (op || decide (s < hi)))):=rfl
 generalize rgHas ⟨lo,hi,op⟩ s = b at *
 generalize rgR ⟨lo,hi,op⟩ = q at *
 subst hH
 show Fn Tryz.prog _ [.per (aggP [rawP (.string lo),rawP (.string hi),rawP (.bool op)]),sC s] (boR _)
 cases q with
 | false=>
   refine fi Tryz.func91 Tryz.ntmps91 ?_
   (have kc1:=h1;refine w0 ?_;(repeat' first|refine W2.mk ?_ ?_|refine W1.mk fun hc=>?_);all_goals clear kc1)
   refine rt1 ?_
   exact rv_bool rfl rfl
 | true=>
   have hlo:=(hR.1 rfl).1
   simp only at hlo
   clear hR
   have h2:=ref_Less s lo (by omega)
   have h3:=ref_Less s hi (by omega)
   by_cases q1:cmpB s lo < 0
   · rw [decide_eq_false (show ¬ lo ≤ s by have:=(o_lt s lo).1 q1;grind)]
     rw [decide_eq_true q1] at h2
     refine fi Tryz.func91 Tryz.ntmps91 ?_
     (have kc1:=h1;have kc2:=h2;refine w0 ?_;(repeat' first|refine W2.mk ?_ ?_|refine W1.mk fun hc=>?_);all_goals clear kc2 kc1)
     refine rt1 ?_
     exact rv_bool rfl rfl
   · rw [decide_eq_true (show lo ≤ s by rw [o_lt] at q1;grind)]
     rw [decide_eq_false q1] at h2
     cases op with
     | true=>
       refine fi Tryz.func91 Tryz.ntmps91 ?_
       (have kc1:=h1;have kc2:=h2;refine w0 ?_;(repeat' first|refine W2.mk ?_ ?_|refine W1.mk fun hc=>?_);all_goals clear kc2 kc1)
       refine rt1 ?_
       exact rv_bool rfl rfl
     | false=>
       refine fi Tryz.func91 Tryz.ntmps91 ?_
       (have kc1:=h1;have kf1:=h2;have kf2:=h3;refine w0 ?_;(repeat' first|refine W2.mk ?_ ?_|refine W1.mk fun hc=>?_);all_goals clear kf2 kf1 kc1)
       refine rt1 ?_
       exact rv_bool rfl rfl
theorem rrgs_Has (l:List Rg) (s:ByteArray) (hl:l.length ≤ 1000000000) (hs:s.size ≤ 1000000000):Fn Tryz.prog 39 [rgsB l,sC s] (boR (anyR l s)):=by
 generalize hb:anyR l s = b
 refine fi Tryz.func39 Tryz.ntmps39 ?_
 (refine w0 ?_;(repeat' first|refine W2.mk ?_ ?_|refine W1.mk fun hc=>?_))
 refine AW_loopP (X:=Nat) (fun z=>z ≤ l.length ∧ anyR (l.drop z) s = b)
   (fun z=>mkSt [(0,rgsB l),(1,sC s),(5,iC .i64 (z:Nat))] []) (fun z=>l.length - z) 0 ⟨Nat.zero_le _,by rw [List.drop_zero];exact hb⟩ ?_ ?_
 · exact le_auto
 · rintro z ⟨h1,h2⟩
   by_cases hz:z < l.length
   · have h3:=rspan_Has l[z] s hs
     rw [List.drop_eq_getElem_cons hz,anyR,List.any_cons] at h2
     cases hr:rgHas l[z] s with
     | true=>
       rw [hr] at h3 h2
       rw [Bool.true_or] at h2
       subst h2
       clear hb
       (have kc1:=h3;refine w0 ?_;(repeat' first|refine W2.mk ?_ ?_|refine W1.mk fun hc=>?_);all_goals clear kc1)
       refine rt1 ?_
       exact rv_bool rfl rfl
     | false=>
       rw [hr] at h3 h2
       rw [Bool.false_or] at h2
       clear hb
       (have kc1:=h3;refine w0 ?_;(repeat' first|refine W2.mk ?_ ?_|refine W1.mk fun hc=>?_);all_goals clear kc1)
       refine ⟨z + 1,⟨by omega,h2⟩,by omega,?_⟩
       exact le_auto
   · obtain rfl:z = l.length:=by omega
     rw [List.drop_length] at h2
     simp only [anyR,List.any_nil] at h2
     subst h2
     clear hb
     (refine w0 ?_;(repeat' first|refine W2.mk ?_ ?_|refine W1.mk fun hc=>?_))
     refine rt1 ?_
     exact rv_bool rfl rfl
theorem span_Ends (x y:Rg) (hx:rgR x = true) (hy:rgR y = true):Fn Tryz.prog 168 [rgC x,rgC y] (inR (endR x y)):=by
 have h1:=span_Right x
 have h2:=span_Right y
 have hR:=(rgR_iff x).1 hx
 rw [hx] at h1
 rw [hy] at h2
 clear hx hy
 obtain ⟨lo,hi,op⟩:=x
 obtain ⟨lo',hi',op'⟩:=y
 have hhi:=hR.2.1
 simp only at hhi
 clear hR
 have h3:=key_Cmp hi hi' (by omega)
 have hE:endR ⟨lo,hi,op⟩ ⟨lo',hi',op'⟩ = (if op && op' then 0 else if op then 1 else if op' then -1 else cmpB hi hi'):=rfl
 rw [hE]
 show Fn Tryz.prog _ [.per (aggP [rawP (.string lo),rawP (.string hi),rawP (.bool op)]),.per (aggP [rawP (.string lo'),rawP (.string hi'),rawP (.bool op')])] (inR _)
 cases op <;> cases op'
 all_goals
   refine fi Tryz.func168 Tryz.ntmps168 ?_
   (have kf1:=h1;have kf2:=h2;have kc1:=h3;refine w0 ?_;(repeat' first|refine W2.mk ?_ ?_|refine W1.mk fun hc=>?_);all_goals clear kc1 kf2 kf1)
   refine rt1 ?_
   exact rv_int rfl rfl
end
end Go.Proofs.YtfcpkegmdlchhaaGreat
