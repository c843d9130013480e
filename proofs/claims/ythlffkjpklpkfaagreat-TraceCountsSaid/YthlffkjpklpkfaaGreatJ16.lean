/- Texts joined: Kk KkR AbsO. -/
import Derived.Test.YthlffkjpklpkfaaGreatJ15
import Derived.Test.YthlffkjpklpkfaaGreatJ07
set_option maxRecDepth 10000
set_option maxHeartbeats 8000000
namespace Go.Proofs.YthlffkjpklpkfaaGreat
open Go.RowKit
theorem pcB_len {p:Pc} (h1:rgR p.rg = true) (h2:knsOk p.set) (h3:fewS p.set):(pcB p).length ≤ 1500040:=by
 have q1:=rgB_len h1
 have q2:=setB_len h2 h3
 unfold pcB
 rw [List.length_append];omega
theorem pcsOk_get {k:List Pc} (h:pcsOk k) {i:Nat} (hi:i < k.length):rgR k[i].rg = true ∧ knsOk k[i].set:=let ⟨a,_,c,_⟩:=h i hi hi;⟨a,c⟩
def fewK (k:List Pc):Prop:=∀ p ∈ k,fewS p.set
theorem lis_tot (l:List UInt8) (e:Int):knsTot (lisSt knSt 16 l e).1:=by
 have h1:=lisSt_len (st:=knSt) (most:=16) (by omega) l e
 have h2:=(lis_knSz l e).2
 have:∀ l:List Kn,(∀ k ∈ l,k.runs.length ≤ 4096) → (l.flatMap Kn.runs).length ≤ 4096 * l.length:=by
   intro l
   induction l with
   | nil=>intro _;simp
   | cons x l ih=>
     intro h
     have h1:=h x List.mem_cons_self
     have h2:=ih (fun y hy=>h y (List.mem_cons_of_mem _ hy))
     rw [List.flatMap_cons,List.length_append,List.length_cons];omega
 have:=this _ h2
 exact ⟨by omega,by omega⟩
theorem pcSt_good (l:List UInt8) (e:Int):knsTot (pcSt l e).1.set ∧ fewS (pcSt l e).1.set:=⟨lis_tot _ _,(lis_knSz _ _).2⟩
theorem lis_pcSz (l:List UInt8) (e:Int):pcsSz (lisSt pcSt 4096 l e).1 ∧ fewK (lisSt pcSt 4096 l e).1:=by
 have h1:=lisSt_len (st:=pcSt) (most:=4096) (by omega) l e
 have h2:=lisSt_all (p:=fun p:Pc=>knsTot p.set ∧ fewS p.set) pcSt_good 4096 l e
 exact ⟨⟨by omega,fun p hp=>(h2 p hp).1⟩,fun p hp=>(h2 p hp).2⟩
section
theorem kc_Know (k:List Pc) (hk:pcsSz k) (hf:fewK k) (hl:k.length ≤ 4096) (b:Bool) (hb:b = true ↔ pcsOk k):Fn Tryz.prog 82 [pcsB k] (.tup2 (ownB (if b then knowB k else [])) (inR (if b then 0 else 2))):=by
 have h0:=know_Right k hk b hb
 cases b with
 | false=>
   show Fn _ _ _ (.tup2 (ownB []) (inR 2))
   clear hb
   refine fi Tryz.func82 Tryz.ntmps82 ?_
   (have kc1:=h0;refine w0 ?_;(repeat' first|refine W2.mk ?_ ?_|refine W1.mk fun hc=>?_);all_goals clear kc1)
   all_goals refine rt2 ?_ ?_
   all_goals first|exact rv_nil rfl|exact rv_int rfl rfl
 | true=>
   show Fn _ _ _ (.tup2 (ownB (knowB k)) (inR 0))
   have hok:=hb.1 rfl
   clear hb
   have hp0:=kc_put [] [(k.length:Int)] (by simp) (ok_small (by omega) (by omega))
   have hn0:=numI_len (k.length:Int) (by omega)
   refine fi Tryz.func82 Tryz.ntmps82 ?_
   (have kc1:=h0;have kc2:=hp0;refine w0 ?_;(repeat' first|refine W2.mk ?_ ?_|refine W1.mk fun hc=>?_);all_goals clear kc2 kc1)
   refine AW_le (Le_mv 18 600) ?_
   refine AW_loopP (X:=Nat × List UInt8) (fun x=>x.1 ≤ k.length ∧ x.2.length ≤ 10 + 1500040 * x.1 ∧ x.2 ++ (k.drop x.1).flatMap pcB = knowB k)
     (fun x=>mkSt [(4,.row 600 0),(19,pcsB k),(20,iC .i64 (k.length:Nat)),(21,iC .i64 (x.1:Nat))] [(600,.row 5 1 (x.2.map byteP))]) (fun x=>k.length - x.1) (0,[(k.length:Int)].flatMap numI) ⟨Nat.zero_le _,by simp;omega,by simp [knowB]⟩ ?_ ?_
   · exact le_auto
   · clear h0 hp0
     rintro ⟨i,acc⟩ ⟨h1,h2,h3⟩
     simp only at h1 h2 h3 ⊢
     by_cases hlt:i < k.length
     · obtain ⟨hr,hs⟩:=pcsOk_get hok hlt
       have hfi:=hf _ (List.getElem_mem hlt)
       have hbl:=pcB_len hr hs hfi
       have hrl:=rgB_len hr
       have hsz:=(rgR_iff _).1 hr
       have t1:=textB_len k[i].rg.lo (by omega)
       have t2:=textB_len k[i].rg.hi (by omega)
       have n0:=numI_one (n:=0) (by omega) (by omega)
       rw [List.drop_eq_getElem_cons hlt,List.flatMap_cons] at h3
       have c0:=kc_few k[i].set (hk.at hlt).1 hfi
       have c1:=varint_Text acc [k[i].rg.lo] (by simp;omega)
       clear hok hk hf
       by_cases ho:k[i].rg.op = true
       · have e:pcB k[i] = textB k[i].rg.lo ++ numI 1 ++ setB k[i].set:=by unfold pcB rgB;rw [if_pos ho]
         have n1:=numI_one (n:=1) (by omega) (by omega)
         rw [e] at h3 hbl
         have c2:=kc_put (acc ++ [k[i].rg.lo].flatMap textB) [1] (by simp;omega) (ok_small (by omega) (by omega))
         have c4:=kc_set (acc ++ [k[i].rg.lo].flatMap textB ++ [(1:Int)].flatMap numI) k[i].set (by simp;omega) hs hfi
         clear hs hfi hr
         (have kc1:=c0;have kc2:=c1;have kc3:=c2;have kc4:=c4;refine w0 ?_;(repeat' first|refine W2.mk ?_ ?_|refine W1.mk fun hc=>?_);all_goals clear kc4 kc3 kc2 kc1)
         all_goals first|(exfalso;simp_all;done)|skip
         refine ⟨(i + 1,acc ++ [k[i].rg.lo].flatMap textB ++ [(1:Int)].flatMap numI ++ setB k[i].set),⟨by simp only;omega,by simp at hbl ⊢;omega,by rw [← h3];simp⟩,by simp only;omega,Le_trans (Le_mv 52 600) ?_⟩
         exact le_auto
       · have e:pcB k[i] = textB k[i].rg.lo ++ (numI 0 ++ textB k[i].rg.hi) ++ setB k[i].set:=by unfold pcB rgB;rw [if_neg ho]
         rw [e] at h3 hbl
         rw [Bool.not_eq_true] at ho
         have c2:=kc_put (acc ++ [k[i].rg.lo].flatMap textB) [0] (by simp;omega) (ok_small (by omega) (by omega))
         have c3:=varint_Text (acc ++ [k[i].rg.lo].flatMap textB ++ [(0:Int)].flatMap numI) [k[i].rg.hi] (by simp;omega)
         have c4:=kc_set (acc ++ [k[i].rg.lo].flatMap textB ++ [(0:Int)].flatMap numI ++ [k[i].rg.hi].flatMap textB) k[i].set (by simp;omega) hs hfi
         clear hs hfi hr
         (have kc1:=c0;have kc2:=c1;have kc3:=c2;have kc4:=c3;have kc5:=c4;refine w0 ?_;(repeat' first|refine W2.mk ?_ ?_|refine W1.mk fun hc=>?_);all_goals clear kc5 kc4 kc3 kc2 kc1)
         all_goals first|(exfalso;simp_all;done)|skip
         refine ⟨(i + 1,acc ++ [k[i].rg.lo].flatMap textB ++ [(0:Int)].flatMap numI ++ [k[i].rg.hi].flatMap textB ++ setB k[i].set),⟨by simp only;omega,by simp at hbl ⊢;omega,by rw [← h3];simp⟩,by simp only;omega,Le_trans (Le_mv 52 600) ?_⟩
         exact le_auto
     · rw [List.drop_of_length_le (by omega),List.flatMap_nil,List.append_nil] at h3
       (refine w0 ?_;(repeat' first|refine W2.mk ?_ ?_|refine W1.mk fun hc=>?_))
       refine rt2 ?_ ?_
       · exact rv_ownM rfl rfl rfl h3
       · exact rv_int rfl rfl
theorem rkc_Know (k:List Pc) (hf:fewK k) (hl:k.length ≤ 4096) (hok:pcsOk k):Fn Tryz.prog 52 [pcsB k] (ownB (knowB k)):=by
 have hp0:=ref_Bytes (k.length:Int) (by unfold okNum;omega)
 have hn0:=numI_len (k.length:Int) (by omega)
 refine fi Tryz.func52 Tryz.ntmps52 ?_
 (have kc1:=hp0;refine w0 ?_;(repeat' first|refine W2.mk ?_ ?_|refine W1.mk fun hc=>?_);all_goals clear kc1)
 refine AW_le (Le_mv 8 600) ?_
 refine AW_loopP (X:=Nat × List UInt8) (fun x=>x.1 ≤ k.length ∧ x.2.length ≤ 10 + 1500040 * x.1 ∧ x.2 ++ (k.drop x.1).flatMap pcB = knowB k)
   (fun x=>mkSt [(0,pcsB k),(3,.row 600 0),(4,iC .i64 (x.1:Nat))] [(600,.row 5 1 (x.2.map byteP))]) (fun x=>k.length - x.1) (0,numI (k.length:Int)) ⟨Nat.zero_le _,by simp only;omega,by simp [knowB]⟩ ?_ ?_
 · exact le_auto
 · clear hp0
   rintro ⟨i,acc⟩ ⟨h1,h2,h3⟩
   simp only at h1 h2 h3 ⊢
   by_cases hlt:i < k.length
   · obtain ⟨hr,hs⟩:=pcsOk_get hok hlt
     have hfi:=hf _ (List.getElem_mem hlt)
     have hbl:=pcB_len hr hs hfi
     have hrl:=rgB_len hr
     have hsz:=(rgR_iff _).1 hr
     have t1:=textB_len k[i].rg.lo (by omega)
     have t2:=textB_len k[i].rg.hi (by omega)
     have n0:=numI_one (n:=0) (by omega) (by omega)
     have n1:=numI_one (n:=1) (by omega) (by omega)
     rw [List.drop_eq_getElem_cons hlt,List.flatMap_cons] at h3
     have c1:=ref_Text k[i].rg.lo (by omega)
     have c2:=ref_Text k[i].rg.hi (by omega)
     have c4:=rkc_Set k[i].set hs hfi
     have hsl:=setB_len hs hfi
     clear hok hf hs hfi hr
     by_cases ho:k[i].rg.op = true
     · have e:pcB k[i] = textB k[i].rg.lo ++ numI 1 ++ setB k[i].set:=by unfold pcB rgB;rw [if_pos ho]
       rw [e] at h3 hbl
       (have ko1:=c1;have ko2:=c2;have kc1:=c4;refine w0 ?_;(repeat' (first|refine W2.mk ?_ ?_|refine W1.mk fun hc=>?_|((first|apply AL_t rfl|apply AL_0 rfl|apply AD_t rfl|apply AD_0 rfl);(focus (first|((apply u_k 5;(focus rfl);first|exact u_load_bpT ⟨rfl,rfl,rfl⟩ rfl inferInstance inferInstance rfl rfl rfl rfl|exact u_load_rpT ⟨rfl,rfl,rfl⟩ rfl inferInstance inferInstance rfl rfl rfl rfl))|(apply u_g;(focus rfl);apply op_gyes rfl rfl rfl rfl rfl;first|((apply u_k 5;(focus rfl);first|exact u_load_bpT ⟨rfl,rfl,rfl⟩ rfl inferInstance inferInstance rfl rfl rfl rfl|exact u_load_rpT ⟨rfl,rfl,rfl⟩ rfl inferInstance inferInstance rfl rfl rfl rfl)))));refine w0 ?_)));all_goals clear kc1 ko2 ko1)
       all_goals first|(exfalso;simp_all;done)|skip
       refine ⟨(i + 1,acc ++ textB k[i].rg.lo ++ numI 1 ++ setB k[i].set),⟨by simp only;omega,by simp at hbl ⊢;omega,by rw [← h3];simp⟩,by simp only;omega,?_⟩
       (refine Le_mk ?_ ?_;(focus ((repeat (first|exact AllG.nil|(refine AllG.cons ?_ ?_;rotate_left)));(all_goals try (first|rfl|(refine eqI ?_;first|omega|(simp;done)|(simp;omega))|(refine eqBo ?_;first|(simp;done)|(simp [*];done))))));(focus ((repeat (first|exact AllB.nil|(refine AllB.cons ?_ ?_;rotate_left)));(all_goals try (first|rfl|(refine eqRw ?_;(rw [List.map_append] <;> rfl);done)|(refine eqMix ?_;(rw [List.map_append] <;> rfl);done))))))
       show Blk.row _ _ (((acc.map byteP ++ _) ++ [[rawP (.int .u8 1)]]) ++ _) = _
       rw [← numI_1,← List.map_append,← List.map_append,← List.map_append]
     · have e:pcB k[i] = textB k[i].rg.lo ++ (numI 0 ++ textB k[i].rg.hi) ++ setB k[i].set:=by unfold pcB rgB;rw [if_neg ho]
       rw [e] at h3 hbl
       rw [Bool.not_eq_true] at ho
       (have ko1:=c1;have ko2:=c2;have kc1:=c4;refine w0 ?_;(repeat' (first|refine W2.mk ?_ ?_|refine W1.mk fun hc=>?_|((first|apply AL_t rfl|apply AL_0 rfl|apply AD_t rfl|apply AD_0 rfl);(focus (first|((apply u_k 5;(focus rfl);first|exact u_load_bpT ⟨rfl,rfl,rfl⟩ rfl inferInstance inferInstance rfl rfl rfl rfl|exact u_load_rpT ⟨rfl,rfl,rfl⟩ rfl inferInstance inferInstance rfl rfl rfl rfl))|(apply u_g;(focus rfl);apply op_gyes rfl rfl rfl rfl rfl;first|((apply u_k 5;(focus rfl);first|exact u_load_bpT ⟨rfl,rfl,rfl⟩ rfl inferInstance inferInstance rfl rfl rfl rfl|exact u_load_rpT ⟨rfl,rfl,rfl⟩ rfl inferInstance inferInstance rfl rfl rfl rfl)))));refine w0 ?_)));all_goals clear kc1 ko2 ko1)
       all_goals first|(exfalso;simp_all;done)|skip
       refine ⟨(i + 1,acc ++ textB k[i].rg.lo ++ numI 0 ++ textB k[i].rg.hi ++ setB k[i].set),⟨by simp only;omega,by simp at hbl ⊢;omega,by rw [← h3];simp⟩,by simp only;omega,?_⟩
       (refine Le_mk ?_ ?_;(focus ((repeat (first|exact AllG.nil|(refine AllG.cons ?_ ?_;rotate_left)));(all_goals try (first|rfl|(refine eqI ?_;first|omega|(simp;done)|(simp;omega))|(refine eqBo ?_;first|(simp;done)|(simp [*];done))))));(focus ((repeat (first|exact AllB.nil|(refine AllB.cons ?_ ?_;rotate_left)));(all_goals try (first|rfl|(refine eqRw ?_;(rw [List.map_append] <;> rfl);done)|(refine eqMix ?_;(rw [List.map_append] <;> rfl);done))))))
       show Blk.row _ _ ((((acc.map byteP ++ _) ++ [[rawP (.int .u8 0)]]) ++ _) ++ _) = _
       rw [← numI_0,← List.map_append,← List.map_append,← List.map_append,← List.map_append]
   · rw [List.drop_of_length_le (by omega),List.flatMap_nil,List.append_nil] at h3
     (refine w0 ?_;(repeat' first|refine W2.mk ?_ ?_|refine W1.mk fun hc=>?_))
     refine rt1 ?_
     exact rv_ownM rfl rfl rfl h3
theorem kc_piece (l:List UInt8) (e:Int):FnM Tryz.prog 149 [.aggK rdC .aggN] [(1000,rdBox l e)] (pcC (pcSt l e).1) [(1000,rdBox (pcSt l e).2.1 (pcSt l e).2.2)]:=by
 dsimp only [pcSt,rgSt]
 have h1:=r_Text l e 17
 generalize textSt 17 l e = t at *
 have h2:=r_Bool t.2.1 t.2.2
 generalize withinSt 0 1 t.2.1 t.2.2 = o at *
 by_cases ho:(o.1 == 1) = true
 · rw [if_pos ho]
   rw [ho] at h2
   dsimp only
   have h4:=(kc_rset o.2.1 o.2.2).frz3
   generalize lisSt knSt 16 o.2.1 o.2.2 = s at *
   refine fmi Tryz.func149 Tryz.ntmps149 ?_
   (have kr1:=h1;have kr2:=h2;have km1:=(show FnMs [(1000,1000)] _ _ _ _ _ _ from h4);refine w0 ?_;(repeat' first|refine W2.mk ?_ ?_|refine W1.mk fun hc=>?_);all_goals clear km1 kr2 kr1)
   (refine ⟨(by first|exact .inl rfl|exact .inr rfl),resM1 [(1000,1000)] rfl rfl ?_ ?_⟩;(focus (repeat (first|exact AllX.nil|(refine AllX.cons rfl ?_ ?_;(focus first|rfl|skip))))))
   exact rvm_cellA inferInstance inferInstance rfl rfl rfl rfl rfl rfl
 · rw [if_neg ho]
   rw [show (o.1 == 1) = false by simpa using ho] at h2
   dsimp only
   have h3:=r_Text o.2.1 o.2.2 17
   generalize textSt 17 o.2.1 o.2.2 = h at *
   have h4:=(kc_rset h.2.1 h.2.2).frz3
   generalize lisSt knSt 16 h.2.1 h.2.2 = s at *
   refine fmi Tryz.func149 Tryz.ntmps149 ?_
   (have kr1:=h1;have kr2:=h2;have kr3:=h3;have km1:=(show FnMs [(1000,1000)] _ _ _ _ _ _ from h4);refine w0 ?_;(repeat' first|refine W2.mk ?_ ?_|refine W1.mk fun hc=>?_);all_goals clear km1 kr3 kr2 kr1)
   (refine ⟨(by first|exact .inl rfl|exact .inr rfl),resM1 [(1000,1000)] rfl rfl ?_ ?_⟩;(focus (repeat (first|exact AllX.nil|(refine AllX.cons rfl ?_ ?_;(focus first|rfl|skip))))))
   exact rvm_cellA inferInstance inferInstance rfl rfl rfl rfl rfl rfl
end
section
theorem kc_ReadKnow (b:List UInt8) (hb:b.length ≤ 1000000000):Fn Tryz.prog 111 [bytesB b] (.tup2 (.own 82 4 ((rdKnow b).1.map pcP)) (inR (rdKnow b).2)):=by
 have hgood:=(lis_pcSz b 0).1
 generalize hQ:rdKnow b = Q at *
 dsimp only [rdKnow,lisSt] at hQ hgood
 have h1:=r_Within b 0 0 4096
 have hn:=within_rng0 (most:=4096) (by omega) b 0
 generalize withinSt 0 4096 b 0 = s at *
 obtain ⟨n,l0,e0'⟩:=s
 simp only at h1 hn hQ hgood
 obtain ⟨hn0,hn1⟩:=hn
 obtain ⟨n,rfl⟩:=Int.eq_ofNat_of_zero_le hn0
 rw [Int.toNat_natCast] at hQ hgood
 generalize hR:lsSt pcSt n [] l0 e0' = R at *
 refine fi Tryz.func111 Tryz.ntmps111 ?_
 (have kn1:=v_New b hb;have kr1:=h1;refine w0 ?_;(repeat' first|refine W2.mk ?_ ?_|refine W1.mk fun hc=>?_);all_goals clear kr1 kn1)
 refine AW_le (Le_nil 6 600 82 4 rfl rfl) ?_
 refine AW_loopP (X:=Nat × List Pc × List UInt8 × Int) (fun x=>x.1 ≤ n ∧ x.2.1.length ≤ x.1 ∧ lsSt pcSt (n - x.1) x.2.1 x.2.2.1 x.2.2.2 = R)
   (fun x=>mkSt [(4,.ptr 4 0 0),(5,iC .i64 (n:Nat)),(6,.row 600 0),(7,iC .i64 (x.1:Nat))] [(4,.box 213 [.ptr 10 0 0]),(10,rdBox x.2.2.1 x.2.2.2),(600,.row 82 4 (x.2.1.map pcP))]) (fun x=>n - x.1) (0,[],l0,e0') ⟨Nat.zero_le _,Nat.le_refl _,hR⟩ ?_ ?_
 · exact le_auto
 · clear h1 hR
   rintro ⟨i,acc,l,e⟩ ⟨hi,hacc,hR⟩
   simp only at hi hacc hR ⊢
   have hE:=r_Err l e
   by_cases hst:i < n ∧ e = 0
   · obtain ⟨hlt,he⟩:=hst
     subst he
     obtain ⟨m,hm⟩:∃ m,n - i = m + 1:=⟨n - i - 1,by omega⟩
     rw [hm,lsSt,if_neg (by simp)] at hR
     have h2:=kc_piece l 0
     generalize pcSt l 0 = q at *
     clear hQ hgood
     (have kr1:=hE;have km1:=(show FnMs [(1000,10)] _ _ _ _ _ _ from h2);refine w0 ?_;(repeat' first|refine W2.mk ?_ ?_|refine W1.mk fun hc=>?_);all_goals clear km1 kr1)
     refine ⟨(i + 1,acc ++ [q.1],q.2.1,q.2.2),⟨by simp only;omega,by simp;omega,by simp only;rw [show n - (i + 1) = m by omega];exact hR⟩,by simp only;omega,?_⟩
     exact le_auto
   · have hR2:R = (acc,l,e):=by
       rw [← hR]
       by_cases he:e = 0
       · rw [show n - i = 0 by omega];rfl
       · cases n - i with
         | zero=>rfl
         | succ m=>rw [lsSt,if_pos he]
     subst hR2
     simp only at hQ hgood
     have h2:=r_End l e
     have h3:=know_Right acc hgood (decide (pcsOk acc)) (by simp)
     clear hgood hR
     by_cases hlt:i < n
     · have he:e ≠ 0:=fun q=>hst ⟨hlt,q⟩
       have hen:endSt l e ≠ 0:=by unfold endSt;rw [if_neg (fun q=>he q.1)];exact he
       rw [finL,if_pos hen] at hQ
       subst hQ
       clear hst
       (have kr1:=hE;have kr2:=h2;have kc1:=h3;refine w0 ?_;(repeat' first|refine W2.mk ?_ ?_|refine W1.mk fun hc=>?_);all_goals clear kc1 kr2 kr1)
       refine rt2 ?_ ?_
       · exact rv_nil rfl
       · exact rv_int rfl rfl
     · clear hst
       (have kr1:=hE;have kr2:=h2;have kc1:=h3;refine w0 ?_;(repeat' first|refine W2.mk ?_ ?_|refine W1.mk fun hc=>?_);all_goals clear kc1 kr2 kr1)
       · rw [finL,if_pos (by assumption)] at hQ
         subst hQ
         refine rt2 ?_ ?_
         · exact rv_nil rfl
         · exact rv_int rfl rfl
       · rw [finL,if_neg (by simp [*]),if_neg (by simp_all)] at hQ
         subst hQ
         refine rt2 ?_ ?_
         · exact rv_nil rfl
         · exact rv_int rfl rfl
       · rw [finL,if_neg (by simp [*]),if_pos (by simp_all)] at hQ
         subst hQ
         refine rt2 ?_ ?_
         · exact rv_own rfl rfl rfl
         · exact rv_int rfl rfl
theorem rkc_ReadKnow (b:List UInt8) (hb:b.length ≤ 1000000000):Fn Tryz.prog 64 [.per (bysP b)] (.tup2 (.own 82 4 ((rdKnow b).1.map pcP)) (inR (rdKnow b).2)):=by
 have hgood:=(lis_pcSz b 0).1
 have hs:b <:+ b:=List.suffix_refl b
 have hb':b.length ≤ 1000000000000:=by omega
 generalize hQ:rdKnow b = Q at *
 dsimp only [rdKnow,lisSt] at hQ hgood
 have h1:=rr_Within b b 0 hs hb' 0 4096
 have hn:=within_rng0 (most:=4096) (by omega) b 0
 replace hs:=(withinSt_suf 0 4096 b 0).trans hs
 generalize withinSt 0 4096 b 0 = s at *
 obtain ⟨n,l0,e0'⟩:=s
 simp only at h1 hn hs hQ hgood
 obtain ⟨hn0,hn1⟩:=hn
 obtain ⟨n,rfl⟩:=Int.eq_ofNat_of_zero_le hn0
 rw [Int.toNat_natCast] at hQ hgood
 generalize hR:lsSt pcSt n [] l0 e0' = R at *
 have e0:((b.length - b.length:Nat):Int) = 0:=by omega
 unfold rrBox at h1
 rw [e0] at h1
 refine fi Tryz.func64 Tryz.ntmps64 ?_
 (have kr1:=h1;refine w0 ?_;(repeat' first|refine W2.mk ?_ ?_|refine W1.mk fun hc=>?_);all_goals clear kr1)
 refine AW_le (Le_nil 6 600 82 4 rfl rfl) ?_
 refine AW_loopP (X:=Nat × List Pc × List UInt8 × Int) (fun x=>x.1 ≤ n ∧ x.2.1.length ≤ x.1 ∧ x.2.2.1 <:+ b ∧ lsSt pcSt (n - x.1) x.2.1 x.2.2.1 x.2.2.2 = R)
   (fun x=>mkSt [(4,.ptr 11 0 0),(5,iC .i64 (n:Nat)),(6,.row 600 0),(7,iC .i64 (x.1:Nat))] [(11,rrBox b x.2.2.1 x.2.2.2),(600,.row 82 4 (x.2.1.map pcP))]) (fun x=>n - x.1) (0,[],l0,e0') ⟨Nat.zero_le _,Nat.le_refl _,hs,hR⟩ ?_ ?_
 · exact le_auto
 · clear h1 hR hs
   rintro ⟨i,acc,l,e⟩ ⟨hi,hacc,hs,hR⟩
   simp only at hi hacc hs hR ⊢
   by_cases hst:i < n ∧ e = 0
   · obtain ⟨hlt,he⟩:=hst
     subst he
     obtain ⟨m,hm⟩:∃ m,n - i = m + 1:=⟨n - i - 1,by omega⟩
     rw [hm,lsSt,if_neg (by simp)] at hR
     clear hQ hgood
     dsimp only [pcSt,rgSt] at hR
     have h2:=rr_Text b l 0 hs hb' 17
     replace hs:=(textSt_suf 17 l 0).trans hs
     generalize textSt 17 l 0 = t at *
     have h3:=rr_Within b t.2.1 t.2.2 hs hb' 0 1
     replace hs:=(withinSt_suf 0 1 t.2.1 t.2.2).trans hs
     generalize withinSt 0 1 t.2.1 t.2.2 = o at *
     by_cases ho:o.1 = 1
     · rw [if_pos (by simp [ho])] at hR
       rw [ho] at h3
       dsimp only at hR
       have h5:=(rkc_ReadIn b o.2.1 o.2.2 hs hb').frz3
       replace hs:=(lisSt_suf knSt_suf 16 o.2.1 o.2.2).trans hs
       generalize lisSt knSt 16 o.2.1 o.2.2 = s at *
       (have kr1:=h2;have kr2:=h3;have kr3:=h5;refine w0 ?_;(repeat' first|refine W2.mk ?_ ?_|refine W1.mk fun hc=>?_);all_goals clear kr3 kr2 kr1)
       refine ⟨(i + 1,acc ++ [⟨⟨ba t.1,ByteArray.mk #[],true⟩,s.1⟩],s.2.1,s.2.2),⟨by simp only;omega,by simp;omega,hs,by simp only;rw [show n - (i + 1) = m by omega];exact hR⟩,by simp only;omega,?_⟩
       exact le_auto
     · rw [if_neg (by simp [ho])] at hR
       dsimp only at hR
       have h4:=rr_Text b o.2.1 o.2.2 hs hb' 17
       replace hs:=(textSt_suf 17 o.2.1 o.2.2).trans hs
       generalize textSt 17 o.2.1 o.2.2 = h at *
       have h5:=(rkc_ReadIn b h.2.1 h.2.2 hs hb').frz3
       replace hs:=(lisSt_suf knSt_suf 16 h.2.1 h.2.2).trans hs
       generalize lisSt knSt 16 h.2.1 h.2.2 = s at *
       (have kr1:=h2;have kr2:=h3;have kr3:=h4;have kr4:=h5;refine w0 ?_;(repeat' first|refine W2.mk ?_ ?_|refine W1.mk fun hc=>?_);all_goals clear kr4 kr3 kr2 kr1)
       refine ⟨(i + 1,acc ++ [⟨⟨ba t.1,ba h.1,false⟩,s.1⟩],s.2.1,s.2.2),⟨by simp only;omega,by simp;omega,hs,by simp only;rw [show n - (i + 1) = m by omega];exact hR⟩,by simp only;omega,?_⟩
       (refine Le_mk ?_ ?_;(focus ((repeat (first|exact AllG.nil|(refine AllG.cons ?_ ?_;rotate_left)));(all_goals try (first|rfl|(refine eqI ?_;first|omega|(simp;done)|(simp;omega))|(refine eqBo ?_;first|(simp;done)|(simp [*];done))))));(focus ((repeat (first|exact AllB.nil|(refine AllB.cons ?_ ?_;rotate_left)));(all_goals try (first|rfl|(refine eqRw ?_;(rw [List.map_append] <;> rfl);done)|(refine eqMix ?_;(rw [List.map_append] <;> rfl);done))))))
       show Blk.row _ _ (acc.map pcP ++ [[_,_,rawP (.bool (o.1 == 1)),_]]) = _
       rw [show (o.1 == 1) = false by simpa using ho,List.map_append]
       rfl
   · have hR2:R = (acc,l,e):=by
       rw [← hR]
       by_cases he:e = 0
       · rw [show n - i = 0 by omega];rfl
       · cases n - i with
         | zero=>rfl
         | succ m=>rw [lsSt,if_pos he]
     subst hR2
     simp only at hQ hgood
     have hD:=rr_End b l e hs
     have h3:=rknow_Right acc hgood (decide (pcsOk acc)) (by simp)
     clear hgood hR
     by_cases hlt:i < n
     · have he:e ≠ 0:=fun q=>hst ⟨hlt,q⟩
       have hen:endSt l e ≠ 0:=by unfold endSt;rw [if_neg (fun q=>he q.1)];exact he
       rw [finL,if_pos hen] at hQ
       subst hQ
       clear hst
       (have kr1:=hD;have kc1:=h3;refine w0 ?_;(repeat' first|refine W2.mk ?_ ?_|refine W1.mk fun hc=>?_);all_goals clear kc1 kr1)
       refine rt2 ?_ ?_
       · exact rv_nil rfl
       · exact rv_int rfl rfl
     · clear hst
       (have kr1:=hD;have kc1:=h3;refine w0 ?_;(repeat' first|refine W2.mk ?_ ?_|refine W1.mk fun hc=>?_);all_goals clear kc1 kr1)
       · rw [finL,if_pos (by assumption)] at hQ
         subst hQ
         refine rt2 ?_ ?_
         · exact rv_nil rfl
         · exact rv_int rfl rfl
       · rw [finL,if_neg (by simp [*]),if_neg (by simp_all)] at hQ
         subst hQ
         refine rt2 ?_ ?_
         · exact rv_nil rfl
         · exact rv_int rfl rfl
       · rw [finL,if_neg (by simp [*]),if_pos (by simp_all)] at hQ
         subst hQ
         refine rt2 ?_ ?_
         · exact rv_own rfl rfl rfl
         · exact rv_int rfl rfl
end
/-! ### owned things -/
/-- what is owned, as one who only reads sees it -/
def Lends (O:OV) (A:PV):Prop:=∀ {F N N':BP} {w:World} {v:Value},O.p F N w v → (∀ b,F b → b < w.heap.size ∧ ¬ N' b) → (∀ b,N' b → N b) → A.p N' w v
inductive LendsL:List OV → List PV → Prop
 | nil:LendsL [] []
 | cons {O:OV} {A:PV} {l:List OV} {l':List PV} (h:Lends O A) (k:LendsL l l'):LendsL (O :: l) (A :: l')
theorem LendsL.get {l:List OV} {l':List PV} (h:LendsL l l'):l'.length = l.length ∧ ∀ (j:Nat) (O:OV) (A:PV),l[j]? = some O → l'[j]? = some A → Lends O A:=by
 induction h with
 | nil=>exact ⟨rfl,fun j O A h=>by simp at h⟩
 | cons h k ih=>
   refine ⟨by simp [ih.1],fun j O' A' h1 h2=>?_⟩
   cases j with
   | zero=>simp at h1 h2;subst h1;subst h2;exact h
   | succ j=>exact ih.2 j O' A' (by simpa using h1) (by simpa using h2)
/-! ### cells of what is unfolded -/
inductive UC where
 | p (A:PV) (h:OneP A)
 | o (id:Nat) (O:OV)
def UC.cell (vr:Nat → Nat):UC → Cnt
 | .p A _=>.per A
 | .o id _=>.row id (vr id)
def memN (i:Nat):List Nat → Bool
 | []=>false
 | j :: l=>bif Nat.beq i j then true else memN i l
theorem memN_iff {i:Nat} {l:List Nat}:memN i l = true ↔ i ∈ l:=by
 induction l with
 | nil=>simp [memN]
 | cons j l ih=>
   unfold memN
   cases hb:Nat.beq i j with
   | true=>simp [nbeq_true.1 hb]
   | false=>
     have:i ≠ j:=fun e=>by rw [nbeq_true.2 e] at hb;cases hb
     simp [ih,this]
section
variable {P:Program} {n:Nat} {S:St} {C:Ctx} {g g':Gh} {w w':World} {I:Nat → Prop}
/-! ### unfolded -/
/-! ### folded -/
/-- what is to be folded lies ready -/
inductive ReadyU (S:St):List UC → Prop
 | nil:ReadyU S []
 | p {A:PV} {h:OneP A} {l:List UC} (k:ReadyU S l):ReadyU S (.p A h :: l)
 | o {i:Nat} {O:OV} {l:List UC} (h:S.blk i = .obj O) (k:ReadyU S l):ReadyU S (.o i O :: l)
theorem ReadyU.get {us:List UC} (h:ReadyU S us) {j i:Nat} {O:OV} (hj:us[j]? = some (.o i O)):S.blk i = .obj O:=by
 induction h generalizing j with
 | nil=>simp at hj
 | p k ih=>cases j with
   | zero=>simp at hj
   | succ j=>exact ih (by simpa using hj)
 | o h k ih=>cases j with
   | zero=>simp at hj;obtain ⟨rfl,rfl⟩:=hj;exact h
   | succ j=>exact ih (by simpa using hj)
end

/-! ### lent to readers -/
/-- a content that means the same whatever blocks may be turned -/
class AbsP (A:PV):Prop where
 h:∀ {N N':BP} {w:World} {v:Value},A.p N w v → A.p N' w v
instance {v:Value}:AbsP (rawP v):=⟨fun h=>h⟩
class AbsL (l:List PV):Prop where
 h:∀ A ∈ l,AbsP A
instance:AbsL []:=⟨fun _ h=>by simp at h⟩
instance {A:PV} {l:List PV} [h:AbsP A] [k:AbsL l]:AbsL (A :: l):=⟨fun B hB=>by
 rcases List.mem_cons.1 hB with e|e
 · subst e;exact h
 · exact k.h B e⟩
instance {l:List PV} [k:AbsL l]:AbsP (aggP l):=⟨fun ⟨vs,e,h1,h2⟩=>⟨vs,e,h1,fun j A hj=>let ⟨y,q1,q2,q3⟩:=h2 j A hj;⟨y,q1,q2,(k.h A (List.mem_of_getElem? hj)).h q3⟩⟩⟩
class AbsR (r:Ret):Prop where
 h:∀ {N N':BP} {w w':World} {v:Value},r.rep N w w' v → r.rep N' w w' v
instance {A:PV} [h:AbsP A]:AbsR (.per A):=⟨fun q=>h.h q⟩
instance {c d:Ret} [h:AbsR c] [k:AbsR d]:AbsR (.tup2 c d):=⟨fun ⟨x,y,e,h1,h2⟩=>⟨x,y,e,h.h h1,k.h h2⟩⟩
class AbsE (es:List (List PV)):Prop where
 h:∀ ps ∈ es,AbsL ps
instance {α:Type} {f:α → List PV} {l:List α} [h:∀ x,AbsL (f x)]:AbsE (l.map f):=⟨fun ps hp=>by
 obtain ⟨x,_,rfl⟩:=List.mem_map.1 hp
 exact h x⟩
instance {e k:Nat} {es:List (List PV)} [h:AbsE es]:AbsR (.own e k es):=⟨fun q=>by
 rcases q with q|⟨q,cap,cs,h1,h2,h3,h4,h5,h6,h7⟩
 · exact .inl q
 · exact .inr ⟨q,cap,cs,h1,h2,h3,h4,h5,h6,fun i ps hi=>⟨(h7 i ps hi).1,fun j A hj=>let ⟨y,q1,q2,q3⟩:=(h7 i ps hi).2 j A hj;⟨y,q1,q2,((h.h ps (List.mem_of_getElem? hi)).h A (List.mem_of_getElem? hj)).h q3⟩⟩⟩⟩
section
variable {P:Program} {n:Nat} {ops:Array Oper} {o:Oper} {F:List Nat} {S T:St} {C:Ctx} {g:Gh} {a:Act} {w w':World} {t:Nat}
/-- the blocks that a reader must not see turned, without what is lent to it -/
def lessN (C:Ctx) (g:Gh) (w:World) (ids:List Nat):BP:=fun b=>b < w.heap.size ∧ g.N C b ∧ ∀ i ∈ ids,g.ow b ≠ some i
def GivesP (F:List Nat) (S:St) (ids:List Nat) (x:Operand) (c:Cnt):Prop:=∀ (n:Nat) (C:Ctx) (T:St) (g:Gh) (a:Act) (w:World),Agree F T S → RG C n T g a w →
 crep ⟨w,lessN C g w ids,fun _=>False,g0⟩ (fun _=>0) g0 w (a.eval x) c
theorem nnL {ids:List Nat} {b:Nat} (h:(g0.N ⟨w,lessN C g w ids,fun _=>False,g0⟩) b):lessN C g w ids b:=by
 rcases h with h|h
 · exact h
 · exact absurd rfl h
/-- what a content says to a reader -/
inductive Sees (S:St) (ids:List Nat):Cnt → PV → Prop
 | per {A:PV}:Sees S ids (.per A) A
 | obj {id vr:Nat} {O:OV} {A:PV} (hv:S.ver id = vr) (hb:S.blk id = .obj O) (hl:Lends O A) (hi:memN id ids = true):Sees S ids (.row id vr) A
 | row {id vr e k:Nat} {es:List (List PV)} (hv:S.ver id = vr) (hb:S.blk id = .row e k es) (hi:memN id ids = true):Sees S ids (.row id vr) (lstP k es)
inductive SeesL (S:St) (ids:List Nat):List Cnt → List PV → Prop
 | nil:SeesL S ids [] []
 | cons {c:Cnt} {A:PV} {l:List Cnt} {l':List PV} (h:Sees S ids c A) (k:SeesL S ids l l'):SeesL S ids (c :: l) (A :: l')
theorem SeesL.get {ids:List Nat} {l:List Cnt} {l':List PV} (h:SeesL S ids l l'):l'.length = l.length ∧ ∀ (j:Nat) (c:Cnt) (A:PV),l[j]? = some c → l'[j]? = some A → Sees S ids c A:=by
 induction h with
 | nil=>exact ⟨rfl,fun j O A h=>by simp at h⟩
 | cons h k ih=>
   refine ⟨by simp [ih.1],fun j O' A' h1 h2=>?_⟩
   cases j with
   | zero=>simp at h1 h2;subst h1;subst h2;exact h
   | succ j=>exact ih.2 j O' A' (by simpa using h1) (by simpa using h2)
theorem Sees.rep {ids:List Nat} {c:Cnt} {A:PV} (h:Sees S ids c A) (hA:Agree F T S) (hF:∀ i ∈ ids,2 * i + 1 ∈ F) (hR:RG C n T g a w) {v:Value} (hc:crep C T.ver g w v c):A.p (lessN C g w ids) w v:=by
 cases h with
 | per=>exact A.mono (Nat.le_refl _) (fun _ _ _=>rfl) (fun b _ hb=>hb.2.1) hc
 | @obj id vr O A hv hb hl hi=>
   have hF':=hF id (memN_iff.1 hi)
   have h1:=hR.blks id
   rw [(hA.2 id hF').1,hb] at h1
   rw [hc.2 (by rw [(hA.2 id hF').2,hv])]
   exact hl h1 (fun b hb=>⟨(hR.dom b id hb).1,fun q=>q.2.2 id (memN_iff.1 hi) hb⟩) (fun b hb=>hb.2.1)
 | @row id vr e k es hv hb hi=>
   have hF':=hF id (memN_iff.1 hi)
   have h1:=hR.blks id
   rw [(hA.2 id hF').1,hb] at h1
   rw [hc.2 (by rw [(hA.2 id hF').2,hv])]
   show lstAt _ _ k es w (g.rh id)
   rcases h1 with ⟨q1,rfl⟩|⟨cap,cs,q1,q2,q3,q4,q5,q6,q7⟩
   · exact ⟨none,0,0,0,by rw [q1];rfl,by simp,by decide,fun _=>rfl,by simp,fun i cs hi=>by simp at hi⟩
   · refine ⟨_,cap,g.ph id,0,q1,q4,q5,by simp,fun _=>⟨rfl,(hR.dom _ _ q3).1,fun hn=>hn.2.2 id (memN_iff.1 hi) q3⟩,fun i ps hi=>?_⟩
     obtain ⟨r1,r2⟩:=q7 i ps hi
     refine ⟨r1,fun j A hj=>?_⟩
     obtain ⟨y,s1,s2,s3⟩:=r2 j A hj
     exact ⟨y,by rw [Nat.zero_add,cell_at q2];exact s1,s2,A.mono (Nat.le_refl _) (fun _ _ _=>rfl) (fun b _ hb=>hb.2.1) s3⟩
inductive GivesPL (F:List Nat) (S:St) (ids:List Nat):List Operand → List Cnt → Prop
 | nil:GivesPL F S ids [] []
 | cons {x:Operand} {c:Cnt} {xs:List Operand} {cs:List Cnt} (h:GivesP F S ids x c) (t:GivesPL F S ids xs cs):GivesPL F S ids (x :: xs) (c :: cs)
theorem GivesPL.rep {ids:List Nat} {xs:List Operand} {cs:List Cnt} (h:GivesPL F S ids xs cs) (hA:Agree F T S) (hR:RG C n T g a w):argsRep (lessN C g w ids) w (xs.map a.eval) cs:=by
 induction h with
 | nil=>exact ⟨rfl,fun i v c hi=>by simp at hi⟩
 | cons h t ih=>
   refine ⟨by simp [ih.1],fun i v c hi hc=>?_⟩
   cases i with
   | zero=>
     simp at hi hc;subst hi;subst hc
     exact h n C T g a w hA hR
   | succ i=>exact ih.2 i v c (by simpa using hi) (by simpa using hc)
theorem op_callP {ids:List Nat} {f:FuncId} {xs:List Operand} {As:List Cnt} {r:Ret} (hp:Pl n o t) (ho:isCall o f xs) (hf:Fn P f As r) (hpl:r.plain = true) (ha:AbsR r) (hg:GivesPL F S ids xs As):OpOk n P ops o F (ansC t 0 r) [] S:=by
 refine ⟨?_⟩
 intro C T hA a w ⟨g,hR⟩
 unfold Exec
 rw [if_pos (hp.wanted a)]
 refine callWp hf.ent ho (hf.run _ w (xs.map a.eval) (fun b h=>h.1) (hg.rep hA hR)) ?_
 rintro v w' ⟨hx,hr⟩
 exact ⟨g,hR.app0 hx hp.dOk (ans_plain hR hpl (ha.h hr))⟩
end
end Go.Proofs.YthlffkjpklpkfaaGreat
