/- Texts joined: PlA SwT SwV SwK SwY. -/
import Derived.Test.YtembiemaiacdfaaGreatJ23
import Derived.Test.YtembiemaiacdfaaGreatJ28
import Derived.Test.YtembiemaiacdfaaGreatJ05
import Derived.Test.YtembiemaiacdfaaGreatJ27
set_option maxRecDepth 10000
set_option maxHeartbeats 8000000
namespace Go.Proofs.YtembiemaiacdfaaGreat
open Go.RowKit
theorem z7 {c:Int} (h:1 ≤ c ∧ c ≤ 1099511627776):cH [⟨c,c⟩]:=fun i hi=>by
 intro hi'
 have:i = 0:=by simp at hi;omega
 subst this
 exact ⟨(br _).2 ⟨by simp;omega,by simp,by simp;omega⟩,fun q=>by omega⟩
theorem FG {r c:Int} (h:dF r c = true):1 ≤ r ∧ r ≤ 16 ∧ 1 ≤ c ∧ c ≤ 1099511627776:=by
 unfold dF at h
 simp at h
 omega
theorem IV {r c:Int} (h:dF r c = true) {q:Nat} (hq:r - 1 = (q:Int)):aX ofR 0 ((bT []).set q [⟨c,c⟩]) = [⟨r,[⟨c,c⟩]⟩]:=by
 have hv:=FG h
 have h1:=qc [] ⟨r,[⟨c,c⟩]⟩ (r:=q) (by omega) (by simp only;omega)
 rw [show aQ [] q ++ [(⟨c,c⟩:Rn)] = [⟨c,c⟩] from rfl,List.nil_append] at h1
 rw [← h1]
 exact mX ((l7 _ _).2 ⟨⟨hv.1,hv.2.1,by simp,z7 hv.2.2⟩,fun q hq=>by simp at hq,gZ⟩)
section
theorem FH (c:Int) (h:1 ≤ c ∧ c ≤ 1099511627776):Fn Tryz.prog 206 [.per (jc []),vh [c]] (vK [⟨c,c⟩]):=by
 have h1:=(lZ [] (by simp))
 have h2:=tx [⟨c,c⟩] (by simp)
 rw [xU (z7 h)] at h2
 refine fi Tryz.func206 Tryz.ntmps206 ?_
 (have kc1:=h1;refine w0 ?_;(repeat' first|refine W2.mk ?_ ?_|refine W1.mk fun hc=>?_);all_goals clear kc1)
 refine cc (aM 9 700) ?_
 refine ah (X:=Nat) (fun i=>i ≤ 1) (fun i=>aJ [(5,.row 700 0),(10,vh [c]),(11,iC .i64 1),(12,iC .i64 (i:Nat))] [(700,.row 132 2 (([⟨c,c⟩]:List Rn).take i |>.map rnP))]) (fun i=>1 - i) 0 (Nat.zero_le _) ?_ ?_
 · exact ab
 · rintro i hi
   by_cases h0:i = 0
   · subst h0
     clear h1 h2
     (refine w0 ?_;(repeat' first|refine W2.mk ?_ ?_|refine W1.mk fun hc=>?_))
     refine ⟨1,by omega,by omega,an (aM 700 701) (an (aM 701 700) ?_)⟩
     exact ab
   · obtain rfl:i = 1:=by omega
     clear h1
     (have kc1:=h2;refine w0 ?_;(repeat' first|refine W2.mk ?_ ?_|refine W1.mk fun hc=>?_);all_goals clear kc1)
     refine aO ?_
     exact cn rfl rfl rfl
theorem IW (l:List Vn) (hl:l.length = 1) (r c:Int) (hr:l[0].1 = r) (hc0:l[0].2 = c) (h:dF r c = true):Fn Tryz.prog 181 [.per (ao (.slice none 0 0)),BH l] (lG [⟨r,[⟨c,c⟩]⟩]):=by
 have hv:=FG h
 have h1:=tw [] ⟨by simp,by simp⟩
 have h2:=ei l[0].1 l[0].2
 rw [hr,hc0,h] at h2
 obtain ⟨q,hq⟩:∃ q:Nat,l[0].1 - 1 = (q:Nat):=⟨(r - 1).toNat,by omega⟩
 have h3:=FH c hv.2.2
 have hT:=bg []
 have hset:=IV h (hr ▸ hq)
 have hT2:((bT []).set q [⟨c,c⟩]).length = 16:=by rw [List.length_set];exact hT
 have h4:=zz ofR ((bT []).set q [⟨c,c⟩]) hT2 (fun l hl=>tx l (by
   rcases List.mem_or_eq_of_mem_set hl with q|q
   · unfold bT at q
     obtain ⟨j,_,rfl⟩:=List.mem_map.1 q
     simp [aQ]
   · rw [q];simp))
 rw [hset] at h4
 have hg:(bT [])[q]? = some []:=by rw [bQ [] (by omega)];rfl
 generalize bT [] = T at *
 have HJ:(gC T)[0 + q * 1]? = some (.per (jc [])):=by
   rw [Nat.zero_add,Nat.mul_one,List.getElem?_map,hg];rfl
 have HB:Nat.ble (0 + q * 1 + 1) (gC T).length = true:=Nat.ble_eq_true_of_le (by simp;omega)
 have HF:∀ (F:Cnt → Cnt) (d:Cnt),(∀ A,F (.per A) = .per A) → F d = .per (bK 2 ([⟨c,c⟩].map rnP)) → (gL (gC T) (0 + q * 1) [d]).map F = gC (T.set q [⟨c,c⟩]):=fun F d e1 e2=>by
   rw [Nat.zero_add,Nat.mul_one,vk _ _ _ (by simp;omega),List.map_set,e2,vM e1]
   unfold gC
   rw [List.map_set]
 refine fi Tryz.func181 Tryz.ntmps181 ?_
 (have kc1:=h1;refine w0 ?_;(repeat' (first|refine W2.mk ?_ ?_|refine W1.mk fun hc=>?_|((first|apply aB rfl|apply aC rfl|apply aD rfl|apply aF rfl);(focus (first|((apply ax 6;(focus rfl);exact jh ⟨rfl,rfl⟩ rfl inferInstance rfl rfl rfl rfl rfl rfl (by simp [hT])))|(apply bt;(focus rfl);apply ag rfl rfl rfl rfl rfl;first|((apply ax 6;(focus rfl);exact jh ⟨rfl,rfl⟩ rfl inferInstance rfl rfl rfl rfl rfl rfl (by simp [hT]))))));refine w0 ?_)));all_goals clear kc1)
 clear h1
 refine ah (X:=Nat) (fun i=>i ≤ 1) (fun i=>aJ [(5,.ptr 5 0 0),(10,BH l),(11,iC .i64 1),(12,iC .i64 (i:Nat))] [(5,.box 214 (gC (if i = 0 then T else T.set q [⟨c,c⟩])))]) (fun i=>1 - i) 0 (Nat.zero_le _) ?_ ?_
 · (refine lB ?_ ?_;(focus ((repeat (first|exact gd.nil|(refine gd.cons ?_ ?_;rotate_left)));(all_goals try (first|rfl|(refine GP ?_;first|omega|(simp;done)|(simp;omega))|(refine ro ?_;first|(simp;done)|(simp [*];done))))));(focus ((repeat (first|exact gg.nil|(refine gg.cons ?_ ?_;rotate_left)));(all_goals try (first|rfl|(refine nK ?_;(rw [List.map_append] <;> rfl);done)|(refine lC ?_;(rw [List.map_append] <;> rfl);done))))))
   rw [if_pos rfl]
   show Blk.box _ (List.map _ (gL _ 0 ((T.map jc).map .per))) = _
   rw [r8 (by rw [List.length_map,List.length_map,hT];rfl),qe]
   exact congrArg _ (vM (fun _=>rfl))
 · rintro i hi
   by_cases h0:i = 0
   · subst h0
     rw [if_pos rfl]
     clear h4 hset
     subst hr;subst hc0
     (have kc1:=h2;have ko1:=h3;have ke1:=Lib.hid (hq);refine bm ?_;(repeat' (first|refine W2.mk ?_ ?_|refine W1.mk fun hc=>?_|((first|apply aB rfl|apply aC rfl|apply aD rfl|apply aF rfl);(focus (first|((apply ax 5;(focus rfl);exact iK ⟨rfl,rfl,rfl⟩ rfl inferInstance rfl rfl rfl HJ))|((apply ax 6;(focus rfl);exact fL (c:=.row _ _) ⟨rfl,rfl⟩ rfl inferInstance rfl rfl rfl HB rfl (by first|exact cL (by first|exact ca rfl rfl|exact cb|exact cF)|exact cM rfl|exact cN rfl rfl|exact cO rfl rfl|exact cp|exact cq|exact cr)))|(apply bt;(focus rfl);apply ag rfl rfl rfl rfl rfl;first|((apply ax 5;(focus rfl);exact iK ⟨rfl,rfl,rfl⟩ rfl inferInstance rfl rfl rfl HJ))|((apply ax 6;(focus rfl);exact fL (c:=.row _ _) ⟨rfl,rfl⟩ rfl inferInstance rfl rfl rfl HB rfl (by first|exact cL (by first|exact ca rfl rfl|exact cb|exact cF)|exact cM rfl|exact cN rfl rfl|exact cO rfl rfl|exact cp|exact cq|exact cr))))));refine bm ?_)));all_goals clear ke1 ko1 kc1)
     refine ⟨1,by omega,by omega,an (gl 29 _ 132 2 rfl rfl) ?_⟩
     (refine lB ?_ ?_;(focus ((repeat (first|exact gd.nil|(refine gd.cons ?_ ?_;rotate_left)));(all_goals try (first|rfl|(refine GP ?_;first|omega|(simp;done)|(simp;omega))|(refine ro ?_;first|(simp;done)|(simp [*];done))))));(focus ((repeat (first|exact gg.nil|(refine gg.cons ?_ ?_;rotate_left)));(all_goals try (first|rfl|(refine nK ?_;(rw [List.map_append] <;> rfl);done)|(refine lC ?_;(rw [List.map_append] <;> rfl);done))))))
     rw [if_neg (by omega)]
     show Blk.box _ (List.map _ (List.map _ _)) = _
     rw [List.map_map]
     exact congrArg (Blk.box _) (HF _ _ (fun _=>rfl) rfl)
   · obtain rfl:i = 1:=by omega
     rw [if_neg (by omega)]
     clear h2 h3
     have HP:=nT hT2
     have HB':=qf hT2
     generalize T.set q [⟨c,c⟩] = T2 at *
     (have kc1:=h4;refine w0 ?_;(repeat' (first|refine W2.mk ?_ ?_|refine W1.mk fun hc=>?_|((first|apply aB rfl|apply aC rfl|apply aD rfl|apply aF rfl);(focus (first|((apply ax 5;(focus rfl);exact fS ⟨rfl,rfl,rfl⟩ rfl inferInstance inferInstance rfl rfl rfl rfl HB' HP))|(apply bt;(focus rfl);apply ag rfl rfl rfl rfl rfl;first|((apply ax 5;(focus rfl);exact fS ⟨rfl,rfl,rfl⟩ rfl inferInstance inferInstance rfl rfl rfl rfl HB' HP)))));refine w0 ?_)));all_goals clear kc1)
     refine aO ?_
     exact cn rfl rfl rfl
theorem FJ (s:ByteArray) (hs:s.size ≤ 1000):Fn Tryz.prog 207 [sC s] (.per (ao (.string (s ++ ⟨#[0]⟩)))):=by
 have hz:(⟨#[0]⟩:ByteArray).size = 1:=rfl
 refine fi Tryz.func207 Tryz.ntmps207 ?_
 (refine w0 ?_;(repeat' first|refine W2.mk ?_ ?_|refine W1.mk fun hc=>?_))
 refine aO ?_
 exact b0 rfl
theorem IY (s:ByteArray) (hs:s.size ≤ 16):Fn Tryz.prog 182 [sC s] (.per (bW (rgP ⟨s,s ++ ⟨#[0]⟩,false⟩))):=by
 have h1:=FJ s (by omega)
 refine fi Tryz.func182 Tryz.ntmps182 ?_
 (have kc1:=h1;refine w0 ?_;(repeat' first|refine W2.mk ?_ ?_|refine W1.mk fun hc=>?_);all_goals clear kc1)
 refine aO ?_
 exact ec inferInstance inferInstance rfl rfl rfl rfl rfl rfl
theorem Km (k:List Pc) (s:ByteArray) (r c:Int) (hs:fy s = true) (h:dF r c = true) (hk:cJ (k ++ jf s r c)):Fn Tryz.prog 134 [l9 k,sC s,BH [(r,c)]] (.per (ip (wP (k ++ jf s r c)))):=by
 have h1:=qH [(r,c)] (by simp)
 have e1:iU (jB ([(r,c)].filter Kj)) = [(r,c)]:=by
   have:Kj (r,c) = true:=h
   simp only [List.filter_cons,this,List.filter_nil,if_true]
   rw [List.perm_singleton.1 (qG [(r,c)])];rfl
 rw [e1] at h1
 have h2:=(IW [(r,c)] rfl r c rfl rfl h).frz
 have h3:=fN s
 rw [hs] at h3
 have hz:s.size ≤ 16:=by unfold fy at hs;simp at hs;omega
 have h4:=IY s hz
 have h5:=(Iw [k,jf s r c] (by simp) (by simpa using hk)).frz
 rw [show ([k,jf s r c]:List (List Pc)).flatten = k ++ jf s r c by simp] at h5
 generalize wP (k ++ jf s r c) = R at *
 unfold jf at h5
 rw [hs,h,if_pos (by rfl)] at h5
 clear hk e1
 refine fi Tryz.func134 Tryz.ntmps134 ?_
 (have kc1:=h1;have kc2:=h2;have kc3:=h3;have kc4:=h4;refine w0 ?_;(repeat' first|refine W2.mk ?_ ?_|refine W1.mk fun hc=>?_);all_goals clear kc4 kc3 kc2 kc1)
 refine kg (bv 19 700 110 4 rfl rfl) ?_
 (refine w0 ?_;(repeat' first|refine W2.mk ?_ ?_|refine W1.mk fun hc=>?_))
 refine kg (gl 700 _ 110 4 rfl rfl) ?_
 (have kc1:=h5;refine w0 ?_;(repeat' first|refine W2.mk ?_ ?_|refine W1.mk fun hc=>?_);all_goals clear kc1)
 refine aO ?_
 exact b0 rfl
end
theorem FK {l:List Rn} (h:cH l):∀ r ∈ l,r.to ≤ j6 l:=by
 have mono:∀ (d i:Nat) (hi:i + d < l.length),(l[i]'(by omega)).to ≤ (l[i + d]'hi).to:=by
   intro d
   induction d with
   | zero=>intro i hi;exact Int.le_refl _
   | succ d ih=>
     intro i hi
     have h1:=ih i (by omega)
     have h2:=h (i + d + 1) (by omega) (by omega)
     have h3:=(br _).1 h2.1
     have h4:=h2.2 (by omega)
     have e:i + d + 1 - 1 = i + d:=by omega
     simp only [e] at h4
     have e2:i + (d + 1) = i + d + 1:=by omega
     simp only [e2]
     omega
 intro r hr
 obtain ⟨i,hi,rfl⟩:=List.getElem_of_mem hr
 have hl:j6 l = (l[l.length - 1]'(by omega)).to:=by
   unfold j6
   rw [List.getLast?_eq_getElem?,List.getElem?_eq_getElem (by omega)]
 have:=mono (l.length - 1 - i) i (by omega)
 have e:i + (l.length - 1 - i) = l.length - 1:=by omega
 simp only [e] at this
 rw [hl];exact this
theorem wn {l:List Rn} {c:Int} (hc:0 ≤ c):ki l ≤ c ↔ ∀ n,dS l n → n ≤ c:=by
 unfold ki
 have hk:=lX l
 constructor
 · intro h n hn
   obtain ⟨r,h1,h2,h3,h4⟩:=(fk l n).2 hn
   have:=FK hk r h1
   omega
 · intro h
   by_cases e:ofR l = []
   · rw [e];exact hc
   · have hp:0 < (ofR l).length:=List.length_pos_iff.2 e
     have hl:j6 (ofR l) = ((ofR l)[(ofR l).length - 1]'(by omega)).to:=by
       unfold j6
       rw [List.getLast?_eq_getElem?,List.getElem?_eq_getElem (by omega)]
     have h1:=(hk ((ofR l).length - 1) (by omega) (by omega)).1
     have h2:=(br _).1 h1
     rw [hl]
     refine h _ ((fk l _).1 ⟨_,List.getElem_mem (by omega),h1,by omega,Int.le_refl _⟩)
theorem kU {s:List Kn} {id c:Int} (hc:0 ≤ c):gJ s id ≤ c ↔ (1 ≤ id ∧ id ≤ 16 → ∀ n,dS (aQ s (id - 1).toNat) n → n ≤ c):=by
 unfold gJ
 by_cases h:1 ≤ id ∧ id ≤ 16
 · rw [if_pos h,wn hc];exact ⟨fun q _=>q,fun q=>q h⟩
 · rw [if_neg h];exact ⟨fun _ q=>absurd q h,fun _=>hc⟩
theorem yI (id c:Int):∀ (k:List Pc) (n:Int),k.foldl (fun n p=>max n (gJ p.set id)) n ≤ c ↔ n ≤ c ∧ ∀ p ∈ k,gJ p.set id ≤ c:=by
 intro k
 induction k with
 | nil=>intro n;simp
 | cons p k ih=>
   intro n
   rw [List.foldl_cons,ih]
   constructor
   · rintro ⟨h1,h2⟩
     refine ⟨by omega,fun q hq=>?_⟩
     rcases List.mem_cons.1 hq with rfl|hq
     · omega
     · exact h2 q hq
   · rintro ⟨h1,h2⟩
     have:=h2 p List.mem_cons_self
     exact ⟨by omega,fun q hq=>h2 q (List.mem_cons_of_mem _ hq)⟩
theorem FL {k:List Pc} {s:ByteArray} (h:cE k s ≠ []):∃ p ∈ k,p.set = cE k s:=by
 induction k with
 | nil=>exact absurd (kM s) h
 | cons p k ih=>
   by_cases q:bR p.rg s = true
   · exact ⟨p,List.mem_cons_self,(gR q).symm⟩
   · rw [dH q] at h ⊢
     obtain ⟨r,h1,h2⟩:=ih h
     exact ⟨r,List.mem_cons_of_mem _ h1,h2⟩
theorem BI (id:Int):gJ [] id = 0:=by
 unfold gJ
 split
 · have:ki (aQ [] (id - 1).toNat) ≤ 0:=(wn (Int.le_refl 0)).2 fun n h=>by
     unfold aQ at h;exact absurd h (dU n)
   have:=E5 (aQ [] (id - 1).toNat)
   omega
 · rfl
theorem kV {k:List Pc} (hk:bd k) {id c:Int} (hc:0 ≤ c):e7 k id ≤ c ↔ ∀ s,gJ (cE k s) id ≤ c:=by
 unfold e7
 rw [yI]
 constructor
 · rintro ⟨_,h⟩ s
   by_cases e:cE k s = []
   · rw [e,BI];exact hc
   · obtain ⟨p,h1,h2⟩:=FL e
     rw [← h2];exact h p h1
 · intro h
   refine ⟨hc,fun p hp=>?_⟩
   obtain ⟨_,s,h2⟩:=qI hk p hp
   rw [← h2];exact h s
theorem yJ {a b:List Pc} (ha:bd a) (hb:bd b) {id c:Int} (hc:0 ≤ c) (h1:e7 a id ≤ c) (h2:e7 b id ≤ c):e7 (wP (a ++ b)) id ≤ c:=by
 obtain ⟨h3,h4⟩:=tF (a ++ b)
 rw [kV h3 hc]
 intro s
 rw [h4,ym,kU hc]
 intro hid n hn
 rw [mc _ (by omega),fk,oc,iq,gU ha,gU hb] at hn
 rcases hn with hn|hn
 · exact (kU hc).1 ((kV ha hc).1 h1 s) hid n hn
 · exact (kU hc).1 ((kV hb hc).1 h2 s) hid n hn
theorem nd {k:List Pc} (hk:bd k) {f:List Rg}:cY k f = k ↔ ∀ s,bn f s = false → cE k s = []:=by
 obtain ⟨h1,h2⟩:=m7 k f
 constructor
 · intro h s hs
   rw [← h,h2]
   unfold jv
   rw [hs];rfl
 · intro h
   refine ql h1 hk fun s=>?_
   rw [h2]
   unfold jv
   by_cases q:bn f s = true
   · rw [if_pos q,gU hk]
   · rw [if_neg q];exact (h s (by simpa using q)).symm
theorem BJ {a b:List Pc} (ha:bd a) (hb:bd b) {f:List Rg} (h1:cY a f = a) (h2:cY b f = b):cY (wP (a ++ b)) f = wP (a ++ b):=by
 obtain ⟨h3,h4⟩:=tF (a ++ b)
 rw [nd h3]
 intro s hs
 rw [h4,ym,gU ha,gU hb,(nd ha).1 h1 s hs,(nd hb).1 h2 s hs]
 exact E8
theorem IZ {l:List It} (h:Up l):(l.map It.key).Pairwise (· < ·):=by
 rw [List.pairwise_map]
 refine h.imp fun {x y} q=>?_
 rw [gI] at q
 exact (e9 _ _).1 q
theorem Ko {s:Sta} (h1:1 ≤ s.id ∧ s.id ≤ 16) (h2:0 ≤ s.cnt ∧ s.cnt ≤ 1099511627776) (h3:s.its.length ≤ 4096) (h4:cG s.flt) (h5:fE s.its = true) (h6:bd s.know) (h7:cY s.know s.flt = s.know) (h8:e7 s.know s.id ≤ s.cnt) (h9:er s.its = true) (h10:∀ x ∈ s.its,bn s.flt x.key = true ∧ bZ s.know x.key x.rep x.cnt = true):ko s = true:=by
 unfold ko
 rw [decide_eq_true h1,decide_eq_true h2,decide_eq_true h3,decide_eq_true h4,h5,decide_eq_true h6,decide_eq_true h7,decide_eq_true h8,h9]
 simp only [Bool.true_and,List.all_eq_true,Bool.and_eq_true]
 exact h10
theorem j9 {s:Sta} (h:ko s = true):(1 ≤ s.id ∧ s.id ≤ 16) ∧ (0 ≤ s.cnt ∧ s.cnt ≤ 1099511627776) ∧ s.its.length ≤ 4096 ∧ cG s.flt ∧ fE s.its = true ∧ bd s.know ∧ cY s.know s.flt = s.know ∧ e7 s.know s.id ≤ s.cnt ∧ er s.its = true ∧ ∀ x ∈ s.its,bn s.flt x.key = true ∧ bZ s.know x.key x.rep x.cnt = true:=by
 unfold ko at h
 simp only [Bool.and_eq_true,decide_eq_true_eq,List.all_eq_true] at h
 obtain ⟨⟨⟨⟨⟨⟨⟨⟨⟨h1,h2⟩,h3⟩,h4⟩,h5⟩,h6⟩,h7⟩,h8⟩,h9⟩,h10⟩:=h
 exact ⟨h1,h2,h3,h4,h5,h6,h7,h8,h9,h10⟩
theorem wo {l:List It} (h:fE l = true):l.all fx = true:=by
 unfold fE at h
 rw [Bool.and_eq_true] at h
 exact h.1
theorem BK:∀ (a s:List UInt8),ci a s ≤ 0 → ci s (a ++ [0]) < 0 → s = a:=by
 intro a
 induction a with
 | nil=>
   intro s _ h
   cases s with
   | nil=>rfl
   | cons c t=>
     exfalso
     have hc:¬ c.toNat < (0:UInt8).toNat:=by simp
     simp only [List.nil_append,ci] at h
     rw [if_neg hc] at h
     split at h
     · omega
     · cases t <;> simp [ci] at h
 | cons x a ih=>
   intro s h1 h2
   cases s with
   | nil=>simp [ci] at h1
   | cons c t=>
     simp only [List.cons_append,ci] at h1 h2
     by_cases q1:x.toNat < c.toNat
     · rw [if_neg (by omega),if_pos q1] at h2;omega
     · rw [if_neg q1] at h1
       by_cases q2:c.toNat < x.toNat
       · rw [if_pos q2] at h1;omega
       · rw [if_neg q2] at h1
         rw [if_neg q2,if_neg q1] at h2
         have e:c = x:=UInt8.toNat_inj.1 (by omega)
         rw [e,ih t h1 h2]
theorem su:∀ (a:List UInt8),ci a (a ++ [0]) < 0:=by
 intro a
 induction a with
 | nil=>simp [ci]
 | cons x a ih=>
   simp only [List.cons_append,ci]
   rw [if_neg (by omega),if_neg (by omega)];exact ih
theorem app0 (k:ByteArray):(k ++ ⟨#[0]⟩:ByteArray).data.toList = k.data.toList ++ [0]:=by simp
theorem JC {k:ByteArray} (h:fy k = true):eo ⟨k,k ++ ⟨#[0]⟩,false⟩ = true:=by
 rw [bH]
 unfold fy at h
 simp at h
 have hs:(k ++ ⟨#[0]⟩:ByteArray).size = k.size + 1:=by rw [ByteArray.size_append];rfl
 refine ⟨by simp only;omega,by simp only;omega,?_⟩
 simp only [Bool.false_eq_true,if_false]
 unfold bO
 rw [app0]
 exact su _
theorem wq {k:ByteArray} (h:fy k = true) (s:ByteArray):bR ⟨k,k ++ ⟨#[0]⟩,false⟩ s = true ↔ s = k:=by
 rw [b9 (JC h)]
 simp only [Bool.false_eq_true,false_or]
 constructor
 · rintro ⟨h1,h2⟩
   rw [← vC] at h1
   rw [← e9] at h2
   unfold bO at h1 h2
   rw [app0] at h2
   exact ByteArray.ext (Array.ext' (BK _ _ h1 h2))
 · rintro rfl
   refine ⟨(vC _ _).1 (by rw [p6];decide),?_⟩
   rw [← e9]
   unfold bO
   rw [app0]
   exact su _
theorem qK {k:ByteArray} {r c:Int} (h1:fy k = true) (h2:dF r c = true):bd (jf k r c) ∧ ∀ s,cE (jf k r c) s = if s = k then [⟨r,[⟨c,c⟩]⟩] else []:=by
 unfold jf
 rw [h1,h2,if_pos (by rfl)]
 have hv:1 ≤ r ∧ r ≤ 16 ∧ 1 ≤ c ∧ c ≤ 1099511627776:=by
   unfold dF at h2
   simp at h2
   omega
 have hkn:bX [⟨r,[⟨c,c⟩]⟩]:=by
   rw [l7]
   refine ⟨⟨hv.1,hv.2.1,by simp,fun i hi=>?_⟩,fun q hq=>(by simp at hq),gZ⟩
   intro hi'
   have:i = 0:=by simp at hi;omega
   subst this
   exact ⟨(br _).2 ⟨by simp;omega,by simp,by simp;omega⟩,fun q=>by omega⟩
 refine ⟨(ce _ _).2 ⟨⟨JC h1,by simp,hkn⟩,fun q hq=>(by simp at hq),ll⟩,fun s=>?_⟩
 by_cases e:s = k
 · rw [if_pos e,gR ((wq h1 s).2 e)]
 · rw [if_neg e,dH (fun w=>e ((wq h1 s).1 w)),kM]
theorem z8 {r c:Int} (hr:1 ≤ r ∧ r ≤ 16) {j:Int} (hj:1 ≤ j):aQ [⟨r,[⟨c,c⟩]⟩] (j - 1).toNat = if r = j then [⟨c,c⟩] else []:=by
 unfold aQ
 simp only [List.flatMap_cons,List.flatMap_nil,List.append_nil]
 by_cases e:r = j
 · rw [if_pos e,if_pos (by omega)]
 · rw [if_neg e,if_neg (by omega)]
theorem FM {k:ByteArray} {r c:Int} (h1:fy k = true) (h2:dF r c = true):e7 (jf k r c) r ≤ c:=by
 obtain ⟨a1,a2⟩:=qK h1 h2
 have hv:1 ≤ r ∧ r ≤ 16 ∧ 1 ≤ c ∧ c ≤ 1099511627776:=by
   unfold dF at h2
   simp at h2
   omega
 rw [kV a1 (by omega)]
 intro s
 rw [a2,kU (by omega)]
 intro _ n hn
 split at hn
 · rw [z8 ⟨hv.1,hv.2.1⟩ hv.1,if_pos rfl,bq] at hn
   rcases hn with hn|hn
   · exact hn.2.2
   · exact absurd hn (dU n)
 · unfold aQ at hn;exact absurd hn (dU n)
theorem I0 {k:ByteArray} {r c:Int} (h1:fy k = true) (h2:dF r c = true):bZ (jf k r c) k r c = true:=by
 obtain ⟨a1,a2⟩:=qK h1 h2
 have hv:1 ≤ r ∧ r ≤ 16 ∧ 1 ≤ c ∧ c ≤ 1099511627776:=by
   unfold dF at h2
   simp at h2
   omega
 rw [jw a1,a2,if_pos rfl,jx]
 refine ⟨h2,?_⟩
 rw [z8 ⟨hv.1,hv.2.1⟩ hv.1,if_pos rfl,bq]
 exact .inl ⟨(br _).2 ⟨by simp;omega,by simp,by simp;omega⟩,by simp,by simp⟩
theorem FN {k:ByteArray} {r c:Int} {f:List Rg} (h1:fy k = true) (h2:dF r c = true) (hf:bn f k = true):cY (jf k r c) f = jf k r c:=by
 obtain ⟨a1,a2⟩:=qK h1 h2
 rw [nd a1]
 intro s hs
 rw [a2,if_neg (fun e=>by rw [e,hf] at hs;cases hs)]
theorem Kp {k:List Pc} (hk:bd k) {id cnt:Int} (hc:0 ≤ cnt) (h:e7 k id ≤ cnt) {s:ByteArray} {c:Int} (hp:bZ k s id c = true):c ≤ cnt:=by
 rw [jw hk,jx] at hp
 exact (kU hc).1 ((kV hk hc).1 h s) (qu hp.1) c hp.2
theorem oo {l:List It} {k:ByteArray} {y:It} (h:iu l k = some y):y ∈ l ∧ y.key = k:=by
 unfold iu at h
 exact ⟨List.mem_of_find?_eq_some h,by simpa using List.find?_some h⟩
theorem BL {l:List It} {k:ByteArray} (h:iu l k = none):∀ y ∈ l,y.key ≠ k:=by
 unfold iu at h
 rw [List.find?_eq_none] at h
 intro y hy
 simpa using h y hy
theorem FO:∀ (l:List It) (x:It),(gF x l).length ≤ l.length + 1:=by
 intro l
 induction l with
 | nil=>intro x;rw [gF];simp
 | cons y l ih=>
   intro x
   rw [gF]
   split
   · have:=ih x;simp only [List.length_cons];omega
   · have:=List.length_filter_le (fun z:It=>decide (z.key ≠ x.key)) (y :: l)
     simp only [List.length_cons] at this ⊢;omega
theorem BM:∀ (l:List It) (x:It),(∃ y ∈ l,y.key = x.key) → (gF x l).length ≤ l.length:=by
 intro l
 induction l with
 | nil=>rintro x ⟨y,hy,_⟩;cases hy
 | cons y l ih=>
   rintro x ⟨z,hz,hk⟩
   rw [gF]
   split
   · rename_i hc
     rcases List.mem_cons.1 hz with rfl|hz
     · rw [hk,(j4 _ _).2 rfl] at hc;omega
     · have:=ih x ⟨z,hz,hk⟩;simp only [List.length_cons];omega
   · have:((y :: l).filter fun z=>decide (z.key ≠ x.key)).length < (y :: l).length:=
       List.length_filter_lt_length_iff_exists.2 ⟨z,hz,by simp [hk]⟩
     simp only [List.length_cons] at this ⊢;omega
theorem tV (l:List It) (x:It):∀ z ∈ gF x l,z = x ∨ z ∈ l:=fun z hz=>(v7 l x z hz).imp id And.left
theorem yK:∀ (l:List It) (x:It),er l = true → (∀ y ∈ l,verOf y ≠ verOf x) → er (gF x l) = true:=by
 intro l
 induction l with
 | nil=>intro x _ _;rw [gF];unfold er;simp
 | cons y l ih=>
   intro x h hn
   have h':=of_decide_eq_true h
   rw [List.map_cons,List.nodup_cons] at h'
   rw [gF]
   split
   · have i1:=of_decide_eq_true (ih x (decide_eq_true h'.2) (fun z hz=>hn z (List.mem_cons_of_mem _ hz)))
     refine decide_eq_true ?_
     rw [List.map_cons,List.nodup_cons]
     refine ⟨fun w=>?_,i1⟩
     obtain ⟨z,hz,e⟩:=List.mem_map.1 w
     rcases tV l x z hz with rfl|q
     · exact hn y List.mem_cons_self e.symm
     · exact h'.1 (by rw [← e];exact List.mem_map_of_mem q)
   · refine decide_eq_true ?_
     rw [List.map_cons,List.nodup_cons]
     refine ⟨fun w=>?_,?_⟩
     · obtain ⟨z,hz,e⟩:=List.mem_map.1 w
       exact hn z (List.mem_filter.1 hz).1 e
     · have hs:((y :: l).filter fun z=>decide (z.key ≠ x.key)).Sublist (y :: l):=List.filter_sublist
       exact (of_decide_eq_true h).sublist (hs.map verOf)
theorem yL {s:Sta} {x:It} (h:ko s = true) (hc:s.cnt ≠ 1099511627776) (hx:fx x = true) (hid:x.rep = s.id) (hcn:x.cnt = s.cnt + 1) (hf:bn s.flt x.key = true) (hl:(gF x s.its).length ≤ 4096):ko (yu s x) = true:=by
 obtain ⟨c1,c2,c3,c4,c5,c6,c7,c8,c9,c10⟩:=j9 h
 have hk:fy x.key = true:=by unfold fx at hx;simp only [Bool.and_eq_true] at hx;exact hx.1.1
 have hv:dF x.rep x.cnt = true:=by unfold fx at hx;simp only [Bool.and_eq_true] at hx;exact hx.1.2
 obtain ⟨r1,_⟩:=qK hk hv
 have hup:Up s.its:=by
   have:=(og (lp.1 c5))
   exact this
 have hall:=wo c5
 have hnew:∀ y ∈ s.its,verOf y ≠ verOf x:=fun y hy e=>by
   unfold verOf at e
   have e1:y.rep = s.id:=by rw [← hid];exact (Prod.mk.inj e).1
   have e2:y.cnt = s.cnt + 1:=by rw [← hcn];exact (Prod.mk.inj e).2
   have:=(c10 y hy).2
   rw [e1] at this
   have:=Kp c6 c2.1 c8 this
   omega
 unfold yu
 refine Ko c1 (by simp only;omega) hl c4 ?_ (tF _).1 (BJ c6 r1 c7 (FN hk hv hf)) (yJ c6 r1 (by simp only;omega) (by simp only;omega) ?_) (yK _ _ c9 hnew) fun z hz=>?_
 · unfold fE
   rw [Bool.and_eq_true]
   refine ⟨?_,decide_eq_true (IZ (zS _ _ hup))⟩
   rw [List.all_eq_true]
   intro z hz
   rcases tV _ _ z hz with rfl|q
   · exact hx
   · exact List.all_eq_true.1 hall z q
 · have:=FM hk hv
   rw [hid] at this ⊢
   rw [hcn] at this ⊢
   exact this
 · simp only
   rw [yt c6 r1]
   rcases tV _ _ z hz with rfl|q
   · exact ⟨hf,by rw [I0 hk hv,Bool.or_true]⟩
   · exact ⟨(c10 z q).1,by rw [(c10 z q).2];rfl⟩
theorem tW {s:Sta} (h:ko s = true):s.its.all fx = true ∧ Up s.its:=by
 obtain ⟨_,_,_,_,c5,_⟩:=j9 h
 exact ⟨wo c5,og (lp.1 c5)⟩
end Go.Proofs.YtembiemaiacdfaaGreat
