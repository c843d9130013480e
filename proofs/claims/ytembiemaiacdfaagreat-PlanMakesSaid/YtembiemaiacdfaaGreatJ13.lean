/- Texts joined: Kc KcR Vs VsW Cnt. -/
import Derived.Test.YtembiemaiacdfaaGreatJ12
import Derived.Test.YtembiemaiacdfaaGreatJ05
set_option maxRecDepth 10000
set_option maxHeartbeats 8000000
namespace Go.Proofs.YtembiemaiacdfaaGreat
open Go.RowKit
section
end
section
end
def aQ (s:List Kn) (r:Nat):List Rn:=s.flatMap fun k=>if k.rep = (r:Int) + 1 then k.runs else []
def bT (s:List Kn):List (List Rn):=(List.range 16).map (aQ s)
def aX (cOf:List Rn → List Rn):Nat → List (List Rn) → List Kn
 | _,[]=>[]
 | i,l :: T=>(if (cOf l).length = 0 then [] else [⟨(i:Int) + 1,cOf l⟩]) ++ aX cOf (i + 1) T
def fa (cOf:List Rn → List Rn) (s:List Kn):List Kn:=aX cOf 0 (bT s)
theorem bg (s:List Kn):(bT s).length = 16:=by simp [bT]
theorem j0 (l:List Kn) (k:Kn) (r:Nat):aQ (l ++ [k]) r = aQ l r ++ (if k.rep = (r:Int) + 1 then k.runs else []):=by simp [aQ]
theorem bQ (s:List Kn) {r:Nat} (h:r < 16):(bT s)[r]? = some (aQ s r):=by simp [bT,h]
theorem qc (l:List Kn) (k:Kn) {r:Nat} (h:r < 16) (hk:k.rep = (r:Int) + 1):bT (l ++ [k]) = (bT l).set r (aQ l r ++ k.runs):=by
 apply List.ext_getElem?
 intro i
 rw [List.getElem?_set,bg]
 by_cases hi:i < 16
 · rw [bQ _ hi,j0]
   by_cases h1:r = i
   · subst h1;rw [if_pos rfl,if_pos h,if_pos hk]
   · rw [if_neg h1,bQ _ hi,if_neg (by omega),List.append_nil]
 · rw [List.getElem?_eq_none (by rw [bg];omega)]
   rw [if_neg (by omega),List.getElem?_eq_none (by rw [bg];omega)]
theorem A5 (l:List Kn) (k:Kn) (hk:¬ (1 ≤ k.rep ∧ k.rep ≤ 16)):bT (l ++ [k]) = bT l:=by
 apply List.ext_getElem?
 intro i
 by_cases hi:i < 16
 · rw [bQ _ hi,bQ _ hi,j0,if_neg (by omega),List.append_nil]
 · rw [List.getElem?_eq_none (by rw [bg];omega),List.getElem?_eq_none (by rw [bg];omega)]
theorem eX:∀ (s:List Kn) (r:Nat),(aQ s r).length ≤ (s.flatMap Kn.runs).length:=by
 intro s
 induction s with
 | nil=>intro r;simp [aQ]
 | cons k s ih=>
   intro r
   have:=ih r
   unfold aQ at this ⊢
   rw [List.flatMap_cons,List.flatMap_cons,List.length_append,List.length_append]
   have h2:(if k.rep = (r:Int) + 1 then k.runs else []).length ≤ k.runs.length:=by split <;> simp
   omega
theorem tv {s:List Kn} {k:Kn} (h:k ∈ s):k.runs.length ≤ (s.flatMap Kn.runs).length:=by
 induction s with
 | nil=>cases h
 | cons x s ih=>
   rw [List.flatMap_cons,List.length_append]
   rcases List.mem_cons.1 h with q|q
   · subst q;omega
   · have:=ih q;omega
def cC (s:List Kn):Prop:=s.length ≤ 1000000000 ∧ (s.flatMap Kn.runs).length ≤ 1000000000
theorem cC.sz {s:List Kn} (h:cC s):kh s:=⟨h.1,fun k hk=>by
 have h2:=h.2
 have:=tv hk
 omega⟩
theorem oA (cOf:List Rn → List Rn):∀ (T U:List (List Rn)) (i:Nat),aX cOf i (T ++ U) = aX cOf i T ++ aX cOf (i + T.length) U:=by
 intro T
 induction T with
 | nil=>intro U i;rfl
 | cons l T ih=>intro U i;simp only [List.cons_append,aX,ih,List.length_cons,List.append_assoc];rw [show i + 1 + T.length = i + (T.length + 1) by omega]
theorem vI {s:List Kn} (h:bX s):∀ r,aQ s r = [] ∨ ∃ k ∈ s,k.rep = (r:Int) + 1 ∧ aQ s r = k.runs:=by
 intro r
 induction s using vu with
 | h0=>exact .inl rfl
 | h1 l k ih=>
   have hl:bX l:=fun i hi hi'=>by
     have h1:=h i (by simp;omega) (by simp;omega)
     have e1:(l ++ [k])[i]'(by simp;omega) = l[i]:=List.getElem_append_left hi
     rw [e1] at h1
     refine ⟨h1.1,h1.2.1,h1.2.2.1,h1.2.2.2.1,fun q=>?_⟩
     have:=h1.2.2.2.2 q
     rw [List.getElem_append_left (by omega)] at this
     exact this
   rw [j0]
   by_cases hk:k.rep = (r:Int) + 1
   · rw [if_pos hk]
     have hz:aQ l r = []:=by
       rcases ih hl with q|⟨k',hk',e1,e2⟩
       · exact q
       · exfalso
         obtain ⟨i,hi,rfl⟩:=List.getElem_of_mem hk'
         have hlt:∀ (d i:Nat) (hi:i < l.length) (hd:i + d + 1 = l.length),l[i].rep < k.rep:=by
           intro d
           induction d with
           | zero=>
             intro i hi hd
             have:=(h (i + 1) (by simp;omega) (by simp;omega)).2.2.2.2 (by omega)
             simp only [Nat.add_sub_cancel] at this
             rw [List.getElem_append_left hi,List.getElem_append_right (by omega)] at this
             simpa using this
           | succ d ihd=>
             intro i hi hd
             have:=(h (i + 1) (by simp;omega) (by simp;omega)).2.2.2.2 (by omega)
             simp only [Nat.add_sub_cancel] at this
             rw [List.getElem_append_left hi,List.getElem_append_left (by omega)] at this
             have:=ihd (i + 1) (by omega) (by omega)
             omega
         have:=hlt (l.length - 1 - i) i hi (by omega)
         omega
     rw [hz,List.nil_append]
     exact .inr ⟨k,by simp,hk,rfl⟩
   · rw [if_neg hk,List.append_nil]
     rcases ih hl with q|⟨k',hk',e1,e2⟩
     · exact .inl q
     · exact .inr ⟨k',by simp [hk'],e1,e2⟩
theorem r6 {s:List Kn} (h:bX s):∀ l ∈ bT s,cH l:=by
 intro l hl
 obtain ⟨r,_,rfl⟩:=List.mem_map.1 hl
 rcases vI h r with q|⟨k,hk,_,q⟩
 · rw [q];intro i hi;simp at hi
 · rw [q]
   obtain ⟨i,hi,rfl⟩:=List.getElem_of_mem hk
   exact (rX h hi).2.2.2
theorem xZ {α:Type} (l:List α) (k:Nat) (h:k < l.length):l.take (k + 1) = l.take k ++ [l[k]]:=by rw [List.take_succ_eq_append_getElem h]
theorem qd (s:List Kn) (z r:Nat):(aQ (s.take z) r).length ≤ (aQ s r).length:=by
 have:aQ s r = aQ (s.take z) r ++ aQ (s.drop z) r:=by
   unfold aQ
   rw [← List.flatMap_append,List.take_append_drop]
 rw [this,List.length_append];omega
abbrev J8 (T:List (List Rn)):PV:=bW (T.map jc)
abbrev gC (T:List (List Rn)):List Cnt:=T.map fun l=>Cnt.per (jc l)
theorem vJ (T:List (List Rn)):oM (gC T) = some (T.map jc):=by
 induction T with
 | nil=>rfl
 | cons l T ih=>
   show oM (Cnt.per (jc l) :: gC T) = _
   unfold oM
   rw [ih];rfl
theorem qe (T:List (List Rn)):(T.map jc).map Cnt.per = gC T:=by simp [gC]
theorem nT {T:List (List Rn)} (h:T.length = 16):oM (((gC T).drop 0).take 16) = some (T.map jc):=by
 rw [List.drop_zero,List.take_of_length_le (by simp;omega)];exact vJ T
theorem qf {T:List (List Rn)} (h:T.length = 16):Nat.ble (0 + 16) (gC T).length = true:=by
 apply Nat.ble_eq_true_of_le;simp;omega
theorem r8 {cells l:List Cnt} (h:l.length = cells.length):gL cells 0 l = l:=by
 unfold gL
 rw [List.take_zero,List.nil_append,List.drop_of_length_le (by omega),List.append_nil]
section
theorem lZ (l:List Rn) (hl:l.length ≤ 1000000000):Fn Tryz.prog 201 [ej l] (.own 132 2 (l.map rnP)):=by
 by_cases h0:0 < l.length
 · refine fi Tryz.func201 Tryz.ntmps201 ?_
   (refine w0 ?_;(repeat' first|refine W2.mk ?_ ?_|refine W1.mk fun hc=>?_))
   refine aO ?_
   exact cn rfl rfl rfl
 · obtain rfl:l = []:=List.eq_nil_of_length_eq_zero (by omega)
   refine fi Tryz.func201 Tryz.ntmps201 ?_
   (refine w0 ?_;(repeat' first|refine W2.mk ?_ ?_|refine W1.mk fun hc=>?_))
   · refine aO ?_
     exact sW rfl
   · refine aO ?_
     exact cn rfl rfl rfl
theorem r9 (l:List Rn) (hl:l.length ≤ 1000000000) (h:cH l):Fn Tryz.prog 200 [ej l] (.own 132 2 (l.map rnP)):=by
 have h1:=nS l hl true (by simp [h])
 have h2:=lZ l hl
 refine fi Tryz.func200 Tryz.ntmps200 ?_
 (have kc1:=h1;have kc2:=h2;refine w0 ?_;(repeat' first|refine W2.mk ?_ ?_|refine W1.mk fun hc=>?_);all_goals clear kc2 kc1)
 refine aO ?_
 exact cn rfl rfl rfl
theorem x3 (l m:List Rn) (hl:l.length ≤ 1000000000):Fn Tryz.prog 170 [ej l,ej m] (cU (decide (l = m))):=by
 refine fi Tryz.func170 Tryz.ntmps170 ?_
 (refine wH ?_;(repeat' first|refine W2.mk ?_ ?_|refine W1.mk fun hc=>?_))
 · refine aO ?_
   exact af rfl (by symm;rw [decide_eq_false_iff_not];intro h;subst h;omega)
 have hlm:l.length = m.length:=by omega
 refine ah (fun k=>k ≤ l.length ∧ l.take k = m.take k) (fun k=>aJ [(0,ej l),(1,ej m),(12,iC .i64 (l.length:Nat)),(13,iC .i64 (k:Nat))] []) (fun k=>l.length - k) 0 ⟨Nat.zero_le _,rfl⟩ ?_ ?_
 · exact ab
 · rintro k ⟨hk,hpre⟩
   by_cases hlt:k < l.length
   · have hltm:k < m.length:=by omega
     (refine wH ?_;(repeat' (first|refine W2.mk ?_ ?_|refine W1.mk fun hc=>?_|((first|apply aB rfl|apply aC rfl|apply aD rfl|apply aF rfl);(focus (first|(exact bw (us:=encRn l[k]) (vs:=encRn m[k]) ⟨rfl,rfl,rfl⟩ rfl rfl rfl (.inr ⟨rfl,rfl⟩) LB rfl (zy l[k] m[k]))|(apply bt;(focus rfl);apply ag rfl rfl rfl rfl rfl;first|(exact bw (us:=encRn l[k]) (vs:=encRn m[k]) ⟨rfl,rfl,rfl⟩ rfl rfl rfl (.inr ⟨rfl,rfl⟩) LB rfl (zy l[k] m[k])))));refine wH ?_))))
     · refine aO ?_
       exact af rfl (by symm;rw [decide_eq_false_iff_not];intro h;subst h;simp [(o9 l[k] l[k]).2 rfl] at *)
     · refine ⟨k + 1,⟨by omega,?_⟩,by omega,?_⟩
       · rw [aN l k hlt,aN m k hltm,hpre,(o9 l[k] m[k]).1 (by simpa using hc)]
       · exact ab
   · (refine wH ?_;(repeat' first|refine W2.mk ?_ ?_|refine W1.mk fun hc=>?_))
     refine aO ?_
     exact af rfl (by symm;rw [decide_eq_true_eq,← List.take_of_length_le (show l.length ≤ k by omega),hpre,List.take_of_length_le (by omega)])
theorem tw (s:List Kn) (hs:cC s):Fn Tryz.prog 172 [dZ s] (.per (J8 (bT s))):=by
 have hl0:=hs.1
 have htot:=hs.2
 refine fi Tryz.func172 Tryz.ntmps172 ?_
 (refine w0 ?_;(repeat' first|refine W2.mk ?_ ?_|refine W1.mk fun hc=>?_))
 refine cc (Dp 3 214 (cells':=gC (bT [])) rfl rfl (fun j c c' h h'=>?_)) ?_
 · have h1:c = .per (ao (.slice none 0 0)):=List.eq_of_mem_replicate (n:=16) (List.mem_of_getElem? h)
   have h2:c' = .per (jc []):=List.eq_of_mem_replicate (n:=16) (List.mem_of_getElem? h')
   rw [h1,h2];exact Hw
 refine ah (X:=Nat) (fun z=>z ≤ s.length)
   (fun z=>aJ [(2,.ptr 2 0 0),(3,.ptr 3 0 0),(7,dZ s),(8,iC .i64 (s.length:Nat)),(9,iC .i64 (z:Nat))] [(2,.box 214 (List.replicate 16 (.per (ao (.slice none 0 0))))),(3,.box 214 (gC (bT (s.take z))))]) (fun z=>s.length - z) 0 (Nat.zero_le _) ?_ ?_
 · exact ab
 · intro z hz
   by_cases hlt:z < s.length
   · have c1:=lY s[z].rep
     have hT:=bg (s.take z)
     have hsn:=xZ s z hlt
     by_cases hr:1 ≤ s[z].rep ∧ s[z].rep ≤ 16
     · rw [decide_eq_true hr] at c1
       obtain ⟨r,hq⟩:∃ r:Nat,s[z].rep - 1 = (r:Nat):=⟨(s[z].rep - 1).toNat,by omega⟩
       have hr16:r < 16:=by omega
       have hin:=qc (s.take z) s[z] hr16 (by omega)
       rw [← hsn] at hin
       have hg:=bQ (s.take z) hr16
       have hb1:=qd s z r
       have hb2:=eX s r
       have hb3:=hs.sz.at hlt
       generalize aQ (s.take z) r = Tr at *
       generalize bT (s.take z) = T at *
       have HJ:(gC T)[0 + r * 1]? = some (.per (jc Tr)):=by
         rw [Nat.zero_add,Nat.mul_one,List.getElem?_map,hg];rfl
       have HB:Nat.ble (0 + r * 1 + 1) (gC T).length = true:=Nat.ble_eq_true_of_le (by simp;omega)
       have hTr:Tr.length ≤ 1000000000:=by omega
       have c2:=lZ Tr (by omega)
       have HF:∀ (F:Cnt → Cnt) (c:Cnt),(∀ A,F (.per A) = .per A) → F c = .per (bK 2 (Tr.map rnP ++ s[z].runs.map rnP)) → (gL (gC T) (0 + r * 1) [c]).map F = gC (T.set r (Tr ++ s[z].runs)):=fun F c h1 h2=>by
         rw [Nat.zero_add,Nat.mul_one,vk _ _ _ (by simp;omega),List.map_set,h2,← List.map_append]
         have e:(gC T).map F = gC T:=by
           unfold gC
           rw [List.map_map]
           exact List.map_congr_left fun x _=>h1 _
         rw [e]
         unfold gC
         rw [List.map_set]
       clear hs htot hg
       (have kc1:=c1;have kc2:=c2;have ke1:=Lib.hid (hq);refine bm ?_;(repeat' (first|refine W2.mk ?_ ?_|refine W1.mk fun hc=>?_|((first|apply aB rfl|apply aC rfl|apply aD rfl|apply aF rfl);(focus (first|((apply ax 5;(focus rfl);exact iK ⟨rfl,rfl,rfl⟩ rfl inferInstance rfl rfl rfl HJ))|((apply ax 6;(focus rfl);exact fL (c:=.row _ _) ⟨rfl,rfl⟩ rfl inferInstance rfl rfl rfl HB rfl (by first|exact cL (by first|exact ca rfl rfl|exact cb|exact cF)|exact cM rfl|exact cN rfl rfl|exact cO rfl rfl|exact cp|exact cq|exact cr)))|(apply bt;(focus rfl);apply ag rfl rfl rfl rfl rfl;first|((apply ax 5;(focus rfl);exact iK ⟨rfl,rfl,rfl⟩ rfl inferInstance rfl rfl rfl HJ))|((apply ax 6;(focus rfl);exact fL (c:=.row _ _) ⟨rfl,rfl⟩ rfl inferInstance rfl rfl rfl HB rfl (by first|exact cL (by first|exact ca rfl rfl|exact cb|exact cF)|exact cM rfl|exact cN rfl rfl|exact cO rfl rfl|exact cp|exact cq|exact cr))))));refine bm ?_)));all_goals clear ke1 kc2 kc1)
       refine ⟨z + 1,by omega,by omega,an (gl 23 _ 132 2 rfl rfl) ?_⟩
       (refine lB ?_ ?_;(focus ((repeat (first|exact gd.nil|(refine gd.cons ?_ ?_;rotate_left)));(all_goals try (first|rfl|(refine GP ?_;first|omega|(simp;done)|(simp;omega))|(refine ro ?_;first|(simp;done)|(simp [*];done))))));(focus ((repeat (first|exact gg.nil|(refine gg.cons ?_ ?_;rotate_left)));(all_goals try (first|rfl|(refine nK ?_;(rw [List.map_append] <;> rfl);done)|(refine lC ?_;(rw [List.map_append] <;> rfl);done))))))
       rw [hin]
       show Blk.box _ (List.map _ (List.map _ _)) = _
       rw [List.map_map]
       exact congrArg (Blk.box _) (HF _ _ (fun _=>rfl) rfl)
     · rw [decide_eq_false hr] at c1
       have hout:=A5 (s.take z) s[z] hr
       rw [← hsn] at hout
       clear hs htot hsn hr
       (have kc1:=c1;refine w0 ?_;(repeat' first|refine W2.mk ?_ ?_|refine W1.mk fun hc=>?_);all_goals clear kc1)
       refine ⟨z + 1,by omega,by omega,?_⟩
       (refine lB ?_ ?_;(focus ((repeat (first|exact gd.nil|(refine gd.cons ?_ ?_;rotate_left)));(all_goals try (first|rfl|(refine GP ?_;first|omega|(simp;done)|(simp;omega))|(refine ro ?_;first|(simp;done)|(simp [*];done))))));(focus ((repeat (first|exact gg.nil|(refine gg.cons ?_ ?_;rotate_left)));(all_goals try (first|rfl|(refine nK ?_;(rw [List.map_append] <;> rfl);done)|(refine lC ?_;(rw [List.map_append] <;> rfl);done))))))
       rw [hout];rfl
   · have e:s.take z = s:=List.take_of_length_le (by omega)
     rw [e]
     have hT:=bg s
     generalize bT s = T at *
     have HP:=nT hT
     have HB:=qf hT
     clear hs htot
     (refine w0 ?_;(repeat' (first|refine W2.mk ?_ ?_|refine W1.mk fun hc=>?_|((first|apply aB rfl|apply aC rfl|apply aD rfl|apply aF rfl);(focus (first|((apply ax 5;(focus rfl);exact fS ⟨rfl,rfl,rfl⟩ rfl inferInstance inferInstance rfl rfl rfl rfl HB HP))|((apply ax 6;(focus rfl);exact jh ⟨rfl,rfl⟩ rfl inferInstance rfl rfl rfl rfl rfl rfl (by simp [hT])))|(apply bt;(focus rfl);apply ag rfl rfl rfl rfl rfl;first|((apply ax 5;(focus rfl);exact fS ⟨rfl,rfl,rfl⟩ rfl inferInstance inferInstance rfl rfl rfl rfl HB HP))|((apply ax 6;(focus rfl);exact jh ⟨rfl,rfl⟩ rfl inferInstance rfl rfl rfl rfl rfl rfl (by simp [hT]))))));refine w0 ?_))))
     refine aO ?_
     have e2:gL (List.replicate 16 (Cnt.per (ao (.slice none 0 0)))) 0 ((T.map jc).map .per) = (T.map jc).map .per:=r8 (by simp [hT])
     exact ec inferInstance inferInstance rfl rfl rfl rfl (by rw [e2];simp [hT]) (by rw [e2,qe];exact vJ T)
theorem zz (cOf:List Rn → List Rn) (T:List (List Rn)) (hT:T.length = 16) (hOf:∀ l ∈ T,Fn Tryz.prog 200 [ej l] (.own 132 2 ((cOf l).map rnP))) :
   Fn Tryz.prog 191 [.per (J8 T)] (.own 130 2 ((aX cOf 0 T).map zv)):=by
 have HP:=nT hT
 have HB:=qf hT
 have HE:=qe T
 refine fi Tryz.func191 Tryz.ntmps191 ?_
 have hstep:∀ z (h:z < T.length),aX cOf z (T.drop z) = (if (cOf T[z]).length = 0 then [] else [⟨(z:Int) + 1,cOf T[z]⟩]) ++ aX cOf (z + 1) (T.drop (z + 1)):=fun z h=>by
   rw [List.drop_eq_getElem_cons h];rfl
 (refine w0 ?_;(repeat' (first|refine W2.mk ?_ ?_|refine W1.mk fun hc=>?_|((first|apply aB rfl|apply aC rfl|apply aD rfl|apply aF rfl);(focus (first|((apply ax 5;(focus rfl);exact fS ⟨rfl,rfl,rfl⟩ rfl inferInstance inferInstance rfl rfl rfl rfl (HE ▸ HB) (HE ▸ HP)))|(apply bt;(focus rfl);apply ag rfl rfl rfl rfl rfl;first|((apply ax 5;(focus rfl);exact fS ⟨rfl,rfl,rfl⟩ rfl inferInstance inferInstance rfl rfl rfl rfl (HE ▸ HB) (HE ▸ HP))))));refine w0 ?_))))
 refine cc (bv 3 600 130 2 rfl rfl) ?_
 generalize hQ:aX cOf 0 T = Q
 refine ah (X:=Nat × List Kn) (fun z=>z.1 ≤ 16 ∧ z.2.length ≤ z.1 ∧ z.2 ++ aX cOf z.1 (T.drop z.1) = Q)
   (fun z=>aJ [(3,.row 600 0),(6,.per (J8 T)),(7,iC .i64 (z.1:Nat))] [(600,.row 130 2 (z.2.map zv))]) (fun z=>16 - z.1) (0,[]) ⟨Nat.zero_le _,Nat.le_refl _,by simpa using hQ⟩ ?_ ?_
 · exact ab
 · rintro ⟨z,acc⟩ ⟨h1,h2,h3⟩
   simp only at h1 h2 h3 ⊢
   by_cases hz:z < 16
   · have hzT:z < T.length:=by omega
     have c1:=(hOf T[z] (List.getElem_mem hzT)).frz
     rw [hstep z hzT] at h3
     have HJ:(T.map jc)[z]? = some (jc T[z]):=by rw [List.getElem?_map,List.getElem?_eq_getElem hzT];rfl
     generalize cOf T[z] = L at *
     clear hOf hstep HP HB HE
     by_cases hL:L.length = 0
     · rw [if_pos hL,List.nil_append] at h3
       (have kc1:=c1;refine w0 ?_;(repeat' (first|refine W2.mk ?_ ?_|refine W1.mk fun hc=>?_|((first|apply aB rfl|apply aC rfl|apply aD rfl|apply aF rfl);(focus (first|((apply ax 13;(focus rfl);exact mJ ⟨rfl,rfl,rfl⟩ rfl inferInstance inferInstance inferInstance rfl rfl rfl (by omega) HJ))|(apply bt;(focus rfl);apply ag rfl rfl rfl rfl rfl;first|((apply ax 13;(focus rfl);exact mJ ⟨rfl,rfl,rfl⟩ rfl inferInstance inferInstance inferInstance rfl rfl rfl (by omega) HJ)))));refine w0 ?_)));all_goals clear kc1)
       refine ⟨(z + 1,acc),⟨by simp only;omega,by simp only;omega,h3⟩,by simp only;omega,?_⟩
       exact ab
     · rw [if_neg hL] at h3
       (have kc1:=c1;refine w0 ?_;(repeat' (first|refine W2.mk ?_ ?_|refine W1.mk fun hc=>?_|((first|apply aB rfl|apply aC rfl|apply aD rfl|apply aF rfl);(focus (first|((apply ax 13;(focus rfl);exact mJ ⟨rfl,rfl,rfl⟩ rfl inferInstance inferInstance inferInstance rfl rfl rfl (by omega) HJ))|(apply bt;(focus rfl);apply ag rfl rfl rfl rfl rfl;first|((apply ax 13;(focus rfl);exact mJ ⟨rfl,rfl,rfl⟩ rfl inferInstance inferInstance inferInstance rfl rfl rfl (by omega) HJ)))));refine w0 ?_)));all_goals clear kc1)
       refine ⟨(z + 1,acc ++ [⟨(z:Int) + 1,L⟩]),⟨by simp only;omega,by simp;omega,by simp only;rw [List.append_assoc];exact h3⟩,by simp only;omega,?_⟩
       exact ab
   · have h3':acc = Q:=by rw [← h3,List.drop_of_length_le (by omega)];simp [aX]
     clear hOf hstep HP HB HE h3
     (refine w0 ?_;(repeat' first|refine W2.mk ?_ ?_|refine W1.mk fun hc=>?_))
     refine aO ?_
     exact dx rfl rfl rfl h3'
theorem Jy (cOf:List Rn → List Rn) (s:List Kn) (hs:cC s) (hOf:∀ l ∈ bT s,Fn Tryz.prog 200 [ej l] (.own 132 2 ((cOf l).map rnP))) :
   Fn Tryz.prog 148 [dZ s] (.own 130 2 ((fa cOf s).map zv)):=by
 have h1:=tw s hs
 have h2:=zz cOf (bT s) (bg s) hOf
 refine fi Tryz.func148 Tryz.ntmps148 ?_
 (have kc1:=h1;have kc2:=h2;refine w0 ?_;(repeat' first|refine W2.mk ?_ ?_|refine W1.mk fun hc=>?_);all_goals clear kc2 kc1)
 refine aO ?_
 exact cn rfl rfl rfl
theorem Ei (x y:Kn) (hx:x.runs.length ≤ 1000000000):dY Tryz.prog 169 [L9 x,L9 y] [] (bC (decide (x = y))) []:=by
 have h1:=x3 x.runs y.runs hx
 have hE:x = y ↔ x.rep = y.rep ∧ x.runs = y.runs:=by cases x;cases y;simp
 obtain ⟨r,l⟩:=x
 obtain ⟨r',l'⟩:=y
 simp only at h1 hE hx
 show dY Tryz.prog _ [.per (bW [ao (.int .i64 r),jc l]),.per (bW [ao (.int .i64 r'),jc l'])] [] _ []
 by_cases e1:r = r'
 · by_cases e2:l = l'
   · rw [decide_eq_true (hE.2 ⟨e1,e2⟩)]
     rw [decide_eq_true e2] at h1
     clear hE e2
     refine eT Tryz.func169 Tryz.ntmps169 ?_
     (have kc1:=h1;refine w0 ?_;(repeat' first|refine W2.mk ?_ ?_|refine W1.mk fun hc=>?_);all_goals clear kc1)
     (refine ⟨(by first|exact .inl rfl|exact .inr rfl),bS [] rfl rfl .nil ?_⟩)
     exact jk rfl (by first|rfl|(simp [e1];done))
   · rw [decide_eq_false (fun h=>e2 (hE.1 h).2)]
     rw [decide_eq_false e2] at h1
     clear hE e2
     refine eT Tryz.func169 Tryz.ntmps169 ?_
     (have kc1:=h1;refine w0 ?_;(repeat' first|refine W2.mk ?_ ?_|refine W1.mk fun hc=>?_);all_goals clear kc1)
     (refine ⟨(by first|exact .inl rfl|exact .inr rfl),bS [] rfl rfl .nil ?_⟩)
     exact jk rfl (by first|rfl|(simp [e1];done))
 · rw [decide_eq_false (fun h=>e1 (hE.1 h).1)]
   clear hE
   refine eT Tryz.func169 Tryz.ntmps169 ?_
   (have kc1:=h1;refine w0 ?_;(repeat' first|refine W2.mk ?_ ?_|refine W1.mk fun hc=>?_);all_goals clear kc1)
   (refine ⟨(by first|exact .inl rfl|exact .inr rfl),bS [] rfl rfl .nil ?_⟩)
   exact jk rfl (by first|rfl|(simp [e1];done))
abbrev KY:Cnt:=.per (ao (.func (.func 169) #[] #[]))
theorem qg (l m:List Kn) (hl:kh l):Fn Tryz.prog 168 [dZ l,dZ m,KY] (cU (decide (l = m))):=by
 have hl0:=hl.1
 refine fi Tryz.func168 Tryz.ntmps168 ?_
 (refine w0 ?_;(repeat' first|refine W2.mk ?_ ?_|refine W1.mk fun hc=>?_))
 · refine aO ?_
   exact af rfl (by symm;rw [decide_eq_false_iff_not];intro h;subst h;omega)
 have hlm:l.length = m.length:=by omega
 refine ah (fun k=>k ≤ l.length ∧ l.take k = m.take k) (fun k=>aJ [(1,dZ m),(2,KY),(15,dZ l),(16,iC .i64 (l.length:Nat)),(17,iC .i64 (k:Nat))] []) (fun k=>l.length - k) 0 ⟨Nat.zero_le _,rfl⟩ ?_ ?_
 · exact ab
 · rintro k ⟨hk,hpre⟩
   by_cases hlt:k < l.length
   · have hltm:k < m.length:=by omega
     have c1:=Ei l[k] m[k] (hl.at hlt)
     by_cases he:l[k] = m[k]
     · rw [decide_eq_true he] at c1
       (refine w0 ?_;(repeat' (first|refine W2.mk ?_ ?_|refine W1.mk fun hc=>?_|((first|apply aB rfl|apply aC rfl|apply aD rfl|apply aF rfl);(focus (first|(exact vm [] c1)|(apply bt;(focus rfl);apply ag rfl rfl rfl rfl rfl;first|(exact vm [] c1))));refine w0 ?_))))
       refine ⟨k + 1,⟨by omega,?_⟩,by omega,?_⟩
       · rw [aN l k hlt,aN m k hltm,hpre,he]
       · exact ab
     · rw [decide_eq_false he] at c1
       have hd:¬ l = m:=fun h=>he (by subst h;rfl)
       rw [decide_eq_false hd]
       clear hd he
       (refine w0 ?_;(repeat' (first|refine W2.mk ?_ ?_|refine W1.mk fun hc=>?_|((first|apply aB rfl|apply aC rfl|apply aD rfl|apply aF rfl);(focus (first|(exact vm [] c1)|(apply bt;(focus rfl);apply ag rfl rfl rfl rfl rfl;first|(exact vm [] c1))));refine w0 ?_))))
       refine aO ?_
       exact af rfl rfl
   · rw [List.take_of_length_le (by omega),List.take_of_length_le (by omega)] at hpre
     rw [decide_eq_true hpre]
     clear hpre
     (refine w0 ?_;(repeat' first|refine W2.mk ?_ ?_|refine W1.mk fun hc=>?_))
     refine aO ?_
     exact af rfl rfl
theorem zA (a b A B:List Kn) (hA:Fn Tryz.prog 148 [dZ a] (.own 130 2 (A.map zv))) (hB:Fn Tryz.prog 148 [dZ b] (.own 130 2 (B.map zv))) (hsz:kh A) :
   Fn Tryz.prog 124 [dZ a,dZ b] (cU (decide (A = B))):=by
 have h1:=qg A B hsz
 refine fi Tryz.func124 Tryz.ntmps124 ?_
 (have ko1:=hA;have ko2:=hB;have kc1:=h1;refine w0 ?_;(repeat' first|refine W2.mk ?_ ?_|refine W1.mk fun hc=>?_);all_goals clear kc1 ko2 ko1)
 refine aO ?_
 exact af rfl rfl
end
theorem fW {α:Type} (A:List α) (x y:α) (T:List α) (j:Nat) (hj:j = A.length):(A ++ x :: T).set j y = A ++ y :: T:=by
 subst hj;simp
theorem zC {α:Type} (l:List α):l = [] ∨ ∃ (l':List α) (y:α),l = l' ++ [y]:=by
 rcases List.eq_nil_or_concat l with h|⟨a,y,h⟩
 · exact .inl h
 · exact .inr ⟨a,y,by rw [h];simp⟩
theorem ey {α β:Type} (f:α → β) (l:List α) (j:Nat) (y:α):(l.map f).set j (f y) = (l.set j y).map f:=by rw [List.map_set]
section
variable {P:Program} {n t:Nat} {ops:Array Oper} {o:Oper} {S:St}
theorem lk {ty ty':TypeId} {x y:Operand} {k:IntKind} {u v z:Int} (hp:Pl n o t) (ho:o.op = .call { callee:=.builtin .max,args:=#[x,y],argTypes:=#[ty,ty'] }) (hx:S.opd x = iC k u) (hy:S.opd y = iC k v) (hz:(if v > u then v else u) = z):ak n P ops o (ap x ++ ap y) (iC k z) [] S:=
 hz ▸ Dm hp ho hx hy
end
abbrev vK (l:List Rn):Ret:=.own 132 2 (l.map rnP)
abbrev Ej (l:List Rn):Blk:=.row 132 2 (l.map rnP)
section
theorem tx (l:List Rn) (hl:l.length ≤ 1000000000):Fn Tryz.prog 200 [ej l] (vK (ofR l)):=by
 by_cases hok:cH l
 · rw [xU hok]
   exact r9 l hl hok
 have h0:=nS l hl false (by simp [hok])
 generalize hT:l.filter fV = T at *
 have hTr:∀ x ∈ T,fV x = true:=fun x hx=>by rw [← hT] at hx;exact (List.mem_filter.1 hx).2
 have hTl:T.length ≤ 1000000000:=by rw [← hT];exact Nat.le_trans (List.length_filter_le _ _) hl
 have hs:=Ef T hTr hTl
 obtain ⟨hp,hsr⟩:=vH hTr
 have hR:=xV (l:=l) hsr (fun r=>by rw [hp.mem_iff,hT])
 have hQr:∀ x ∈ jZ T,fV x = true:=fun x hx=>hTr x (hp.mem_iff.1 hx)
 have hQl:(jZ T).length = T.length:=hp.length_eq
 rw [← hR]
 generalize jZ T = Q at *
 generalize hRR:jd Q = R
 clear hR hp hsr hok
 refine fi Tryz.func200 Tryz.ntmps200 ?_
 (have kc1:=h0;refine w0 ?_;(repeat' first|refine W2.mk ?_ ?_|refine W1.mk fun hc=>?_);all_goals clear kc1)
 refine cc (bv 3 600 132 2 rfl rfl) ?_
 refine ah (X:=Nat × List Rn) (fun x=>x.1 ≤ l.length ∧ x.2 ++ (l.drop x.1).filter fV = T)
   (fun x=>aJ [(3,.row 600 0),(14,ej l),(15,iC .i64 (l.length:Nat)),(16,iC .i64 (x.1:Nat))] [(600,Ej x.2)]) (fun x=>l.length - x.1) (0,[]) ⟨Nat.zero_le _,by simp [hT]⟩ ?_ ?_
 · exact ab
 · rintro ⟨k,ac⟩ ⟨g1,g2⟩
   simp only at g1 g2 ⊢
   by_cases hk:k < l.length
   · have hir:=tu l[k]
     have hlen:ac.length ≤ 1000000000:=by
       have:=congrArg List.length g2
       simp only [List.length_append] at this;omega
     rw [List.drop_eq_getElem_cons hk,List.filter_cons] at g2
     cases hr:fV l[k] with
     | false=>
       rw [hr] at hir g2
       clear hTr hQr hs
       (have kc1:=hir;refine w0 ?_;(repeat' first|refine W2.mk ?_ ?_|refine W1.mk fun hc=>?_);all_goals clear kc1)
       refine ⟨(k + 1,ac),⟨by simp only;omega,by simpa using g2⟩,by simp only;omega,?_⟩
       exact ab
     | true=>
       rw [hr] at hir g2
       clear hTr hQr hs
       (have kc1:=hir;refine w0 ?_;(repeat' first|refine W2.mk ?_ ?_|refine W1.mk fun hc=>?_);all_goals clear kc1)
       refine ⟨(k + 1,ac ++ [l[k]]),⟨by simp only;omega,by simpa using g2⟩,by simp only;omega,an (aM 600 601) (an (aM 601 600) ?_)⟩
       exact ab
   · have hkl:k = l.length:=by omega
     subst hkl
     rw [List.drop_length] at g2
     simp at g2
     subst g2
     (have km1:=(show bp [(1000,600)] _ _ _ _ _ _ from hs);refine w0 ?_;(repeat' first|refine W2.mk ?_ ?_|refine W1.mk fun hc=>?_);all_goals clear km1)
     clear hs hTr hT
     refine cc (bv 6 700 132 2 rfl rfl) ?_
     refine ah (X:=Nat × List Rn) (fun x=>x.1 ≤ Q.length ∧ x.2.length ≤ x.1 ∧ ((x.2 = [] ∧ x.1 = 0) ∨ ∃ o y,x.2 = o ++ [y] ∧ fV y = true ∧ o ++ vD y (Q.drop x.1) = R))
       (fun x=>aJ [(6,.row 700 0),(29,.row 600 0),(30,iC .i64 (Q.length:Nat)),(31,iC .i64 (x.1:Nat))] [(600,Ej Q),(700,Ej x.2)]) (fun x=>Q.length - x.1) (0,[]) ⟨Nat.zero_le _,Nat.le_refl _,.inl ⟨rfl,rfl⟩⟩ ?_ ?_
     · exact ab
     · rintro ⟨k,out⟩ ⟨g1,g0,g2⟩
       simp only at g1 g0 g2 ⊢
       by_cases hk:k < Q.length
       · have hxr:=hQr _ (List.getElem_mem hk)
         have hdr:=List.drop_eq_getElem_cons hk
         generalize hx:Q[k] = x at *
         have HQ:(Q.map rnP)[k]? = some (rnP x):=by rw [List.getElem?_map,List.getElem?_eq_getElem hk,hx];rfl
         have hxi:=(br x).1 hxr
         clear hQr
         rcases g2 with ⟨rfl,rfl⟩|⟨o,y,rfl,hyr,g2⟩
         · have g4:[] ++ vD x (Q.drop 1) = R:=by
             rw [List.drop_zero] at hdr
             rw [← hRR,hdr];rfl
           (refine w0 ?_;(repeat' (first|refine W2.mk ?_ ?_|refine W1.mk fun hc=>?_|((first|apply aB rfl|apply aC rfl|apply aD rfl|apply aF rfl);(focus (first|((apply ax 5;(focus rfl);exact ae ⟨rfl,rfl,rfl⟩ rfl inferInstance inferInstance rfl rfl rfl HQ rfl rfl rfl))|(apply bt;(focus rfl);apply ag rfl rfl rfl rfl rfl;first|((apply ax 5;(focus rfl);exact ae ⟨rfl,rfl,rfl⟩ rfl inferInstance inferInstance rfl rfl rfl HQ rfl rfl rfl)))));refine w0 ?_))))
           refine ⟨(1,[x]),⟨by simp only;omega,Nat.le_refl _,.inr ⟨[],x,rfl,hxr,g4⟩⟩,by simp only;omega,an (aM 700 701) (an (aM 701 700) ?_)⟩
           exact ab
         · have hyi:=(br y).1 hyr
           rw [hdr,vD] at g2
           have hL1:(o ++ [y]).length = o.length + 1:=by simp
           have hM:(if x.to > y.to then x.to else y.to) = max y.to x.to:=by omega
           have hmr:fV ⟨y.fr,max y.to x.to⟩ = true:=(br _).2 (by simp only;omega)
           generalize max y.to x.to = M at *
           generalize hL:o ++ [y] = L at *
           have hLi:((L.length:Int) - 1).toNat = o.length:=by omega
           have HY:(L.map rnP)[((L.length:Int) - 1).toNat]? = some (rnP y):=by
             rw [List.getElem?_map,hLi,← hL]
             simp
           have HS1:(L.map rnP).set ((L.length:Int) - 1).toNat (bL (rnP y) 1 [ao (.int .i64 M)]) = (o ++ [(⟨y.fr,M⟩:Rn)]).map rnP:=by
             rw [show (L.map rnP).set ((L.length:Int) - 1).toNat (bL (rnP y) 1 [ao (.int .i64 M)]) = (L.set ((L.length:Int) - 1).toNat ⟨y.fr,M⟩).map rnP from ey rnP L _ (⟨y.fr,M⟩:Rn),← hL,fW o y _ [] _ (by rw [hL];omega)]
           have hML:(o ++ [(⟨y.fr,M⟩:Rn)]).length = L.length:=by rw [← hL];simp
           by_cases c:x.fr - y.to < 2
           · rw [if_pos c] at g2
             (repeat' (first|refine cl ?_|refine bh ?_|refine bx ?_|refine bz ?_|refine cm ?_|refine aW ?_|refine cv dm ?_|refine cj ?_|refine ck (by kernel_rfl) ?_|(refine eU rfl rfl ⟨fun hc=>?_,fun hc=>?_⟩ <;> (repeat rw [List.length_map] at hc) <;> (try exact cP hc))|((first|apply aB rfl|apply aC rfl|apply aD rfl|apply aF rfl);focus (first|((apply ax 19;(focus rfl);exact lk ⟨rfl,rfl,rfl⟩ rfl rfl rfl hM))|(apply bt;(focus rfl);apply ag rfl rfl rfl rfl rfl;((apply ax 19;(focus rfl);exact lk ⟨rfl,rfl,rfl⟩ rfl rfl rfl hM)))|exact dn|((apply ax 5;(focus rfl);first|exact ay ⟨rfl,rfl,rfl⟩ rfl inferInstance rfl rfl rfl HY rfl|exact ae ⟨rfl,rfl,rfl⟩ rfl inferInstance inferInstance rfl rfl rfl HQ rfl rfl rfl))|(apply bt;(focus rfl);apply ag rfl rfl rfl rfl rfl;((apply ax 5;(focus rfl);first|exact ay ⟨rfl,rfl,rfl⟩ rfl inferInstance rfl rfl rfl HY rfl|exact ae ⟨rfl,rfl,rfl⟩ rfl inferInstance inferInstance rfl rfl rfl HQ rfl rfl rfl)))|((apply ax 6;(focus rfl);exact al ⟨rfl,rfl⟩ rfl inferInstance rfl rfl rfl rfl HY rfl (aG rfl rfl rfl) rfl HS1))|(apply bt;(focus rfl);apply ag rfl rfl rfl rfl rfl;((apply ax 6;(focus rfl);exact al ⟨rfl,rfl⟩ rfl inferInstance rfl rfl rfl rfl HY rfl (aG rfl rfl rfl) rfl HS1)))|fail))|refine bB ?_|refine bD ?_|refine bF ?_|refine dv ?_|refine dw ?_|refine bG ?_|refine bi rfl ?_|((first|refine eV rfl rfl rfl ⟨fun hc=>?_,fun hc=>?_⟩|refine eW rfl rfl rfl ⟨fun hc=>?_,fun hc=>?_⟩) <;> (fail_if_success (have q:(true = true):=hc)) <;> (fail_if_success (have q:(false = false):=hc)) <;> (repeat rw [List.length_map] at hc) <;> (try exact cP hc))|refine aZ rfl rfl (fun hc=>?_) ?_))
             refine ⟨(k + 1,_),⟨by simp only;omega,by simp only;omega,.inr ⟨o,_,rfl,hmr,g2⟩⟩,by simp only;omega,?_⟩
             exact ab
           · rw [if_neg c] at g2
             (refine w0 ?_;(repeat' (first|refine W2.mk ?_ ?_|refine W1.mk fun hc=>?_|((first|apply aB rfl|apply aC rfl|apply aD rfl|apply aF rfl);(focus (first|((apply ax 5;(focus rfl);first|exact ay ⟨rfl,rfl,rfl⟩ rfl inferInstance rfl rfl rfl HY rfl|exact ae ⟨rfl,rfl,rfl⟩ rfl inferInstance inferInstance rfl rfl rfl HQ rfl rfl rfl))|(apply bt;(focus rfl);apply ag rfl rfl rfl rfl rfl;first|((apply ax 5;(focus rfl);first|exact ay ⟨rfl,rfl,rfl⟩ rfl inferInstance rfl rfl rfl HY rfl|exact ae ⟨rfl,rfl,rfl⟩ rfl inferInstance inferInstance rfl rfl rfl HQ rfl rfl rfl)))));refine w0 ?_))))
             refine ⟨(k + 1,L ++ [x]),⟨by simp only;omega,by simp;omega,.inr ⟨L,x,rfl,hxr,by simp only;rw [← hL,List.append_assoc];exact g2⟩⟩,by simp only;omega,an (aM 700 701) (an (aM 701 700) ?_)⟩
             exact ab
       · have hkl:k = Q.length:=by omega
         subst hkl
         have g3:out = R:=by
           rcases g2 with ⟨a,b⟩|⟨o,y,a,_,b⟩
           · rw [a,← hRR,List.eq_nil_of_length_eq_zero b];rfl
           · rw [List.drop_length] at b
             rw [a,← b];rfl
         clear g2 hRR hQr
         (refine w0 ?_;(repeat' first|refine W2.mk ?_ ?_|refine W1.mk fun hc=>?_))
         refine aO ?_
         exact dx rfl rfl rfl g3
end
end Go.Proofs.YtembiemaiacdfaaGreat
