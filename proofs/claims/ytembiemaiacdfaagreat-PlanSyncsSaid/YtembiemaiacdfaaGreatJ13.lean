/- Texts joined: Kc KcR Vs VsW Cnt. -/
import Derived.Test.YtembiemaiacdfaaGreatJ12
import Derived.Test.YtembiemaiacdfaaGreatJ05
set_option maxRecDepth 10000
set_option maxHeartbeats 8000000
namespace Go.Proofs.YtembiemaiacdfaaGreat
open Go.RowKit
section
end
section
end
def aC (s:List Kn) (r:Nat):List Rn:=s.flatMap fun k=>if k.rep = (r:Int) + 1 then k.runs else []
def bj (s:List Kn):List (List Rn):=(List.range 16).map (aC s)
def aX (cOf:List Rn → List Rn):Nat → List (List Rn) → List Kn
 | _,[]=>[]
 | i,l :: T=>(if (cOf l).length = 0 then [] else [⟨(i:Int) + 1,cOf l⟩]) ++ aX cOf (i + 1) T
def em (cOf:List Rn → List Rn) (s:List Kn):List Kn:=aX cOf 0 (bj s)
theorem aY (s:List Kn):(bj s).length = 16:=by simp [bj]
theorem kf (l:List Kn) (k:Kn) (r:Nat):aC (l ++ [k]) r = aC l r ++ (if k.rep = (r:Int) + 1 then k.runs else []):=by simp [aC]
theorem bn (s:List Kn) {r:Nat} (h:r < 16):(bj s)[r]? = some (aC s r):=by simp [bj,h]
theorem qk (l:List Kn) (k:Kn) {r:Nat} (h:r < 16) (hk:k.rep = (r:Int) + 1):bj (l ++ [k]) = (bj l).set r (aC l r ++ k.runs):=by
 apply List.ext_getElem?
 intro i
 rw [List.getElem?_set,aY]
 by_cases hi:i < 16
 · rw [bn _ hi,kf]
   by_cases h1:r = i
   · subst h1;rw [if_pos rfl,if_pos h,if_pos hk]
   · rw [if_neg h1,bn _ hi,if_neg (by omega),List.append_nil]
 · rw [List.getElem?_eq_none (by rw [aY];omega)]
   rw [if_neg (by omega),List.getElem?_eq_none (by rw [aY];omega)]
theorem B7 (l:List Kn) (k:Kn) (hk:¬ (1 ≤ k.rep ∧ k.rep ≤ 16)):bj (l ++ [k]) = bj l:=by
 apply List.ext_getElem?
 intro i
 by_cases hi:i < 16
 · rw [bn _ hi,bn _ hi,kf,if_neg (by omega),List.append_nil]
 · rw [List.getElem?_eq_none (by rw [aY];omega),List.getElem?_eq_none (by rw [aY];omega)]
theorem dM:∀ (s:List Kn) (r:Nat),(aC s r).length ≤ (s.flatMap Kn.runs).length:=by
 intro s
 induction s with
 | nil=>intro r;simp [aC]
 | cons k s ih=>
   intro r
   have:=ih r
   unfold aC at this ⊢
   rw [List.flatMap_cons,List.flatMap_cons,List.length_append,List.length_append]
   have h2:(if k.rep = (r:Int) + 1 then k.runs else []).length ≤ k.runs.length:=by split <;> simp
   omega
theorem tS {s:List Kn} {k:Kn} (h:k ∈ s):k.runs.length ≤ (s.flatMap Kn.runs).length:=by
 induction s with
 | nil=>cases h
 | cons x s ih=>
   rw [List.flatMap_cons,List.length_append]
   rcases List.mem_cons.1 h with q|q
   · subst q;omega
   · have:=ih q;omega
def cD (s:List Kn):Prop:=s.length ≤ 1000000000 ∧ (s.flatMap Kn.runs).length ≤ 1000000000
theorem cD.sz {s:List Kn} (h:cD s):jB s:=⟨h.1,fun k hk=>by
 have h2:=h.2
 have:=tS hk
 omega⟩
theorem oT (cOf:List Rn → List Rn):∀ (T U:List (List Rn)) (i:Nat),aX cOf i (T ++ U) = aX cOf i T ++ aX cOf (i + T.length) U:=by
 intro T
 induction T with
 | nil=>intro U i;rfl
 | cons l T ih=>intro U i;simp only [List.cons_append,aX,ih,List.length_cons,List.append_assoc];rw [show i + 1 + T.length = i + (T.length + 1) by omega]
theorem wi {s:List Kn} (h:bK s):∀ r,aC s r = [] ∨ ∃ k ∈ s,k.rep = (r:Int) + 1 ∧ aC s r = k.runs:=by
 intro r
 induction s using vV with
 | h0=>exact .inl rfl
 | h1 l k ih=>
   have hl:bK l:=fun i hi hi'=>by
     have h1:=h i (by simp;omega) (by simp;omega)
     have e1:(l ++ [k])[i]'(by simp;omega) = l[i]:=List.getElem_append_left hi
     rw [e1] at h1
     refine ⟨h1.1,h1.2.1,h1.2.2.1,h1.2.2.2.1,fun q=>?_⟩
     have:=h1.2.2.2.2 q
     rw [List.getElem_append_left (by omega)] at this
     exact this
   rw [kf]
   by_cases hk:k.rep = (r:Int) + 1
   · rw [if_pos hk]
     have hz:aC l r = []:=by
       rcases ih hl with q|⟨k',hk',e1,e2⟩
       · exact q
       · exfalso
         obtain ⟨i,hi,rfl⟩:=List.getElem_of_mem hk'
         have hlt:∀ (d i:Nat) (hi:i < l.length) (hd:i + d + 1 = l.length),l[i].rep < k.rep:=by
           intro d
           induction d with
           | zero=>
             intro i hi hd
             have:=(h (i + 1) (by simp;omega) (by simp;omega)).2.2.2.2 (by omega)
             simp only [Nat.add_sub_cancel] at this
             rw [List.getElem_append_left hi,List.getElem_append_right (by omega)] at this
             simpa using this
           | succ d ihd=>
             intro i hi hd
             have:=(h (i + 1) (by simp;omega) (by simp;omega)).2.2.2.2 (by omega)
             simp only [Nat.add_sub_cancel] at this
             rw [List.getElem_append_left hi,List.getElem_append_left (by omega)] at this
             have:=ihd (i + 1) (by omega) (by omega)
             omega
         have:=hlt (l.length - 1 - i) i hi (by omega)
         omega
     rw [hz,List.nil_append]
     exact .inr ⟨k,by simp,hk,rfl⟩
   · rw [if_neg hk,List.append_nil]
     rcases ih hl with q|⟨k',hk',e1,e2⟩
     · exact .inl q
     · exact .inr ⟨k',by simp [hk'],e1,e2⟩
theorem sn {s:List Kn} (h:bK s):∀ l ∈ bj s,cK l:=by
 intro l hl
 obtain ⟨r,_,rfl⟩:=List.mem_map.1 hl
 rcases wi h r with q|⟨k,hk,_,q⟩
 · rw [q];intro i hi;simp at hi
 · rw [q]
   obtain ⟨i,hi,rfl⟩:=List.getElem_of_mem hk
   exact (sh h hi).2.2.2
theorem yU {α:Type} (l:List α) (k:Nat) (h:k < l.length):l.take (k + 1) = l.take k ++ [l[k]]:=by rw [List.take_succ_eq_append_getElem h]
theorem ql (s:List Kn) (z r:Nat):(aC (s.take z) r).length ≤ (aC s r).length:=by
 have:aC s r = aC (s.take z) r ++ aC (s.drop z) r:=by
   unfold aC
   rw [← List.flatMap_append,List.take_append_drop]
 rw [this,List.length_append];omega
abbrev KL (T:List (List Rn)):PV:=bP (T.map jn)
abbrev gL (T:List (List Rn)):List Cnt:=T.map fun l=>Cnt.per (jn l)
theorem wj (T:List (List Rn)):oZ (gL T) = some (T.map jn):=by
 induction T with
 | nil=>rfl
 | cons l T ih=>
   show oZ (Cnt.per (jn l) :: gL T) = _
   unfold oZ
   rw [ih];rfl
theorem qm (T:List (List Rn)):(T.map jn).map Cnt.per = gL T:=by simp [gL]
theorem od {T:List (List Rn)} (h:T.length = 16):oZ (((gL T).drop 0).take 16) = some (T.map jn):=by
 rw [List.drop_zero,List.take_of_length_le (by simp;omega)];exact wj T
theorem qn {T:List (List Rn)} (h:T.length = 16):Nat.ble (0 + 16) (gL T).length = true:=by
 apply Nat.ble_eq_true_of_le;simp;omega
theorem sq {cells l:List Cnt} (h:l.length = cells.length):gW cells 0 l = l:=by
 unfold gW
 rw [List.take_zero,List.nil_append,List.drop_of_length_le (by omega),List.append_nil]
section
theorem ml (l:List Rn) (hl:l.length ≤ 1000000000):Fn Tryz.prog 201 [eC l] (.own 132 2 (l.map rnP)):=by
 by_cases h0:0 < l.length
 · refine fi Tryz.func201 Tryz.ntmps201 ?_
   (refine w0 ?_;(repeat' first|refine W2.mk ?_ ?_|refine W1.mk fun hc=>?_))
   refine aQ ?_
   exact cv rfl rfl rfl
 · obtain rfl:l = []:=List.eq_nil_of_length_eq_zero (by omega)
   refine fi Tryz.func201 Tryz.ntmps201 ?_
   (refine w0 ?_;(repeat' first|refine W2.mk ?_ ?_|refine W1.mk fun hc=>?_))
   · refine aQ ?_
     exact tC rfl
   · refine aQ ?_
     exact cv rfl rfl rfl
theorem sr (l:List Rn) (hl:l.length ≤ 1000000000) (h:cK l):Fn Tryz.prog 200 [eC l] (.own 132 2 (l.map rnP)):=by
 have h1:=oc l hl true (by simp [h])
 have h2:=ml l hl
 refine fi Tryz.func200 Tryz.ntmps200 ?_
 (have kc1:=h1;have kc2:=h2;refine w0 ?_;(repeat' first|refine W2.mk ?_ ?_|refine W1.mk fun hc=>?_);all_goals clear kc2 kc1)
 refine aQ ?_
 exact cv rfl rfl rfl
theorem yV (l m:List Rn) (hl:l.length ≤ 1000000000):Fn Tryz.prog 170 [eC l,eC m] (bO (decide (l = m))):=by
 refine fi Tryz.func170 Tryz.ntmps170 ?_
 (refine wH ?_;(repeat' first|refine W2.mk ?_ ?_|refine W1.mk fun hc=>?_))
 · refine aQ ?_
   exact af rfl (by symm;rw [decide_eq_false_iff_not];intro h;subst h;omega)
 have hlm:l.length = m.length:=by omega
 refine ah (fun k=>k ≤ l.length ∧ l.take k = m.take k) (fun k=>aN [(0,eC l),(1,eC m),(12,iC .i64 (l.length:Nat)),(13,iC .i64 (k:Nat))] []) (fun k=>l.length - k) 0 ⟨Nat.zero_le _,rfl⟩ ?_ ?_
 · exact ab
 · rintro k ⟨hk,hpre⟩
   by_cases hlt:k < l.length
   · have hltm:k < m.length:=by omega
     (refine wH ?_;(repeat' (first|refine W2.mk ?_ ?_|refine W1.mk fun hc=>?_|((first|apply aD rfl|apply aF rfl|apply aG rfl|apply aH rfl);(focus (first|(exact bJ (us:=encRn l[k]) (vs:=encRn m[k]) ⟨rfl,rfl,rfl⟩ rfl rfl rfl (.inr ⟨rfl,rfl⟩) Mj rfl (Ar l[k] m[k]))|(apply bx;(focus rfl);apply ag rfl rfl rfl rfl rfl;first|(exact bJ (us:=encRn l[k]) (vs:=encRn m[k]) ⟨rfl,rfl,rfl⟩ rfl rfl rfl (.inr ⟨rfl,rfl⟩) Mj rfl (Ar l[k] m[k])))));refine wH ?_))))
     · refine aQ ?_
       exact af rfl (by symm;rw [decide_eq_false_iff_not];intro h;subst h;simp [(pi l[k] l[k]).2 rfl] at *)
     · refine ⟨k + 1,⟨by omega,?_⟩,by omega,?_⟩
       · rw [aJ l k hlt,aJ m k hltm,hpre,(pi l[k] m[k]).1 (by simpa using hc)]
       · exact ab
   · (refine wH ?_;(repeat' first|refine W2.mk ?_ ?_|refine W1.mk fun hc=>?_))
     refine aQ ?_
     exact af rfl (by symm;rw [decide_eq_true_eq,← List.take_of_length_le (show l.length ≤ k by omega),hpre,List.take_of_length_le (by omega)])
theorem tT (s:List Kn) (hs:cD s):Fn Tryz.prog 172 [eh s] (.per (KL (bj s))):=by
 have hl0:=hs.1
 have htot:=hs.2
 refine fi Tryz.func172 Tryz.ntmps172 ?_
 (refine w0 ?_;(repeat' first|refine W2.mk ?_ ?_|refine W1.mk fun hc=>?_))
 refine ck (Eo 3 214 (cells':=gL (bj [])) rfl rfl (fun j c c' h h'=>?_)) ?_
 · have h1:c = .per (aq (.slice none 0 0)):=List.eq_of_mem_replicate (n:=16) (List.mem_of_getElem? h)
   have h2:c' = .per (jn []):=List.eq_of_mem_replicate (n:=16) (List.mem_of_getElem? h')
   rw [h1,h2];exact Iq
 refine ah (X:=Nat) (fun z=>z ≤ s.length)
   (fun z=>aN [(2,.ptr 2 0 0),(3,.ptr 3 0 0),(7,eh s),(8,iC .i64 (s.length:Nat)),(9,iC .i64 (z:Nat))] [(2,.box 214 (List.replicate 16 (.per (aq (.slice none 0 0))))),(3,.box 214 (gL (bj (s.take z))))]) (fun z=>s.length - z) 0 (Nat.zero_le _) ?_ ?_
 · exact ab
 · intro z hz
   by_cases hlt:z < s.length
   · have c1:=mj s[z].rep
     have hT:=aY (s.take z)
     have hsn:=yU s z hlt
     by_cases hr:1 ≤ s[z].rep ∧ s[z].rep ≤ 16
     · rw [decide_eq_true hr] at c1
       obtain ⟨r,hq⟩:∃ r:Nat,s[z].rep - 1 = (r:Nat):=⟨(s[z].rep - 1).toNat,by omega⟩
       have hr16:r < 16:=by omega
       have hin:=qk (s.take z) s[z] hr16 (by omega)
       rw [← hsn] at hin
       have hg:=bn (s.take z) hr16
       have hb1:=ql s z r
       have hb2:=dM s r
       have hb3:=hs.sz.at hlt
       generalize aC (s.take z) r = Tr at *
       generalize bj (s.take z) = T at *
       have HJ:(gL T)[0 + r * 1]? = some (.per (jn Tr)):=by
         rw [Nat.zero_add,Nat.mul_one,List.getElem?_map,hg];rfl
       have HB:Nat.ble (0 + r * 1 + 1) (gL T).length = true:=Nat.ble_eq_true_of_le (by simp;omega)
       have hTr:Tr.length ≤ 1000000000:=by omega
       have c2:=ml Tr (by omega)
       have HF:∀ (F:Cnt → Cnt) (c:Cnt),(∀ A,F (.per A) = .per A) → F c = .per (ct 2 (Tr.map rnP ++ s[z].runs.map rnP)) → (gW (gL T) (0 + r * 1) [c]).map F = gL (T.set r (Tr ++ s[z].runs)):=fun F c h1 h2=>by
         rw [Nat.zero_add,Nat.mul_one,vN _ _ _ (by simp;omega),List.map_set,h2,← List.map_append]
         have e:(gL T).map F = gL T:=by
           unfold gL
           rw [List.map_map]
           exact List.map_congr_left fun x _=>h1 _
         rw [e]
         unfold gL
         rw [List.map_set]
       clear hs htot hg
       (have kc1:=c1;have kc2:=c2;have ke1:=Lib.hid (hq);refine bq ?_;(repeat' (first|refine W2.mk ?_ ?_|refine W1.mk fun hc=>?_|((first|apply aD rfl|apply aF rfl|apply aG rfl|apply aH rfl);(focus (first|((apply az 5;(focus rfl);exact i7 ⟨rfl,rfl,rfl⟩ rfl inferInstance rfl rfl rfl HJ))|((apply az 6;(focus rfl);exact fW (c:=.row _ _) ⟨rfl,rfl⟩ rfl inferInstance rfl rfl rfl HB rfl (by first|exact cR (by first|exact ca rfl rfl|exact cb|exact cJ)|exact cS rfl|exact cT rfl rfl|exact cU rfl rfl|exact cw|exact cy|exact cz)))|(apply bx;(focus rfl);apply ag rfl rfl rfl rfl rfl;first|((apply az 5;(focus rfl);exact i7 ⟨rfl,rfl,rfl⟩ rfl inferInstance rfl rfl rfl HJ))|((apply az 6;(focus rfl);exact fW (c:=.row _ _) ⟨rfl,rfl⟩ rfl inferInstance rfl rfl rfl HB rfl (by first|exact cR (by first|exact ca rfl rfl|exact cb|exact cJ)|exact cS rfl|exact cT rfl rfl|exact cU rfl rfl|exact cw|exact cy|exact cz))))));refine bq ?_)));all_goals clear ke1 kc2 kc1)
       refine ⟨z + 1,by omega,by omega,ak (iv 23 _ 132 2 rfl rfl) ?_⟩
       (refine oL ?_ ?_;(focus ((repeat (first|exact iO.nil|(refine iO.cons ?_ ?_;rotate_left)));(all_goals try (first|rfl|(refine JZ ?_;first|omega|(simp;done)|(simp;omega))|(refine vy ?_;first|(simp;done)|(simp [*];done))))));(focus ((repeat (first|exact iP.nil|(refine iP.cons ?_ ?_;rotate_left)));(all_goals try (first|rfl|(refine tD ?_;(rw [List.map_append] <;> rfl);done)|(refine oM ?_;(rw [List.map_append] <;> rfl);done))))))
       rw [hin]
       show Blk.box _ (List.map _ (List.map _ _)) = _
       rw [List.map_map]
       exact congrArg (Blk.box _) (HF _ _ (fun _=>rfl) rfl)
     · rw [decide_eq_false hr] at c1
       have hout:=B7 (s.take z) s[z] hr
       rw [← hsn] at hout
       clear hs htot hsn hr
       (have kc1:=c1;refine w0 ?_;(repeat' first|refine W2.mk ?_ ?_|refine W1.mk fun hc=>?_);all_goals clear kc1)
       refine ⟨z + 1,by omega,by omega,?_⟩
       (refine oL ?_ ?_;(focus ((repeat (first|exact iO.nil|(refine iO.cons ?_ ?_;rotate_left)));(all_goals try (first|rfl|(refine JZ ?_;first|omega|(simp;done)|(simp;omega))|(refine vy ?_;first|(simp;done)|(simp [*];done))))));(focus ((repeat (first|exact iP.nil|(refine iP.cons ?_ ?_;rotate_left)));(all_goals try (first|rfl|(refine tD ?_;(rw [List.map_append] <;> rfl);done)|(refine oM ?_;(rw [List.map_append] <;> rfl);done))))))
       rw [hout];rfl
   · have e:s.take z = s:=List.take_of_length_le (by omega)
     rw [e]
     have hT:=aY s
     generalize bj s = T at *
     have HP:=od hT
     have HB:=qn hT
     clear hs htot
     (refine w0 ?_;(repeat' (first|refine W2.mk ?_ ?_|refine W1.mk fun hc=>?_|((first|apply aD rfl|apply aF rfl|apply aG rfl|apply aH rfl);(focus (first|((apply az 5;(focus rfl);exact f9 ⟨rfl,rfl,rfl⟩ rfl inferInstance inferInstance rfl rfl rfl rfl HB HP))|((apply az 6;(focus rfl);exact jt ⟨rfl,rfl⟩ rfl inferInstance rfl rfl rfl rfl rfl rfl (by simp [hT])))|(apply bx;(focus rfl);apply ag rfl rfl rfl rfl rfl;first|((apply az 5;(focus rfl);exact f9 ⟨rfl,rfl,rfl⟩ rfl inferInstance inferInstance rfl rfl rfl rfl HB HP))|((apply az 6;(focus rfl);exact jt ⟨rfl,rfl⟩ rfl inferInstance rfl rfl rfl rfl rfl rfl (by simp [hT]))))));refine w0 ?_))))
     refine aQ ?_
     have e2:gW (List.replicate 16 (Cnt.per (aq (.slice none 0 0)))) 0 ((T.map jn).map .per) = (T.map jn).map .per:=sq (by simp [hT])
     exact cq inferInstance inferInstance rfl rfl rfl rfl (by rw [e2];simp [hT]) (by rw [e2,qm];exact wj T)
theorem Au (cOf:List Rn → List Rn) (T:List (List Rn)) (hT:T.length = 16) (hOf:∀ l ∈ T,Fn Tryz.prog 200 [eC l] (.own 132 2 ((cOf l).map rnP))) :
   Fn Tryz.prog 191 [.per (KL T)] (.own 130 2 ((aX cOf 0 T).map Ap)):=by
 have HP:=od hT
 have HB:=qn hT
 have HE:=qm T
 refine fi Tryz.func191 Tryz.ntmps191 ?_
 have hstep:∀ z (h:z < T.length),aX cOf z (T.drop z) = (if (cOf T[z]).length = 0 then [] else [⟨(z:Int) + 1,cOf T[z]⟩]) ++ aX cOf (z + 1) (T.drop (z + 1)):=fun z h=>by
   rw [List.drop_eq_getElem_cons h];rfl
 (refine w0 ?_;(repeat' (first|refine W2.mk ?_ ?_|refine W1.mk fun hc=>?_|((first|apply aD rfl|apply aF rfl|apply aG rfl|apply aH rfl);(focus (first|((apply az 5;(focus rfl);exact f9 ⟨rfl,rfl,rfl⟩ rfl inferInstance inferInstance rfl rfl rfl rfl (HE ▸ HB) (HE ▸ HP)))|(apply bx;(focus rfl);apply ag rfl rfl rfl rfl rfl;first|((apply az 5;(focus rfl);exact f9 ⟨rfl,rfl,rfl⟩ rfl inferInstance inferInstance rfl rfl rfl rfl (HE ▸ HB) (HE ▸ HP))))));refine w0 ?_))))
 refine ck (bz 3 600 130 2 rfl rfl) ?_
 generalize hQ:aX cOf 0 T = Q
 refine ah (X:=Nat × List Kn) (fun z=>z.1 ≤ 16 ∧ z.2.length ≤ z.1 ∧ z.2 ++ aX cOf z.1 (T.drop z.1) = Q)
   (fun z=>aN [(3,.row 600 0),(6,.per (KL T)),(7,iC .i64 (z.1:Nat))] [(600,.row 130 2 (z.2.map Ap))]) (fun z=>16 - z.1) (0,[]) ⟨Nat.zero_le _,Nat.le_refl _,by simpa using hQ⟩ ?_ ?_
 · exact ab
 · rintro ⟨z,acc⟩ ⟨h1,h2,h3⟩
   simp only at h1 h2 h3 ⊢
   by_cases hz:z < 16
   · have hzT:z < T.length:=by omega
     have c1:=(hOf T[z] (List.getElem_mem hzT)).frz
     rw [hstep z hzT] at h3
     have HJ:(T.map jn)[z]? = some (jn T[z]):=by rw [List.getElem?_map,List.getElem?_eq_getElem hzT];rfl
     generalize cOf T[z] = L at *
     clear hOf hstep HP HB HE
     by_cases hL:L.length = 0
     · rw [if_pos hL,List.nil_append] at h3
       (have kc1:=c1;refine w0 ?_;(repeat' (first|refine W2.mk ?_ ?_|refine W1.mk fun hc=>?_|((first|apply aD rfl|apply aF rfl|apply aG rfl|apply aH rfl);(focus (first|((apply az 13;(focus rfl);exact mV ⟨rfl,rfl,rfl⟩ rfl inferInstance inferInstance inferInstance rfl rfl rfl (by omega) HJ))|(apply bx;(focus rfl);apply ag rfl rfl rfl rfl rfl;first|((apply az 13;(focus rfl);exact mV ⟨rfl,rfl,rfl⟩ rfl inferInstance inferInstance inferInstance rfl rfl rfl (by omega) HJ)))));refine w0 ?_)));all_goals clear kc1)
       refine ⟨(z + 1,acc),⟨by simp only;omega,by simp only;omega,h3⟩,by simp only;omega,?_⟩
       exact ab
     · rw [if_neg hL] at h3
       (have kc1:=c1;refine w0 ?_;(repeat' (first|refine W2.mk ?_ ?_|refine W1.mk fun hc=>?_|((first|apply aD rfl|apply aF rfl|apply aG rfl|apply aH rfl);(focus (first|((apply az 13;(focus rfl);exact mV ⟨rfl,rfl,rfl⟩ rfl inferInstance inferInstance inferInstance rfl rfl rfl (by omega) HJ))|(apply bx;(focus rfl);apply ag rfl rfl rfl rfl rfl;first|((apply az 13;(focus rfl);exact mV ⟨rfl,rfl,rfl⟩ rfl inferInstance inferInstance inferInstance rfl rfl rfl (by omega) HJ)))));refine w0 ?_)));all_goals clear kc1)
       refine ⟨(z + 1,acc ++ [⟨(z:Int) + 1,L⟩]),⟨by simp only;omega,by simp;omega,by simp only;rw [List.append_assoc];exact h3⟩,by simp only;omega,?_⟩
       exact ab
   · have h3':acc = Q:=by rw [← h3,List.drop_of_length_le (by omega)];simp [aX]
     clear hOf hstep HP HB HE h3
     (refine w0 ?_;(repeat' first|refine W2.mk ?_ ?_|refine W1.mk fun hc=>?_))
     refine aQ ?_
     exact dq rfl rfl rfl h3'
theorem J5 (cOf:List Rn → List Rn) (s:List Kn) (hs:cD s) (hOf:∀ l ∈ bj s,Fn Tryz.prog 200 [eC l] (.own 132 2 ((cOf l).map rnP))) :
   Fn Tryz.prog 148 [eh s] (.own 130 2 ((em cOf s).map Ap)):=by
 have h1:=tT s hs
 have h2:=Au cOf (bj s) (aY s) hOf
 refine fi Tryz.func148 Tryz.ntmps148 ?_
 (have kc1:=h1;have kc2:=h2;refine w0 ?_;(repeat' first|refine W2.mk ?_ ?_|refine W1.mk fun hc=>?_);all_goals clear kc2 kc1)
 refine aQ ?_
 exact cv rfl rfl rfl
theorem Fb (x y:Kn) (hx:x.runs.length ≤ 1000000000):el Tryz.prog 169 [MN x,MN y] [] (bC (decide (x = y))) []:=by
 have h1:=yV x.runs y.runs hx
 have hE:x = y ↔ x.rep = y.rep ∧ x.runs = y.runs:=by cases x;cases y;simp
 obtain ⟨r,l⟩:=x
 obtain ⟨r',l'⟩:=y
 simp only at h1 hE hx
 show el Tryz.prog _ [.per (bP [aq (.int .i64 r),jn l]),.per (bP [aq (.int .i64 r'),jn l'])] [] _ []
 by_cases e1:r = r'
 · by_cases e2:l = l'
   · rw [decide_eq_true (hE.2 ⟨e1,e2⟩)]
     rw [decide_eq_true e2] at h1
     clear hE e2
     refine fm Tryz.func169 Tryz.ntmps169 ?_
     (have kc1:=h1;refine w0 ?_;(repeat' first|refine W2.mk ?_ ?_|refine W1.mk fun hc=>?_);all_goals clear kc1)
     (refine ⟨(by first|exact .inl rfl|exact .inr rfl),bR [] rfl rfl .nil ?_⟩)
     exact jv rfl (by first|rfl|(simp [e1];done))
   · rw [decide_eq_false (fun h=>e2 (hE.1 h).2)]
     rw [decide_eq_false e2] at h1
     clear hE e2
     refine fm Tryz.func169 Tryz.ntmps169 ?_
     (have kc1:=h1;refine w0 ?_;(repeat' first|refine W2.mk ?_ ?_|refine W1.mk fun hc=>?_);all_goals clear kc1)
     (refine ⟨(by first|exact .inl rfl|exact .inr rfl),bR [] rfl rfl .nil ?_⟩)
     exact jv rfl (by first|rfl|(simp [e1];done))
 · rw [decide_eq_false (fun h=>e1 (hE.1 h).1)]
   clear hE
   refine fm Tryz.func169 Tryz.ntmps169 ?_
   (have kc1:=h1;refine w0 ?_;(repeat' first|refine W2.mk ?_ ?_|refine W1.mk fun hc=>?_);all_goals clear kc1)
   (refine ⟨(by first|exact .inl rfl|exact .inr rfl),bR [] rfl rfl .nil ?_⟩)
   exact jv rfl (by first|rfl|(simp [e1];done))
abbrev LJ:Cnt:=.per (aq (.func (.func 169) #[] #[]))
theorem qo (l m:List Kn) (hl:jB l):Fn Tryz.prog 168 [eh l,eh m,LJ] (bO (decide (l = m))):=by
 have hl0:=hl.1
 refine fi Tryz.func168 Tryz.ntmps168 ?_
 (refine w0 ?_;(repeat' first|refine W2.mk ?_ ?_|refine W1.mk fun hc=>?_))
 · refine aQ ?_
   exact af rfl (by symm;rw [decide_eq_false_iff_not];intro h;subst h;omega)
 have hlm:l.length = m.length:=by omega
 refine ah (fun k=>k ≤ l.length ∧ l.take k = m.take k) (fun k=>aN [(1,eh m),(2,LJ),(15,eh l),(16,iC .i64 (l.length:Nat)),(17,iC .i64 (k:Nat))] []) (fun k=>l.length - k) 0 ⟨Nat.zero_le _,rfl⟩ ?_ ?_
 · exact ab
 · rintro k ⟨hk,hpre⟩
   by_cases hlt:k < l.length
   · have hltm:k < m.length:=by omega
     have c1:=Fb l[k] m[k] (hl.at hlt)
     by_cases he:l[k] = m[k]
     · rw [decide_eq_true he] at c1
       (refine w0 ?_;(repeat' (first|refine W2.mk ?_ ?_|refine W1.mk fun hc=>?_|((first|apply aD rfl|apply aF rfl|apply aG rfl|apply aH rfl);(focus (first|(exact vO [] c1)|(apply bx;(focus rfl);apply ag rfl rfl rfl rfl rfl;first|(exact vO [] c1))));refine w0 ?_))))
       refine ⟨k + 1,⟨by omega,?_⟩,by omega,?_⟩
       · rw [aJ l k hlt,aJ m k hltm,hpre,he]
       · exact ab
     · rw [decide_eq_false he] at c1
       have hd:¬ l = m:=fun h=>he (by subst h;rfl)
       rw [decide_eq_false hd]
       clear hd he
       (refine w0 ?_;(repeat' (first|refine W2.mk ?_ ?_|refine W1.mk fun hc=>?_|((first|apply aD rfl|apply aF rfl|apply aG rfl|apply aH rfl);(focus (first|(exact vO [] c1)|(apply bx;(focus rfl);apply ag rfl rfl rfl rfl rfl;first|(exact vO [] c1))));refine w0 ?_))))
       refine aQ ?_
       exact af rfl rfl
   · rw [List.take_of_length_le (by omega),List.take_of_length_le (by omega)] at hpre
     rw [decide_eq_true hpre]
     clear hpre
     (refine w0 ?_;(repeat' first|refine W2.mk ?_ ?_|refine W1.mk fun hc=>?_))
     refine aQ ?_
     exact af rfl rfl
theorem Av (a b A B:List Kn) (hA:Fn Tryz.prog 148 [eh a] (.own 130 2 (A.map Ap))) (hB:Fn Tryz.prog 148 [eh b] (.own 130 2 (B.map Ap))) (hsz:jB A) :
   Fn Tryz.prog 124 [eh a,eh b] (bO (decide (A = B))):=by
 have h1:=qo A B hsz
 refine fi Tryz.func124 Tryz.ntmps124 ?_
 (have ko1:=hA;have ko2:=hB;have kc1:=h1;refine w0 ?_;(repeat' first|refine W2.mk ?_ ?_|refine W1.mk fun hc=>?_);all_goals clear kc1 ko2 ko1)
 refine aQ ?_
 exact af rfl rfl
end
theorem gb {α:Type} (A:List α) (x y:α) (T:List α) (j:Nat) (hj:j = A.length):(A ++ x :: T).set j y = A ++ y :: T:=by
 subst hj;simp
theorem Aw {α:Type} (l:List α):l = [] ∨ ∃ (l':List α) (y:α),l = l' ++ [y]:=by
 rcases List.eq_nil_or_concat l with h|⟨a,y,h⟩
 · exact .inl h
 · exact .inr ⟨a,y,by rw [h];simp⟩
theorem eS {α β:Type} (f:α → β) (l:List α) (j:Nat) (y:α):(l.map f).set j (f y) = (l.set j y).map f:=by rw [List.map_set]
section
variable {P:Program} {n t:Nat} {ops:Array Oper} {o:Oper} {S:St}
theorem lN {ty ty':TypeId} {x y:Operand} {k:IntKind} {u v z:Int} (hp:Pl n o t) (ho:o.op = .call { callee:=.builtin .max,args:=#[x,y],argTypes:=#[ty,ty'] }) (hx:S.opd x = iC k u) (hy:S.opd y = iC k v) (hz:(if v > u then v else u) = z):an n P ops o (ax x ++ ax y) (iC k z) [] S:=
 hz ▸ Em hp ho hx hy
end
abbrev wk (l:List Rn):Ret:=.own 132 2 (l.map rnP)
abbrev Fc (l:List Rn):Blk:=.row 132 2 (l.map rnP)
section
theorem tU (l:List Rn) (hl:l.length ≤ 1000000000):Fn Tryz.prog 200 [eC l] (wk (ofR l)):=by
 by_cases hok:cK l
 · rw [tQ hok]
   exact sr l hl hok
 have h0:=oc l hl false (by simp [hok])
 generalize hT:l.filter ga = T at *
 have hTr:∀ x ∈ T,ga x = true:=fun x hx=>by rw [← hT] at hx;exact (List.mem_filter.1 hx).2
 have hTl:T.length ≤ 1000000000:=by rw [← hT];exact Nat.le_trans (List.length_filter_le _ _) hl
 have hs:=E8 T hTr hTl
 obtain ⟨hp,hsr⟩:=wh hTr
 have hR:=yQ (l:=l) hsr (fun r=>by rw [hp.mem_iff,hT])
 have hQr:∀ x ∈ ke T,ga x = true:=fun x hx=>hTr x (hp.mem_iff.1 hx)
 have hQl:(ke T).length = T.length:=hp.length_eq
 rw [← hR]
 generalize ke T = Q at *
 generalize hRR:jo Q = R
 clear hR hp hsr hok
 refine fi Tryz.func200 Tryz.ntmps200 ?_
 (have kc1:=h0;refine w0 ?_;(repeat' first|refine W2.mk ?_ ?_|refine W1.mk fun hc=>?_);all_goals clear kc1)
 refine ck (bz 3 600 132 2 rfl rfl) ?_
 refine ah (X:=Nat × List Rn) (fun x=>x.1 ≤ l.length ∧ x.2 ++ (l.drop x.1).filter ga = T)
   (fun x=>aN [(3,.row 600 0),(14,eC l),(15,iC .i64 (l.length:Nat)),(16,iC .i64 (x.1:Nat))] [(600,Fc x.2)]) (fun x=>l.length - x.1) (0,[]) ⟨Nat.zero_le _,by simp [hT]⟩ ?_ ?_
 · exact ab
 · rintro ⟨k,ac⟩ ⟨g1,g2⟩
   simp only at g1 g2 ⊢
   by_cases hk:k < l.length
   · have hir:=tR l[k]
     have hlen:ac.length ≤ 1000000000:=by
       have:=congrArg List.length g2
       simp only [List.length_append] at this;omega
     rw [List.drop_eq_getElem_cons hk,List.filter_cons] at g2
     cases hr:ga l[k] with
     | false=>
       rw [hr] at hir g2
       clear hTr hQr hs
       (have kc1:=hir;refine w0 ?_;(repeat' first|refine W2.mk ?_ ?_|refine W1.mk fun hc=>?_);all_goals clear kc1)
       refine ⟨(k + 1,ac),⟨by simp only;omega,by simpa using g2⟩,by simp only;omega,?_⟩
       exact ab
     | true=>
       rw [hr] at hir g2
       clear hTr hQr hs
       (have kc1:=hir;refine w0 ?_;(repeat' first|refine W2.mk ?_ ?_|refine W1.mk fun hc=>?_);all_goals clear kc1)
       refine ⟨(k + 1,ac ++ [l[k]]),⟨by simp only;omega,by simpa using g2⟩,by simp only;omega,ak (aM 600 601) (ak (aM 601 600) ?_)⟩
       exact ab
   · have hkl:k = l.length:=by omega
     subst hkl
     rw [List.drop_length] at g2
     simp at g2
     subst g2
     (have km1:=(show bv [(1000,600)] _ _ _ _ _ _ from hs);refine w0 ?_;(repeat' first|refine W2.mk ?_ ?_|refine W1.mk fun hc=>?_);all_goals clear km1)
     clear hs hTr hT
     refine ck (bz 6 700 132 2 rfl rfl) ?_
     refine ah (X:=Nat × List Rn) (fun x=>x.1 ≤ Q.length ∧ x.2.length ≤ x.1 ∧ ((x.2 = [] ∧ x.1 = 0) ∨ ∃ o y,x.2 = o ++ [y] ∧ ga y = true ∧ o ++ wa y (Q.drop x.1) = R))
       (fun x=>aN [(6,.row 700 0),(29,.row 600 0),(30,iC .i64 (Q.length:Nat)),(31,iC .i64 (x.1:Nat))] [(600,Fc Q),(700,Fc x.2)]) (fun x=>Q.length - x.1) (0,[]) ⟨Nat.zero_le _,Nat.le_refl _,.inl ⟨rfl,rfl⟩⟩ ?_ ?_
     · exact ab
     · rintro ⟨k,out⟩ ⟨g1,g0,g2⟩
       simp only at g1 g0 g2 ⊢
       by_cases hk:k < Q.length
       · have hxr:=hQr _ (List.getElem_mem hk)
         have hdr:=List.drop_eq_getElem_cons hk
         generalize hx:Q[k] = x at *
         have HQ:(Q.map rnP)[k]? = some (rnP x):=by rw [List.getElem?_map,List.getElem?_eq_getElem hk,hx];rfl
         have hxi:=(bu x).1 hxr
         clear hQr
         rcases g2 with ⟨rfl,rfl⟩|⟨o,y,rfl,hyr,g2⟩
         · have g4:[] ++ wa x (Q.drop 1) = R:=by
             rw [List.drop_zero] at hdr
             rw [← hRR,hdr];rfl
           (refine w0 ?_;(repeat' (first|refine W2.mk ?_ ?_|refine W1.mk fun hc=>?_|((first|apply aD rfl|apply aF rfl|apply aG rfl|apply aH rfl);(focus (first|((apply az 5;(focus rfl);exact ae ⟨rfl,rfl,rfl⟩ rfl inferInstance inferInstance rfl rfl rfl HQ rfl rfl rfl))|(apply bx;(focus rfl);apply ag rfl rfl rfl rfl rfl;first|((apply az 5;(focus rfl);exact ae ⟨rfl,rfl,rfl⟩ rfl inferInstance inferInstance rfl rfl rfl HQ rfl rfl rfl)))));refine w0 ?_))))
           refine ⟨(1,[x]),⟨by simp only;omega,Nat.le_refl _,.inr ⟨[],x,rfl,hxr,g4⟩⟩,by simp only;omega,ak (aM 700 701) (ak (aM 701 700) ?_)⟩
           exact ab
         · have hyi:=(bu y).1 hyr
           rw [hdr,wa] at g2
           have hL1:(o ++ [y]).length = o.length + 1:=by simp
           have hM:(if x.to > y.to then x.to else y.to) = max y.to x.to:=by omega
           have hmr:ga ⟨y.fr,max y.to x.to⟩ = true:=(bu _).2 (by simp only;omega)
           generalize max y.to x.to = M at *
           generalize hL:o ++ [y] = L at *
           have hLi:((L.length:Int) - 1).toNat = o.length:=by omega
           have HY:(L.map rnP)[((L.length:Int) - 1).toNat]? = some (rnP y):=by
             rw [List.getElem?_map,hLi,← hL]
             simp
           have HS1:(L.map rnP).set ((L.length:Int) - 1).toNat (bI (rnP y) 1 [aq (.int .i64 M)]) = (o ++ [(⟨y.fr,M⟩:Rn)]).map rnP:=by
             rw [show (L.map rnP).set ((L.length:Int) - 1).toNat (bI (rnP y) 1 [aq (.int .i64 M)]) = (L.set ((L.length:Int) - 1).toNat ⟨y.fr,M⟩).map rnP from eS rnP L _ (⟨y.fr,M⟩:Rn),← hL,gb o y _ [] _ (by rw [hL];omega)]
           have hML:(o ++ [(⟨y.fr,M⟩:Rn)]).length = L.length:=by rw [← hL];simp
           by_cases c:x.fr - y.to < 2
           · rw [if_pos c] at g2
             (repeat' (first|refine cN ?_|refine bD ?_|refine cc ?_|refine cd ?_|refine cO ?_|refine bi ?_|refine db dX ?_|refine cL ?_|refine cM (by kernel_rfl) ?_|(refine gw rfl rfl ⟨fun hc=>?_,fun hc=>?_⟩ <;> (repeat rw [List.length_map] at hc) <;> (try exact dy hc))|((first|apply aD rfl|apply aF rfl|apply aG rfl|apply aH rfl);focus (first|((apply az 19;(focus rfl);exact lN ⟨rfl,rfl,rfl⟩ rfl rfl rfl hM))|(apply bx;(focus rfl);apply ag rfl rfl rfl rfl rfl;((apply az 19;(focus rfl);exact lN ⟨rfl,rfl,rfl⟩ rfl rfl rfl hM)))|exact dY|((apply az 5;(focus rfl);first|exact aw ⟨rfl,rfl,rfl⟩ rfl inferInstance rfl rfl rfl HY rfl|exact ae ⟨rfl,rfl,rfl⟩ rfl inferInstance inferInstance rfl rfl rfl HQ rfl rfl rfl))|(apply bx;(focus rfl);apply ag rfl rfl rfl rfl rfl;((apply az 5;(focus rfl);first|exact aw ⟨rfl,rfl,rfl⟩ rfl inferInstance rfl rfl rfl HY rfl|exact ae ⟨rfl,rfl,rfl⟩ rfl inferInstance inferInstance rfl rfl rfl HQ rfl rfl rfl)))|((apply az 6;(focus rfl);exact al ⟨rfl,rfl⟩ rfl inferInstance rfl rfl rfl rfl HY rfl (aK rfl rfl rfl) rfl HS1))|(apply bx;(focus rfl);apply ag rfl rfl rfl rfl rfl;((apply az 6;(focus rfl);exact al ⟨rfl,rfl⟩ rfl inferInstance rfl rfl rfl rfl HY rfl (aK rfl rfl rfl) rfl HS1)))|fail))|refine ce ?_|refine cg ?_|refine ci ?_|refine d8 ?_|refine d9 ?_|refine cj ?_|refine bF rfl ?_|((first|refine gx rfl rfl rfl ⟨fun hc=>?_,fun hc=>?_⟩|refine gy rfl rfl rfl ⟨fun hc=>?_,fun hc=>?_⟩) <;> (fail_if_success (have q:(true = true):=hc)) <;> (fail_if_success (have q:(false = false):=hc)) <;> (repeat rw [List.length_map] at hc) <;> (try exact dy hc))|refine br rfl rfl (fun hc=>?_) ?_))
             refine ⟨(k + 1,_),⟨by simp only;omega,by simp only;omega,.inr ⟨o,_,rfl,hmr,g2⟩⟩,by simp only;omega,?_⟩
             exact ab
           · rw [if_neg c] at g2
             (refine w0 ?_;(repeat' (first|refine W2.mk ?_ ?_|refine W1.mk fun hc=>?_|((first|apply aD rfl|apply aF rfl|apply aG rfl|apply aH rfl);(focus (first|((apply az 5;(focus rfl);first|exact aw ⟨rfl,rfl,rfl⟩ rfl inferInstance rfl rfl rfl HY rfl|exact ae ⟨rfl,rfl,rfl⟩ rfl inferInstance inferInstance rfl rfl rfl HQ rfl rfl rfl))|(apply bx;(focus rfl);apply ag rfl rfl rfl rfl rfl;first|((apply az 5;(focus rfl);first|exact aw ⟨rfl,rfl,rfl⟩ rfl inferInstance rfl rfl rfl HY rfl|exact ae ⟨rfl,rfl,rfl⟩ rfl inferInstance inferInstance rfl rfl rfl HQ rfl rfl rfl)))));refine w0 ?_))))
             refine ⟨(k + 1,L ++ [x]),⟨by simp only;omega,by simp;omega,.inr ⟨L,x,rfl,hxr,by simp only;rw [← hL,List.append_assoc];exact g2⟩⟩,by simp only;omega,ak (aM 700 701) (ak (aM 701 700) ?_)⟩
             exact ab
       · have hkl:k = Q.length:=by omega
         subst hkl
         have g3:out = R:=by
           rcases g2 with ⟨a,b⟩|⟨o,y,a,_,b⟩
           · rw [a,← hRR,List.eq_nil_of_length_eq_zero b];rfl
           · rw [List.drop_length] at b
             rw [a,← b];rfl
         clear g2 hRR hQr
         (refine w0 ?_;(repeat' first|refine W2.mk ?_ ?_|refine W1.mk fun hc=>?_))
         refine aQ ?_
         exact dq rfl rfl rfl g3
end
end Go.Proofs.YtembiemaiacdfaaGreat
