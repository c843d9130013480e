/- Texts joined: Kc KcR Vs VsW Cnt RnE. -/
import Derived.Test.YtliiahjpiagdkaaGreatJ11
import Derived.Test.YtliiahjpiagdkaaGreatJ05
set_option maxRecDepth 10000
set_option maxHeartbeats 8000000
namespace Go.Proofs.YtliiahjpiagdkaaGreat
open Go.RowKit
section
end
section
end
def aK (s:List Kn) (r:Nat):List Rn:=s.flatMap fun k=>if k.rep = (r:Int) + 1 then k.runs else []
def b6 (s:List Kn):List (List Rn):=(List.range 16).map (aK s)
def bj (cOf:List Rn → List Rn):Nat → List (List Rn) → List Kn
 | _,[]=>[]
 | i,l :: T=>(if (cOf l).length = 0 then [] else [⟨(i:Int) + 1,cOf l⟩]) ++ bj cOf (i + 1) T
def ff (cOf:List Rn → List Rn) (s:List Kn):List Kn:=bj cOf 0 (b6 s)
theorem bG (s:List Kn):(b6 s).length = 16:=by simp [b6]
theorem kK (l:List Kn) (k:Kn) (r:Nat):aK (l ++ [k]) r = aK l r ++ (if k.rep = (r:Int) + 1 then k.runs else []):=by simp [aK]
theorem b9 (s:List Kn) {r:Nat} (h:r < 16):(b6 s)[r]? = some (aK s r):=by simp [b6,h]
theorem sa (l:List Kn) (k:Kn) {r:Nat} (h:r < 16) (hk:k.rep = (r:Int) + 1):b6 (l ++ [k]) = (b6 l).set r (aK l r ++ k.runs):=by
 apply List.ext_getElem?
 intro i
 rw [List.getElem?_set,bG]
 by_cases hi:i < 16
 ·rw [b9 _ hi,kK]
  by_cases h1:r = i
  ·subst h1;rw [if_pos rfl,if_pos h,if_pos hk]
  ·rw [if_neg h1,b9 _ hi,if_neg (by omega),List.append_nil]
 ·rw [List.getElem?_eq_none (by rw [bG];omega)]
  rw [if_neg (by omega),List.getElem?_eq_none (by rw [bG];omega)]
theorem Ef (l:List Kn) (k:Kn) (hk:¬ (1 ≤ k.rep ∧ k.rep ≤ 16)):b6 (l ++ [k]) = b6 l:=by
 apply List.ext_getElem?
 intro i
 by_cases hi:i < 16
 ·rw [b9 _ hi,b9 _ hi,kK,if_neg (by omega),List.append_nil]
 ·rw [List.getElem?_eq_none (by rw [bG];omega),List.getElem?_eq_none (by rw [bG];omega)]
theorem d6:∀ (s:List Kn) (r:Nat),(aK s r).length ≤ (s.flatMap Kn.runs).length:=by
 intro s
 induction s with
 | nil=>intro r;simp [aK]
 | cons k s ih=>
  intro r
  have:=ih r
  unfold aK at this ⊢
  rw [List.flatMap_cons,List.flatMap_cons,List.length_append,List.length_append]
  have h2:(if k.rep = (r:Int) + 1 then k.runs else []).length ≤ k.runs.length:=by split <;> simp
  omega
theorem vS {s:List Kn} {k:Kn} (h:k ∈ s):k.runs.length ≤ (s.flatMap Kn.runs).length:=by
 induction s with
 | nil=>cases h
 | cons x s ih=>
  rw [List.flatMap_cons,List.length_append]
  rcases List.mem_cons.1 h with q|q
  ·subst q;omega
  ·have:=ih q;omega
def cR (s:List Kn):Prop:=s.length ≤ 1000000000 ∧ (s.flatMap Kn.runs).length ≤ 1000000000
theorem cR.sz {s:List Kn} (h:cR s):jX s:=⟨h.1,fun k hk=>by
 have h2:=h.2
 have:=vS hk
 omega⟩
theorem qr (cOf:List Rn → List Rn):∀ (T U:List (List Rn)) (i:Nat),bj cOf i (T ++ U) = bj cOf i T ++ bj cOf (i + T.length) U:=by
 intro T
 induction T with
 | nil=>intro U i;rfl
 | cons l T ih=>intro U i;simp only [List.cons_append,bj,ih,List.length_cons,List.append_assoc];rw [show i + 1 + T.length = i + (T.length + 1) by omega]
theorem yu {s:List Kn} (h:cg s):∀ r,aK s r = [] ∨ ∃ k ∈ s,k.rep = (r:Int) + 1 ∧ aK s r = k.runs:=by
 intro r
 induction s using yg with
 | h0=>exact .inl rfl
 | h1 l k ih=>
  have hl:cg l:=fun i hi hi'=>by
   have h1:=h i (by simp;omega) (by simp;omega)
   have e1:(l ++ [k])[i]'(by simp;omega) = l[i]:=List.getElem_append_left hi
   rw [e1] at h1
   refine ⟨h1.1,h1.2.1,h1.2.2.1,h1.2.2.2.1,fun q=>?_⟩
   have:=h1.2.2.2.2 q
   rw [List.getElem_append_left (by omega)] at this
   exact this
  rw [kK]
  by_cases hk:k.rep = (r:Int) + 1
  ·rw [if_pos hk]
   have hz:aK l r = []:=by
    rcases ih hl with q|⟨k',hk',e1,e2⟩
    ·exact q
    ·exfalso
     obtain ⟨i,hi,rfl⟩:=List.getElem_of_mem hk'
     have hlt:∀ (d i:Nat) (hi:i < l.length) (hd:i + d + 1 = l.length),l[i].rep < k.rep:=by
      intro d
      induction d with
      | zero=>
       intro i hi hd
       have:=(h (i + 1) (by simp;omega) (by simp;omega)).2.2.2.2 (by omega)
       simp only [Nat.add_sub_cancel] at this
       rw [List.getElem_append_left hi,List.getElem_append_right (by omega)] at this
       simpa using this
      | succ d ihd=>
       intro i hi hd
       have:=(h (i + 1) (by simp;omega) (by simp;omega)).2.2.2.2 (by omega)
       simp only [Nat.add_sub_cancel] at this
       rw [List.getElem_append_left hi,List.getElem_append_left (by omega)] at this
       have:=ihd (i + 1) (by omega) (by omega)
       omega
     have:=hlt (l.length - 1 - i) i hi (by omega)
     omega
   rw [hz,List.nil_append]
   exact .inr ⟨k,by simp,hk,rfl⟩
  ·rw [if_neg hk,List.append_nil]
   rcases ih hl with q|⟨k',hk',e1,e2⟩
   ·exact .inl q
   ·exact .inr ⟨k',by simp [hk'],e1,e2⟩
theorem uD {s:List Kn} (h:cg s):∀ l ∈ b6 s,cu l:=by
 intro l hl
 obtain ⟨r,_,rfl⟩:=List.mem_map.1 hl
 rcases yu h r with q|⟨k,hk,_,q⟩
 ·rw [q];intro i hi;simp at hi
 ·rw [q]
  obtain ⟨i,hi,rfl⟩:=List.getElem_of_mem hk
  exact (uz h hi).2.2.2
theorem AY {α:Type} (l:List α) (k:Nat) (h:k < l.length):l.take (k + 1) = l.take k ++ [l[k]]:=by rw [List.take_succ_eq_append_getElem h]
theorem sb (s:List Kn) (z r:Nat):(aK (s.take z) r).length ≤ (aK s r).length:=by
 have:aK s r = aK (s.take z) r ++ aK (s.drop z) r:=by
  unfold aK
  rw [← List.flatMap_append,List.take_append_drop]
 rw [this,List.length_append];omega
abbrev NK (T:List (List Rn)):PV:=bX (T.map jH)
abbrev iI (T:List (List Rn)):List Cnt:=T.map fun l=>Cnt.per (jH l)
theorem yv (T:List (List Rn)):po (iI T) = some (T.map jH):=by
 induction T with
 | nil=>rfl
 | cons l T ih=>
  show po (Cnt.per (jH l) :: iI T) = _
  unfold po
  rw [ih];rfl
theorem se (T:List (List Rn)):(T.map jH).map Cnt.per = iI T:=by simp [iI]
theorem pH {T:List (List Rn)} (h:T.length = 16):po (((iI T).drop 0).take 16) = some (T.map jH):=by
 rw [List.drop_zero,List.take_of_length_le (by simp;omega)];exact yv T
theorem sf {T:List (List Rn)} (h:T.length = 16):Nat.ble (0 + 16) (iI T).length = true:=by
 apply Nat.ble_eq_true_of_le;simp;omega
theorem uE {cells l:List Cnt} (h:l.length = cells.length):iM cells 0 l = l:=by
 unfold iM
 rw [List.take_zero,List.nil_append,List.drop_of_length_le (by omega),List.append_nil]
section
theorem nF (l:List Rn) (hl:l.length ≤ 1000000000):Fn Tryz.prog 207 [fd l] (.own 147 2 (l.map rnP)):=by
 by_cases h0:0 < l.length
 ·refine fi Tryz.func207 Tryz.ntmps207 ?_
  (refine w0 ?_;repeat' first|apply ai|refine aj fun hc=>?_)
  refine aU ?_
  exact cI rfl rfl rfl
 ·obtain rfl:l = []:=List.eq_nil_of_length_eq_zero (by omega)
  refine fi Tryz.func207 Tryz.ntmps207 ?_
  (refine w0 ?_;repeat' first|apply ai|refine aj fun hc=>?_)
  ·refine aU ?_
   exact Ag rfl
  ·refine aU ?_
   exact cI rfl rfl rfl
theorem uF (l:List Rn) (hl:l.length ≤ 1000000000) (h:cu l):Fn Tryz.prog 206 [fd l] (.own 147 2 (l.map rnP)):=by
 have h1:=pG l hl true (by simp [h])
 have h2:=nF l hl
 refine fi Tryz.func206 Tryz.ntmps206 ?_
 (refine aL h1 h2 ?_;repeat' first|apply ai|refine aj fun hc=>?_)
 refine aU ?_
 exact cI rfl rfl rfl
theorem AZ (l m:List Rn) (hl:l.length ≤ 1000000000):Fn Tryz.prog 171 [fd l,fd m] (cw (decide (l = m))):=by
 refine fi Tryz.func171 Tryz.ntmps171 ?_
 (refine wH ?_;repeat' first|apply ai|refine aj fun hc=>?_)
 ·refine aU ?_
  exact af rfl (by symm;rw [decide_eq_false_iff_not];intro h;subst h;omega)
 have hlm:l.length = m.length:=by omega
 refine an (fun k=>k ≤ l.length ∧ l.take k = m.take k) (fun k=>ba [(0,fd l),(1,fd m),(12,iC .i64 (l.length:Nat)),(13,iC .i64 (k:Nat))] []) (fun k=>l.length - k) 0 ⟨Nat.zero_le _,rfl⟩ ?_ ?_
 ·exact ae
 ·rintro k ⟨hk,hpre⟩
  by_cases hlt:k < l.length
  ·have hltm:k < m.length:=by omega
   (refine wH ?_;repeat' first|apply ai|refine aj fun hc=>?_|((first|apply aO rfl|apply aP rfl|apply aQ rfl|apply aR rfl);(focus ((try (apply b8;(focus rfl);apply ah rfl rfl rfl rfl rfl));first|(exact dR (us:=encRn l[k]) (vs:=encRn m[k]) ⟨rfl,rfl,rfl⟩ rfl rfl rfl (.inr ⟨rfl,rfl⟩) Qv rfl (M2 l[k] m[k]))));refine wH ?_))
   ·refine aU ?_
    exact af rfl (by symm;rw [decide_eq_false_iff_not];intro h;subst h;simp [(qX l[k] l[k]).2 rfl] at *)
   ·refine ⟨k + 1,⟨by omega,?_⟩,by omega,?_⟩
    ·rw [aJ l k hlt,aJ m k hltm,hpre,(qX l[k] m[k]).1 (by simpa using hc)]
    ·exact ae
  ·(refine wH ?_;repeat' first|apply ai|refine aj fun hc=>?_)
   refine aU ?_
   exact af rfl (by symm;rw [decide_eq_true_eq,← List.take_of_length_le (show l.length ≤ k by omega),hpre,List.take_of_length_le (by omega)])
theorem vT (s:List Kn) (hs:cR s):Fn Tryz.prog 177 [eM s] (.per (NK (b6 s))):=by
 have hl0:=hs.1
 have htot:=hs.2
 refine fi Tryz.func177 Tryz.ntmps177 ?_
 (refine w0 ?_;repeat' first|apply ai|refine aj fun hc=>?_)
 refine bZ (GK 3 212 (cells':=iI (b6 [])) rfl rfl (fun j c c' h h'=>?_)) ?_
 ·have h1:c = .per (av (.slice none 0 0)):=List.eq_of_mem_replicate (n:=16) (List.mem_of_getElem? h)
  have h2:c' = .per (jH []):=List.eq_of_mem_replicate (n:=16) (List.mem_of_getElem? h')
  rw [h1,h2];exact La
 refine an (X:=Nat) (fun z=>z ≤ s.length)
  (fun z=>ba [(2,.ptr 2 0 0),(3,.ptr 3 0 0),(7,eM s),(8,iC .i64 (s.length:Nat)),(9,iC .i64 (z:Nat))] [(2,.box 212 (List.replicate 16 (.per (av (.slice none 0 0))))),(3,.box 212 (iI (b6 (s.take z))))]) (fun z=>s.length - z) 0 (Nat.zero_le _) ?_ ?_
 ·exact ae
 ·intro z hz
  by_cases hlt:z < s.length
  ·have c1:=nD s[z].rep
   have hT:=bG (s.take z)
   have hsn:=AY s z hlt
   by_cases hr:1 ≤ s[z].rep ∧ s[z].rep ≤ 16
   ·rw [decide_eq_true hr] at c1
    obtain ⟨r,hq⟩:∃ r:Nat,s[z].rep - 1 = (r:Nat):=⟨(s[z].rep - 1).toNat,by omega⟩
    have hr16:r < 16:=by omega
    have hin:=sa (s.take z) s[z] hr16 (by omega)
    rw [← hsn] at hin
    have hg:=b9 (s.take z) hr16
    have hb1:=sb s z r
    have hb2:=d6 s r
    have hb3:=hs.sz.at hlt
    generalize aK (s.take z) r = Tr at *
    generalize b6 (s.take z) = T at *
    have HJ:(iI T)[0 + r * 1]? = some (.per (jH Tr)):=by
     rw [Nat.zero_add,Nat.mul_one,List.getElem?_map,hg];rfl
    have HB:Nat.ble (0 + r * 1 + 1) (iI T).length = true:=Nat.ble_eq_true_of_le (by simp;omega)
    have hTr:Tr.length ≤ 1000000000:=by omega
    have c2:=nF Tr (by omega)
    have HF:∀ (F:Cnt → Cnt) (c:Cnt),(∀ A,F (.per A) = .per A) → F c = .per (cD 2 (Tr.map rnP ++ s[z].runs.map rnP)) → (iM (iI T) (0 + r * 1) [c]).map F = iI (T.set r (Tr ++ s[z].runs)):=fun F c h1 h2=>by
     rw [Nat.zero_add,Nat.mul_one,x7 _ _ _ (by simp;omega),List.map_set,h2,← List.map_append]
     have e:(iI T).map F = iI T:=by
      unfold iI
      rw [List.map_map]
      exact List.map_congr_left fun x _=>h1 _
     rw [e]
     unfold iI
     rw [List.map_set]
    clear hs htot hg
    (refine bi hq c1 c2 ?_;repeat' first|apply ai|refine aj fun hc=>?_|((first|apply aO rfl|apply aP rfl|apply aQ rfl|apply aR rfl);(focus ((try (apply b8;(focus rfl);apply ah rfl rfl rfl rfl rfl));first|((apply bn 5;(focus rfl);exact mH ⟨rfl,rfl,rfl⟩ rfl inferInstance rfl rfl rfl HJ))|((apply bn 6;(focus rfl);exact jV (c:=.row _ _) ⟨rfl,rfl⟩ rfl inferInstance rfl rfl rfl HB rfl (by first|exact dI (by first|exact cn rfl rfl|exact cE|exact dB)|exact dJ rfl|exact dK rfl rfl|exact dL rfl rfl|exact dg|exact dh|exact di)))));refine bi hq c1 c2 ?_))
    refine ⟨z + 1,by omega,by omega,ay (je 23 _ 147 2 rfl rfl) ?_⟩
    (refine og ?_ ?_;(focus ((repeat (first|exact iO.nil|(refine iO.cons ?_ ?_;rotate_left)));(all_goals try (first|rfl|(refine KO ?_;first|omega|(simp;done)|(simp;omega))|(refine vz ?_;first|(simp;done)|(simp [*];done))))));(focus ((repeat (first|exact iP.nil|(refine iP.cons ?_ ?_;rotate_left)));(all_goals try (first|rfl|(refine vA ?_;(rw [List.map_append] <;> rfl);done)|(refine oq ?_;(rw [List.map_append] <;> rfl);done))))))
    rw [hin]
    show Blk.box _ (List.map _ (List.map _ _)) = _
    rw [List.map_map]
    exact congrArg (Blk.box _) (HF _ _ (fun _=>rfl) rfl)
   ·rw [decide_eq_false hr] at c1
    have hout:=Ef (s.take z) s[z] hr
    rw [← hsn] at hout
    clear hs htot hsn hr
    (refine az c1 ?_;repeat' first|apply ai|refine aj fun hc=>?_)
    refine ⟨z + 1,by omega,by omega,?_⟩
    (refine og ?_ ?_;(focus ((repeat (first|exact iO.nil|(refine iO.cons ?_ ?_;rotate_left)));(all_goals try (first|rfl|(refine KO ?_;first|omega|(simp;done)|(simp;omega))|(refine vz ?_;first|(simp;done)|(simp [*];done))))));(focus ((repeat (first|exact iP.nil|(refine iP.cons ?_ ?_;rotate_left)));(all_goals try (first|rfl|(refine vA ?_;(rw [List.map_append] <;> rfl);done)|(refine oq ?_;(rw [List.map_append] <;> rfl);done))))))
    rw [hout];rfl
  ·have e:s.take z = s:=List.take_of_length_le (by omega)
   rw [e]
   have hT:=bG s
   generalize b6 s = T at *
   have HP:=pH hT
   have HB:=sf hT
   clear hs htot
   (refine w0 ?_;repeat' first|apply ai|refine aj fun hc=>?_|((first|apply aO rfl|apply aP rfl|apply aQ rfl|apply aR rfl);(focus ((try (apply b8;(focus rfl);apply ah rfl rfl rfl rfl rfl));first|((apply bn 5;(focus rfl);exact kq ⟨rfl,rfl,rfl⟩ rfl inferInstance inferInstance rfl rfl rfl rfl HB HP))|((apply bn 6;(focus rfl);exact oh ⟨rfl,rfl⟩ rfl inferInstance rfl rfl rfl rfl rfl rfl (by simp [hT])))));refine w0 ?_))
   refine aU ?_
   have e2:iM (List.replicate 16 (Cnt.per (av (.slice none 0 0)))) 0 ((T.map jH).map .per) = (T.map jH).map .per:=uE (by simp [hT])
   exact bL inferInstance inferInstance rfl rfl rfl rfl (by rw [e2];simp [hT]) (by rw [e2,se];exact yv T)
theorem CC (cOf:List Rn → List Rn) (T:List (List Rn)) (hT:T.length = 16) (hOf:∀ l ∈ T,Fn Tryz.prog 206 [fd l] (.own 147 2 ((cOf l).map rnP))) :
 Fn Tryz.prog 204 [.per (NK T)] (.own 95 2 ((bj cOf 0 T).map CA)):=by
 have HP:=pH hT
 have HB:=sf hT
 have HE:=se T
 refine fi Tryz.func204 Tryz.ntmps204 ?_
 have hstep:∀ z (h:z < T.length),bj cOf z (T.drop z) = (if (cOf T[z]).length = 0 then [] else [⟨(z:Int) + 1,cOf T[z]⟩]) ++ bj cOf (z + 1) (T.drop (z + 1)):=fun z h=>by
  rw [List.drop_eq_getElem_cons h];rfl
 (refine w0 ?_;repeat' first|apply ai|refine aj fun hc=>?_|((first|apply aO rfl|apply aP rfl|apply aQ rfl|apply aR rfl);(focus ((try (apply b8;(focus rfl);apply ah rfl rfl rfl rfl rfl));first|((apply bn 5;(focus rfl);exact kq ⟨rfl,rfl,rfl⟩ rfl inferInstance inferInstance rfl rfl rfl rfl (HE ▸ HB) (HE ▸ HP)))));refine w0 ?_))
 refine bZ (b7 3 600 95 2 rfl rfl) ?_
 generalize hQ:bj cOf 0 T = Q
 refine an (X:=Nat × List Kn) (fun z=>z.1 ≤ 16 ∧ z.2.length ≤ z.1 ∧ z.2 ++ bj cOf z.1 (T.drop z.1) = Q)
  (fun z=>ba [(3,.row 600 0),(6,.per (NK T)),(7,iC .i64 (z.1:Nat))] [(600,.row 95 2 (z.2.map CA))]) (fun z=>16 - z.1) (0,[]) ⟨Nat.zero_le _,Nat.le_refl _,by simpa using hQ⟩ ?_ ?_
 ·exact ae
 ·rintro ⟨z,acc⟩ ⟨h1,h2,h3⟩
  simp only at h1 h2 h3 ⊢
  by_cases hz:z < 16
  ·have hzT:z < T.length:=by omega
   have c1:=(hOf T[z] (List.getElem_mem hzT)).frz
   rw [hstep z hzT] at h3
   have HJ:(T.map jH)[z]? = some (jH T[z]):=by rw [List.getElem?_map,List.getElem?_eq_getElem hzT];rfl
   generalize cOf T[z] = L at *
   clear hOf hstep HP HB HE
   by_cases hL:L.length = 0
   ·rw [if_pos hL,List.nil_append] at h3
    (refine az c1 ?_;repeat' first|apply ai|refine aj fun hc=>?_|((first|apply aO rfl|apply aP rfl|apply aQ rfl|apply aR rfl);(focus ((try (apply b8;(focus rfl);apply ah rfl rfl rfl rfl rfl));first|((apply bn 13;(focus rfl);exact xZ ⟨rfl,rfl,rfl⟩ rfl inferInstance inferInstance inferInstance rfl rfl rfl (by omega) HJ))));refine az c1 ?_))
    refine ⟨(z + 1,acc),⟨by simp only;omega,by simp only;omega,h3⟩,by simp only;omega,?_⟩
    exact ae
   ·rw [if_neg hL] at h3
    (refine az c1 ?_;repeat' first|apply ai|refine aj fun hc=>?_|((first|apply aO rfl|apply aP rfl|apply aQ rfl|apply aR rfl);(focus ((try (apply b8;(focus rfl);apply ah rfl rfl rfl rfl rfl));first|((apply bn 13;(focus rfl);exact xZ ⟨rfl,rfl,rfl⟩ rfl inferInstance inferInstance inferInstance rfl rfl rfl (by omega) HJ))));refine az c1 ?_))
    refine ⟨(z + 1,acc ++ [⟨(z:Int) + 1,L⟩]),⟨by simp only;omega,by simp;omega,by simp only;rw [List.append_assoc];exact h3⟩,by simp only;omega,?_⟩
    exact ae
  ·have h3':acc = Q:=by rw [← h3,List.drop_of_length_le (by omega)];simp [bj]
   clear hOf hstep HP HB HE h3
   (refine w0 ?_;repeat' first|apply ai|refine aj fun hc=>?_)
   refine aU ?_
   exact fN rfl rfl rfl h3'
theorem M3 (cOf:List Rn → List Rn) (s:List Kn) (hs:cR s) (hOf:∀ l ∈ b6 s,Fn Tryz.prog 206 [fd l] (.own 147 2 ((cOf l).map rnP))) :
 Fn Tryz.prog 169 [eM s] (.own 95 2 ((ff cOf s).map CA)):=by
 have h1:=vT s hs
 have h2:=CC cOf (b6 s) (bG s) hOf
 refine fi Tryz.func169 Tryz.ntmps169 ?_
 (refine aL h1 h2 ?_;repeat' first|apply ai|refine aj fun hc=>?_)
 refine aU ?_
 exact cI rfl rfl rfl
theorem Hx (x y:Kn) (hx:x.runs.length ≤ 1000000000):de Tryz.prog 170 [Qt x,Qt y] [] (bC (decide (x = y))) []:=by
 have h1:=AZ x.runs y.runs hx
 have hE:x = y ↔ x.rep = y.rep ∧ x.runs = y.runs:=by cases x;cases y;simp
 obtain ⟨r,l⟩:=x
 obtain ⟨r',l'⟩:=y
 simp only at h1 hE hx
 show de Tryz.prog _ [.per (bX [av (.int .i64 r),jH l]),.per (bX [av (.int .i64 r'),jH l'])] [] _ []
 by_cases e1:r = r'
 ·by_cases e2:l = l'
  ·rw [decide_eq_true (hE.2 ⟨e1,e2⟩)]
   rw [decide_eq_true e2] at h1
   clear hE e2
   refine eR Tryz.func170 Tryz.ntmps170 ?_
   (refine az h1 ?_;repeat' first|apply ai|refine aj fun hc=>?_)
   (refine ⟨(by first|exact .inl rfl|exact .inr rfl),cc [] rfl rfl .nil ?_⟩)
   exact b0 rfl (by first|rfl|(simp [e1];done))
  ·rw [decide_eq_false (fun h=>e2 (hE.1 h).2)]
   rw [decide_eq_false e2] at h1
   clear hE e2
   refine eR Tryz.func170 Tryz.ntmps170 ?_
   (refine az h1 ?_;repeat' first|apply ai|refine aj fun hc=>?_)
   (refine ⟨(by first|exact .inl rfl|exact .inr rfl),cc [] rfl rfl .nil ?_⟩)
   exact b0 rfl (by first|rfl|(simp [e1];done))
 ·rw [decide_eq_false (fun h=>e1 (hE.1 h).1)]
  clear hE
  refine eR Tryz.func170 Tryz.ntmps170 ?_
  (refine az h1 ?_;repeat' first|apply ai|refine aj fun hc=>?_)
  (refine ⟨(by first|exact .inl rfl|exact .inr rfl),cc [] rfl rfl .nil ?_⟩)
  exact b0 rfl (by first|rfl|(simp [e1];done))
abbrev O8:Cnt:=.per (av (.func (.func 170) #[] #[]))
theorem sh (l m:List Kn) (hl:jX l):Fn Tryz.prog 168 [eM l,eM m,O8] (cw (decide (l = m))):=by
 have hl0:=hl.1
 refine fi Tryz.func168 Tryz.ntmps168 ?_
 (refine w0 ?_;repeat' first|apply ai|refine aj fun hc=>?_)
 ·refine aU ?_
  exact af rfl (by symm;rw [decide_eq_false_iff_not];intro h;subst h;omega)
 have hlm:l.length = m.length:=by omega
 refine an (fun k=>k ≤ l.length ∧ l.take k = m.take k) (fun k=>ba [(1,eM m),(2,O8),(15,eM l),(16,iC .i64 (l.length:Nat)),(17,iC .i64 (k:Nat))] []) (fun k=>l.length - k) 0 ⟨Nat.zero_le _,rfl⟩ ?_ ?_
 ·exact ae
 ·rintro k ⟨hk,hpre⟩
  by_cases hlt:k < l.length
  ·have hltm:k < m.length:=by omega
   have c1:=Hx l[k] m[k] (hl.at hlt)
   by_cases he:l[k] = m[k]
   ·rw [decide_eq_true he] at c1
    (refine w0 ?_;repeat' first|apply ai|refine aj fun hc=>?_|((first|apply aO rfl|apply aP rfl|apply aQ rfl|apply aR rfl);(focus ((try (apply b8;(focus rfl);apply ah rfl rfl rfl rfl rfl));first|(exact Lm [] c1)));refine w0 ?_))
    refine ⟨k + 1,⟨by omega,?_⟩,by omega,?_⟩
    ·rw [aJ l k hlt,aJ m k hltm,hpre,he]
    ·exact ae
   ·rw [decide_eq_false he] at c1
    have hd:¬ l = m:=fun h=>he (by subst h;rfl)
    rw [decide_eq_false hd]
    clear hd he
    (refine w0 ?_;repeat' first|apply ai|refine aj fun hc=>?_|((first|apply aO rfl|apply aP rfl|apply aQ rfl|apply aR rfl);(focus ((try (apply b8;(focus rfl);apply ah rfl rfl rfl rfl rfl));first|(exact Lm [] c1)));refine w0 ?_))
    refine aU ?_
    exact af rfl rfl
  ·rw [List.take_of_length_le (by omega),List.take_of_length_le (by omega)] at hpre
   rw [decide_eq_true hpre]
   clear hpre
   (refine w0 ?_;repeat' first|apply ai|refine aj fun hc=>?_)
   refine aU ?_
   exact af rfl rfl
theorem CD (a b A B:List Kn) (hA:Fn Tryz.prog 169 [eM a] (.own 95 2 (A.map CA))) (hB:Fn Tryz.prog 169 [eM b] (.own 95 2 (B.map CA))) (hsz:jX A) :
 Fn Tryz.prog 123 [eM a,eM b] (cw (decide (A = B))):=by
 have h1:=sh A B hsz
 refine fi Tryz.func123 Tryz.ntmps123 ?_
 (refine lN h1 hA hB ?_;repeat' first|apply ai|refine aj fun hc=>?_)
 refine aU ?_
 exact af rfl rfl
end
theorem gY {α:Type} (A:List α) (x y:α) (T:List α) (j:Nat) (hj:j = A.length):(A ++ x :: T).set j y = A ++ y :: T:=by
 subst hj;simp
theorem CE {α:Type} (l:List α):l = [] ∨ ∃ (l':List α) (y:α),l = l' ++ [y]:=by
 rcases List.eq_nil_or_concat l with h|⟨a,y,h⟩
 ·exact .inl h
 ·exact .inr ⟨a,y,by rw [h];simp⟩
theorem fD {α β:Type} (f:α → β) (l:List α) (j:Nat) (y:α):(l.map f).set j (f y) = (l.set j y).map f:=by rw [List.map_set]
section
variable {P:Program} {n t:Nat} {ops:Array Oper} {o:Oper} {S:St}
theorem mV {ty ty':TypeId} {x y:Operand} {k:IntKind} {u v z:Int} (hp:Pl n o t) (ho:o.op = .call { callee:=.builtin .max,args:=#[x,y],argTypes:=#[ty,ty'] }) (hx:S.opd x = iC k u) (hy:S.opd y = iC k v) (hz:(if v > u then v else u) = z):aw n P ops o (aA x ++ aA y) (iC k z) [] S:=
 hz ▸ GH hp ho hx hy
end
abbrev yw (l:List Rn):Ret:=.own 147 2 (l.map rnP)
abbrev Hy (l:List Rn):Blk:=.row 147 2 (l.map rnP)
section
theorem vU (l:List Rn) (hl:l.length ≤ 1000000000):Fn Tryz.prog 206 [fd l] (yw (ofR l)):=by
 by_cases hok:cu l
 ·rw [AQ hok]
  exact uF l hl hok
 have h0:=pG l hl false (by simp [hok])
 generalize hT:l.filter gM = T at *
 have hTr:∀ x ∈ T,gM x = true:=fun x hx=>by rw [← hT] at hx;exact (List.mem_filter.1 hx).2
 have hTl:T.length ≤ 1000000000:=by rw [← hT];exact Nat.le_trans (List.length_filter_le _ _) hl
 have hs:=Hu T hTr hTl
 obtain ⟨hp,hsr⟩:=yt hTr
 have hR:=AR (l:=l) hsr (fun r=>by rw [hp.mem_iff,hT])
 have hQr:∀ x ∈ kJ T,gM x = true:=fun x hx=>hTr x (hp.mem_iff.1 hx)
 have hQl:(kJ T).length = T.length:=hp.length_eq
 rw [← hR]
 generalize kJ T = Q at *
 generalize hRR:jI Q = R
 clear hR hp hsr hok
 refine fi Tryz.func206 Tryz.ntmps206 ?_
 (refine az h0 ?_;repeat' first|apply ai|refine aj fun hc=>?_)
 refine bZ (b7 3 600 147 2 rfl rfl) ?_
 refine an (X:=Nat × List Rn) (fun x=>x.1 ≤ l.length ∧ x.2 ++ (l.drop x.1).filter gM = T)
  (fun x=>ba [(3,.row 600 0),(14,fd l),(15,iC .i64 (l.length:Nat)),(16,iC .i64 (x.1:Nat))] [(600,Hy x.2)]) (fun x=>l.length - x.1) (0,[]) ⟨Nat.zero_le _,by simp [hT]⟩ ?_ ?_
 ·exact ae
 ·rintro ⟨k,ac⟩ ⟨g1,g2⟩
  simp only at g1 g2 ⊢
  by_cases hk:k < l.length
  ·have hir:=vR l[k]
   have hlen:ac.length ≤ 1000000000:=by
    have:=congrArg List.length g2
    simp only [List.length_append] at this;omega
   rw [List.drop_eq_getElem_cons hk,List.filter_cons] at g2
   cases hr:gM l[k] with
   | false=>
    rw [hr] at hir g2
    clear hTr hQr hs
    (refine az hir ?_;repeat' first|apply ai|refine aj fun hc=>?_)
    refine ⟨(k + 1,ac),⟨by simp only;omega,by simpa using g2⟩,by simp only;omega,?_⟩
    exact ae
   | true=>
    rw [hr] at hir g2
    clear hTr hQr hs
    (refine az hir ?_;repeat' first|apply ai|refine aj fun hc=>?_)
    refine ⟨(k + 1,ac ++ [l[k]]),⟨by simp only;omega,by simpa using g2⟩,by simp only;omega,ay (aN 600 601) (ay (aN 601 600) ?_)⟩
    exact ae
  ·have hkl:k = l.length:=by omega
   subst hkl
   rw [List.drop_length] at g2
   simp at g2
   subst g2
   (refine fB (gj [(1000,600)] hs) ?_;repeat' first|apply ai|refine aj fun hc=>?_)
   clear hs hTr hT
   refine bZ (b7 6 700 147 2 rfl rfl) ?_
   refine an (X:=Nat × List Rn) (fun x=>x.1 ≤ Q.length ∧ x.2.length ≤ x.1 ∧ ((x.2 = [] ∧ x.1 = 0) ∨ ∃ o y,x.2 = o ++ [y] ∧ gM y = true ∧ o ++ yn y (Q.drop x.1) = R))
    (fun x=>ba [(6,.row 700 0),(29,.row 600 0),(30,iC .i64 (Q.length:Nat)),(31,iC .i64 (x.1:Nat))] [(600,Hy Q),(700,Hy x.2)]) (fun x=>Q.length - x.1) (0,[]) ⟨Nat.zero_le _,Nat.le_refl _,.inl ⟨rfl,rfl⟩⟩ ?_ ?_
   ·exact ae
   ·rintro ⟨k,out⟩ ⟨g1,g0,g2⟩
    simp only at g1 g0 g2 ⊢
    by_cases hk:k < Q.length
    ·have hxr:=hQr _ (List.getElem_mem hk)
     have hdr:=List.drop_eq_getElem_cons hk
     generalize hx:Q[k] = x at *
     have HQ:(Q.map rnP)[k]? = some (rnP x):=by rw [List.getElem?_map,List.getElem?_eq_getElem hk,hx];rfl
     have hxi:=(bK x).1 hxr
     clear hQr
     rcases g2 with ⟨rfl,rfl⟩|⟨o,y,rfl,hyr,g2⟩
     ·have g4:[] ++ yn x (Q.drop 1) = R:=by
       rw [List.drop_zero] at hdr
       rw [← hRR,hdr];rfl
      (refine w0 ?_;repeat' first|apply ai|refine aj fun hc=>?_|((first|apply aO rfl|apply aP rfl|apply aQ rfl|apply aR rfl);(focus ((try (apply b8;(focus rfl);apply ah rfl rfl rfl rfl rfl));first|((apply bn 5;(focus rfl);exact aB ⟨rfl,rfl,rfl⟩ rfl inferInstance inferInstance rfl rfl rfl HQ rfl rfl rfl))));refine w0 ?_))
      refine ⟨(1,[x]),⟨by simp only;omega,Nat.le_refl _,.inr ⟨[],x,rfl,hxr,g4⟩⟩,by simp only;omega,ay (aN 700 701) (ay (aN 701 700) ?_)⟩
      exact ae
     ·have hyi:=(bK y).1 hyr
      rw [hdr,yn] at g2
      have hL1:(o ++ [y]).length = o.length + 1:=by simp
      have hM:(if x.to > y.to then x.to else y.to) = max y.to x.to:=by omega
      have hmr:gM ⟨y.fr,max y.to x.to⟩ = true:=(bK _).2 (by simp only;omega)
      generalize max y.to x.to = M at *
      generalize hL:o ++ [y] = L at *
      have hLi:((L.length:Int) - 1).toNat = o.length:=by omega
      have HY:(L.map rnP)[((L.length:Int) - 1).toNat]? = some (rnP y):=by
       rw [List.getElem?_map,hLi,← hL]
       simp
      have HS1:(L.map rnP).set ((L.length:Int) - 1).toNat (cG (rnP y) 1 [av (.int .i64 M)]) = (o ++ [(⟨y.fr,M⟩:Rn)]).map rnP:=by
       rw [show (L.map rnP).set ((L.length:Int) - 1).toNat (cG (rnP y) 1 [av (.int .i64 M)]) = (L.set ((L.length:Int) - 1).toNat ⟨y.fr,M⟩).map rnP from fD rnP L _ (⟨y.fr,M⟩:Rn),← hL,gY o y _ [] _ (by rw [hL];omega)]
      have hML:(o ++ [(⟨y.fr,M⟩:Rn)]).length = L.length:=by rw [← hL];simp
      by_cases c:x.fr - y.to < 2
      ·rw [if_pos c] at g2
       (repeat' (first|refine fS ?_|refine dx ?_|refine ei ?_|refine ej ?_|refine fT ?_|refine cO ?_|refine e9 gK ?_|refine fQ ?_|refine fR (by kernel_rfl) ?_|(refine nf rfl rfl ⟨fun hc=>?_,fun hc=>?_⟩ <;> (repeat rw [List.length_map] at hc) <;> (try exact gg hc))|((first|apply aO rfl|apply aP rfl|apply aQ rfl|apply aR rfl);focus (first|((apply bn 19;(focus rfl);exact mV ⟨rfl,rfl,rfl⟩ rfl rfl rfl hM))|(apply b8;(focus rfl);apply ah rfl rfl rfl rfl rfl;((apply bn 19;(focus rfl);exact mV ⟨rfl,rfl,rfl⟩ rfl rfl rfl hM)))|exact iH|((apply bn 5;(focus rfl);first|exact bm ⟨rfl,rfl,rfl⟩ rfl inferInstance rfl rfl rfl HY rfl|exact aB ⟨rfl,rfl,rfl⟩ rfl inferInstance inferInstance rfl rfl rfl HQ rfl rfl rfl))|(apply b8;(focus rfl);apply ah rfl rfl rfl rfl rfl;((apply bn 5;(focus rfl);first|exact bm ⟨rfl,rfl,rfl⟩ rfl inferInstance rfl rfl rfl HY rfl|exact aB ⟨rfl,rfl,rfl⟩ rfl inferInstance inferInstance rfl rfl rfl HQ rfl rfl rfl)))|((apply bn 6;(focus rfl);exact aX ⟨rfl,rfl⟩ rfl inferInstance rfl rfl rfl rfl HY rfl (bx rfl rfl rfl) rfl HS1))|(apply b8;(focus rfl);apply ah rfl rfl rfl rfl rfl;((apply bn 6;(focus rfl);exact aX ⟨rfl,rfl⟩ rfl inferInstance rfl rfl rfl rfl HY rfl (bx rfl rfl rfl) rfl HS1)))|fail))|refine ep ?_|refine eu ?_|refine ev ?_|refine jb ?_|refine jc ?_|refine ew ?_|refine dy rfl ?_|((first|refine ng rfl rfl rfl ⟨fun hc=>?_,fun hc=>?_⟩|refine nh rfl rfl rfl ⟨fun hc=>?_,fun hc=>?_⟩) <;> (fail_if_success (have q:(true = true):=hc)) <;> (fail_if_success (have q:(false = false):=hc)) <;> (repeat rw [List.length_map] at hc) <;> (try exact gg hc))|refine cX rfl rfl (fun hc=>?_) ?_))
       refine ⟨(k + 1,_),⟨by simp only;omega,by simp only;omega,.inr ⟨o,_,rfl,hmr,g2⟩⟩,by simp only;omega,?_⟩
       exact ae
      ·rw [if_neg c] at g2
       (refine w0 ?_;repeat' first|apply ai|refine aj fun hc=>?_|((first|apply aO rfl|apply aP rfl|apply aQ rfl|apply aR rfl);(focus ((try (apply b8;(focus rfl);apply ah rfl rfl rfl rfl rfl));first|((apply bn 5;(focus rfl);first|exact bm ⟨rfl,rfl,rfl⟩ rfl inferInstance rfl rfl rfl HY rfl|exact aB ⟨rfl,rfl,rfl⟩ rfl inferInstance inferInstance rfl rfl rfl HQ rfl rfl rfl))));refine w0 ?_))
       refine ⟨(k + 1,L ++ [x]),⟨by simp only;omega,by simp;omega,.inr ⟨L,x,rfl,hxr,by simp only;rw [← hL,List.append_assoc];exact g2⟩⟩,by simp only;omega,ay (aN 700 701) (ay (aN 701 700) ?_)⟩
       exact ae
    ·have hkl:k = Q.length:=by omega
     subst hkl
     have g3:out = R:=by
      rcases g2 with ⟨a,b⟩|⟨o,y,a,_,b⟩
      ·rw [a,← hRR,List.eq_nil_of_length_eq_zero b];rfl
      ·rw [List.drop_length] at b
       rw [a,← b];rfl
     clear g2 hRR hQr
     (refine w0 ?_;repeat' first|apply ai|refine aj fun hc=>?_)
     refine aU ?_
     exact fN rfl rfl rfl g3
end
end Go.Proofs.YtliiahjpiagdkaaGreat
namespace Go.Proofs.YtliiahjpiagdkaaGreat
def cH (l:List Rn) (n:Int):Bool:=l.any fun r=>gM r && (decide (r.fr ≤ n) && decide (n ≤ r.to))
theorem eI (l:List Rn) (n:Int):cH l n = true ↔ eF l n:=by
 unfold cH eF
 rw [List.any_eq_true]
 simp
def gz:List Int → Int → List Int
 | [],n=>[n]
 | x :: l,n=>if x < n then x :: gz l n else if x = n then x :: l else n :: x :: l
theorem si:∀ (l:List Int) (n m:Int),m ∈ gz l n ↔ m = n ∨ m ∈ l:=by
 intro l
 induction l with
 | nil=>intro n m;simp [gz]
 | cons x l ih=>
  intro n m
  rw [gz]
  split
  ·simp only [List.mem_cons,ih]
   constructor
   ·rintro (h|h|h) <;> simp [h]
   ·rintro (h|h|h) <;> simp [h]
  ·split
   ·rename_i e
    subst e
    simp
   ·simp
abbrev Hz (l:List Int):Prop:=l.Pairwise (· < ·)
theorem CF:∀ (l:List Int) (n:Int),Hz l → Hz (gz l n):=by
 intro l
 induction l with
 | nil=>intro n _;simp [gz]
 | cons x l ih=>
  intro n h
  obtain ⟨h1,h2⟩:=List.pairwise_cons.1 h
  rw [gz]
  split
  ·rename_i c
   refine List.pairwise_cons.2 ⟨fun z hz=>?_,ih n h2⟩
   rcases (si _ _ _).1 hz with rfl|hz
   ·exact c
   ·exact h1 z hz
  ·split
   ·exact h
   ·refine List.pairwise_cons.2 ⟨fun z hz=>?_,h⟩
    rcases List.mem_cons.1 hz with rfl|hz
    ·omega
    ·have:=h1 z hz;omega
def oL (e:List Int) (r:Rn):List Int:=if gM r then gz (gz e r.fr) (r.to + 1) else e
def ez (e:List Int) (l:List Rn):List Int:=l.foldl oL e
theorem Lx {e:List Int} {r:Rn} (h:Hz e):Hz (oL e r):=by
 unfold oL;split
 ·exact CF _ _ (CF _ _ h)
 ·exact h
theorem qY:∀ (l:List Rn) (e:List Int),Hz e → Hz (ez e l):=by
 intro l
 induction l with
 | nil=>intro e h;exact h
 | cons r l ih=>intro e h;exact ih _ (Lx h)
theorem yx:∀ (l:List Rn) (e:List Int) (m:Int),m ∈ ez e l ↔ m ∈ e ∨ ∃ r ∈ l,gM r = true ∧ (m = r.fr ∨ m = r.to + 1):=by
 intro l
 induction l with
 | nil=>intro e m;simp [ez]
 | cons r l ih=>
  intro e m
  show m ∈ ez (oL e r) l ↔ _
  rw [ih]
  unfold oL
  by_cases c:gM r = true
  ·rw [if_pos c,si,si]
   constructor
   ·rintro ((h|h|h)|⟨x,hx,h⟩)
    ·exact .inr ⟨r,by simp,c,.inr h⟩
    ·exact .inr ⟨r,by simp,c,.inl h⟩
    ·exact .inl h
    ·exact .inr ⟨x,by simp [hx],h⟩
   ·rintro (h|⟨x,hx,h⟩)
    ·exact .inl (.inr (.inr h))
    ·rcases List.mem_cons.1 hx with rfl|hx
     ·rcases h.2 with h|h
      ·exact .inl (.inr (.inl h))
      ·exact .inl (.inl h)
     ·exact .inr ⟨x,hx,h⟩
  ·rw [if_neg c]
   constructor
   ·rintro (h|⟨x,hx,h⟩)
    ·exact .inl h
    ·exact .inr ⟨x,by simp [hx],h⟩
   ·rintro (h|⟨x,hx,h⟩)
    ·exact .inl h
    ·rcases List.mem_cons.1 hx with rfl|hx
     ·exact absurd h.1 c
     ·exact .inr ⟨x,hx,h⟩
theorem oM:∀ (l:List Rn) (e:List Int),(ez e l).length ≤ e.length + 2 * l.length:=by
 have h1:∀ (l:List Int) (n:Int),(gz l n).length ≤ l.length + 1:=by
  intro l
  induction l with
  | nil=>intro n;simp [gz]
  | cons x l ih=>
   intro n
   rw [gz]
   split
   ·have:=ih n;simp;omega
   ·split <;> simp
 intro l
 induction l with
 | nil=>intro e;simp [ez]
 | cons r l ih=>
  intro e
  show (ez (oL e r) l).length ≤ _
  have h2:=ih (oL e r)
  have h3:(oL e r).length ≤ e.length + 2:=by
   unfold oL
   split
   ·have a:=h1 (gz e r.fr) (r.to + 1)
    have b:=h1 e r.fr
    omega
   ·omega
  rw [List.length_cons];omega
def iu (f:Int → Bool):List Int → List Rn
 | e :: e' :: E=>(if f e then [⟨e,e' - 1⟩] else []) ++ iu f (e' :: E)
 | _=>[]
theorem oO (f:Int → Bool):∀ (E:List Int) (e:Int),Hz (e :: E) → (∀ m ∈ e :: E,1 ≤ m ∧ m ≤ 1099511627777) → ∀ r ∈ iu f (e :: E),gM r = true ∧ e ≤ r.fr:=by
 intro E
 induction E with
 | nil=>intro e _ _ r hr;simp [iu] at hr
 | cons e' E ih=>
  intro e h hm r hr
  obtain ⟨h1,h2⟩:=List.pairwise_cons.1 h
  have h3:=h1 e' (by simp)
  rw [iu,List.mem_append] at hr
  rcases hr with hr|hr
  ·split at hr
   ·have hr:r = ⟨e,e' - 1⟩:=by simpa using hr
    subst hr
    have a:=hm e (by simp)
    have b:=hm e' (by simp)
    exact ⟨(bK _).2 (by simp only;omega),Int.le_refl _⟩
   ·simp at hr
  ·have:=ih e' h2 (fun m hm'=>hm m (by simp at hm' ⊢;exact .inr hm')) r hr
   exact ⟨this.1,by omega⟩
theorem HC (f:Int → Bool):∀ (E:List Int),Hz E → (∀ m ∈ E,1 ≤ m ∧ m ≤ 1099511627777) → tR (iu f E):=by
 intro E
 induction E with
 | nil=>intro _ _;exact List.Pairwise.nil
 | cons e E ih=>
  intro h hm
  cases E with
  | nil=>exact List.Pairwise.nil
  | cons e' E=>
   obtain ⟨h1,h2⟩:=List.pairwise_cons.1 h
   have hm':∀ m ∈ e' :: E,1 ≤ m ∧ m ≤ 1099511627777:=fun m q=>hm m (by simp at q ⊢;exact .inr q)
   have h3:=ih h2 hm'
   rw [iu]
   split
   ·refine List.pairwise_cons.2 ⟨fun z hz=>?_,h3⟩
    have:=(oO f E e' h2 hm' z hz).2
    have:=h1 e' (by simp)
    simp only;omega
   ·exact h3
structure Qw (f:Int → Bool) (M:Int → Prop):Prop where
 mid:∀ e n,e ≤ n → (∀ m,M m → m ≤ e ∨ n < m) → f e = f n
 lo:∀ n,(∀ m,M m → n < m) → f n = false
 hi:∀ n,(∀ m,M m → m ≤ n) → f n = false
theorem HG {f:Int → Bool} {M:Int → Prop} (hf:Qw f M):∀ (E:List Int) (e:Int),Hz (e :: E) → (∀ m ∈ e :: E,1 ≤ m ∧ m ≤ 1099511627777) → (∀ m,M m → m ≤ e ∨ m ∈ E) → ∀ n,e ≤ n → (eF (iu f (e :: E)) n ↔ f n = true):=by
 intro E
 induction E with
 | nil=>
  intro e _ _ hM n hn
  have : f n = false := hf.hi n (fun m hm => by rcases hM m hm with h | h; · omega
                                                ·simp at h)
  rw [this]
  simp [iu,d0]
 | cons e' E ih=>
  intro e h hm hM n hn
  obtain ⟨h1,h2⟩:=List.pairwise_cons.1 h
  have h3:=h1 e' (by simp)
  have hm':∀ m ∈ e' :: E,1 ≤ m ∧ m ≤ 1099511627777:=fun m q=>hm m (by simp at q ⊢;exact .inr q)
  obtain ⟨h4,_⟩:=List.pairwise_cons.1 h2
  have a:=hm e (by simp)
  have b:=hm e' (by simp)
  rw [iu,ir]
  by_cases c:n < e'
  ·have hno:¬ eF (iu f (e' :: E)) n:=fun ⟨r,hr,_,q,_⟩=>by
    have:=(oO f E e' h2 hm' r hr).2
    omega
   have he:f e = f n:=hf.mid e n hn (fun m q=>by
    rcases hM m q with z|z
    ·exact .inl z
    ·rcases List.mem_cons.1 z with rfl|z
     ·exact .inr c
     ·have:=h4 m z
      exact .inr (by omega))
   rw [← he]
   constructor
   ·rintro (q|q)
    ·split at q
     ·assumption
     ·exact absurd q (d0 n)
    ·exact absurd q hno
   ·intro q
    rw [if_pos q]
    exact .inl ((bM _ _ _).2 (.inl ⟨(bK _).2 (by simp only;omega),hn,by simp only;omega⟩))
  ·rw [ih e' h2 hm' (fun m q=>by
    rcases hM m q with z|z
    ·exact .inl (by omega)
    ·rcases List.mem_cons.1 z with rfl|z
     ·exact .inl (Int.le_refl _)
     ·exact .inr z) n (by omega)]
   constructor
   ·rintro (q|q)
    ·split at q
     ·rcases (bM _ _ _).1 q with q|q
      ·simp only at q;omega
      ·exact absurd q (d0 n)
     ·exact absurd q (d0 n)
    ·exact q
   ·exact .inr
def Ly (f:Int → Bool) (a b:List Rn):List Rn:=jI (iu f (ez (ez [] a) b))
def tS (keep:Bool → Bool → Bool) (a b:List Rn) (n:Int):Bool:=keep (cH a n) (cH b n)
abbrev Lz (a b:List Rn) (m:Int):Prop:=m ∈ ez (ez [] a) b
theorem oP (a b:List Rn) (m:Int):Lz a b m ↔ (∃ r ∈ a,gM r = true ∧ (m = r.fr ∨ m = r.to + 1)) ∨ ∃ r ∈ b,gM r = true ∧ (m = r.fr ∨ m = r.to + 1):=by
 unfold Lz
 rw [yx,yx]
 simp
theorem uG {l:List Rn} {e n:Int} (hen:e ≤ n) (h:∀ r ∈ l,gM r = true → (r.fr ≤ e ∨ n < r.fr) ∧ (r.to + 1 ≤ e ∨ n < r.to + 1)):cH l e = cH l n:=by
 rw [Bool.eq_iff_iff,eI,eI]
 refine ⟨fun ⟨r,hr,c,q⟩=>?_,fun ⟨r,hr,c,q⟩=>?_⟩
 ·have:=h r hr c
  exact ⟨r,hr,c,by omega,by omega⟩
 ·have:=h r hr c
  exact ⟨r,hr,c,by omega,by omega⟩
theorem oQ {l:List Rn} {n:Int} (h:∀ r ∈ l,gM r = true → n < r.fr ∨ r.to + 1 ≤ n):cH l n = false:=by
 rw [← Bool.not_eq_true,eI]
 rintro ⟨r,hr,c,q⟩
 have:=h r hr c
 omega
theorem LA {keep:Bool → Bool → Bool} (hk:keep false false = false) (a b:List Rn):Qw (tS keep a b) (Lz a b):=by
 have inA:∀ r ∈ a,gM r = true → Lz a b r.fr ∧ Lz a b (r.to + 1):=fun r hr c=>⟨(oP _ _ _).2 (.inl ⟨r,hr,c,.inl rfl⟩),(oP _ _ _).2 (.inl ⟨r,hr,c,.inr rfl⟩)⟩
 have inB:∀ r ∈ b,gM r = true → Lz a b r.fr ∧ Lz a b (r.to + 1):=fun r hr c=>⟨(oP _ _ _).2 (.inr ⟨r,hr,c,.inl rfl⟩),(oP _ _ _).2 (.inr ⟨r,hr,c,.inr rfl⟩)⟩
 refine ⟨fun e n hen h=>?_,fun n h=>?_,fun n h=>?_⟩
 ·unfold tS
  rw [uG hen (fun r hr c=>⟨h _ (inA r hr c).1,h _ (inA r hr c).2⟩),uG hen (fun r hr c=>⟨h _ (inB r hr c).1,h _ (inB r hr c).2⟩)]
 ·unfold tS
  rw [oQ (fun r hr c=>.inl (h _ (inA r hr c).1)),oQ (fun r hr c=>.inl (h _ (inB r hr c).1)),hk]
 ·unfold tS
  rw [oQ (fun r hr c=>.inr (h _ (inA r hr c).2)),oQ (fun r hr c=>.inr (h _ (inB r hr c).2)),hk]
theorem CG {a b:List Rn} {m:Int} (h:Lz a b m):1 ≤ m ∧ m ≤ 1099511627777:=by
 rcases (oP _ _ _).1 h with ⟨r,_,c,q⟩|⟨r,_,c,q⟩ <;>
 ·have:=(bK r).1 c
  omega
theorem HU {keep:Bool → Bool → Bool} (hk:keep false false = false) (a b:List Rn):cu (Ly (tS keep a b) a b) ∧ ∀ n,eF (Ly (tS keep a b) a b) n ↔ tS keep a b n = true:=by
 have hc:=LA hk a b
 have hup:Hz (ez (ez [] a) b):=qY _ _ (qY _ _ List.Pairwise.nil)
 have hrg:∀ m ∈ ez (ez [] a) b,1 ≤ m ∧ m ≤ 1099511627777:=fun m hm=>CG hm
 unfold Ly
 unfold Lz at hc
 generalize tS keep a b = f at *
 generalize ez (ez [] a) b = E at *
 have hR:∀ r ∈ iu f E,gM r = true:=fun r hr=>by
  cases E with
  | nil=>simp [iu] at hr
  | cons e E=>exact (oO f E e hup hrg r hr).1
 have h1:=mU (HC f E hup hrg) hR
 refine ⟨h1.1,fun n=>?_⟩
 rw [h1.2 n]
 cases E with
 | nil=>
  rw [hc.lo n (fun m hm=>by simp at hm)]
  simp [iu,d0]
 | cons e E=>
  by_cases q:e ≤ n
  ·exact HG hc E e hup hrg (fun m hm=>by
    rcases List.mem_cons.1 hm with rfl|hm
    ·exact .inl (Int.le_refl _)
    ·exact .inr hm) n q
  ·rw [hc.lo n (fun m hm=>by
    rcases List.mem_cons.1 hm with rfl|hm
    ·omega
    ·have:=(List.pairwise_cons.1 hup).1 m hm;omega)]
   refine ⟨fun ⟨r,hr,_,z,_⟩=>?_,fun z=>by cases z⟩
   have:=(oO f E e hup hrg r hr).2
   omega
theorem HV {keep:Bool → Bool → Bool} (hk:keep false false = false) {a b m:List Rn} (h:cu m) (e:∀ n,eF m n ↔ tS keep a b n = true):Ly (tS keep a b) a b = m:=
 r0 (HU hk a b).1 h (fun n=>((HU hk a b).2 n).trans (e n).symm)
theorem NL (a b:List Rn):Ly (tS (fun x y=>x || y) a b) a b = ofR (a ++ b):=by
 refine HV rfl (nz _) (fun n=>?_)
 rw [gn,ir,tS,Bool.or_eq_true,eI,eI]
end Go.Proofs.YtliiahjpiagdkaaGreat
