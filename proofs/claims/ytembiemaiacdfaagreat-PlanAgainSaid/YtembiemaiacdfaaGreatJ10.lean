/- Texts joined: Cmp Rg Nd RgL. -/
import Derived.Test.YtembiemaiacdfaaGreatJ08
import Derived.Test.YtembiemaiacdfaaGreatJ09
import Derived.Test.YtembiemaiacdfaaGreatJ05
set_option maxRecDepth 10000
set_option maxHeartbeats 8000000
namespace Go.Proofs.YtembiemaiacdfaaGreat
open Go.RowKit
def cmpL:List UInt8 → List UInt8 → Int
 | [],[]=>0
 | [],_ :: _=>-1
 | _ :: _,[]=>1
 | x :: a,y :: b=>if x.toNat < y.toNat then -1 else if y.toNat < x.toNat then 1 else cmpL a b
def cmpB (s t:ByteArray):Int:=cmpL s.data.toList t.data.toList
theorem cmpL_step (a b:List UInt8) (k:Nat) (h1:k < a.length) (h2:k < b.length):cmpL (a.drop k) (b.drop k) = if a[k].toNat < b[k].toNat then -1 else if b[k].toNat < a[k].toNat then 1 else cmpL (a.drop (k + 1)) (b.drop (k + 1)):=by
 rw [List.drop_eq_getElem_cons h1,List.drop_eq_getElem_cons h2,cmpL]
theorem cmpL_end (a b:List UInt8) (k:Nat) (h:a.length ≤ k ∨ b.length ≤ k) (h1:k ≤ a.length) (h2:k ≤ b.length):cmpL (a.drop k) (b.drop k) = if a.length < b.length then -1 else if a.length > b.length then 1 else 0:=by
 by_cases e1:a.length ≤ k
 · rw [List.drop_eq_nil_of_le e1]
   by_cases e2:b.length ≤ k
   · rw [List.drop_eq_nil_of_le e2,cmpL,if_neg (by omega),if_neg (by omega)]
   · rw [List.drop_eq_getElem_cons (by omega:k < b.length),cmpL,if_pos (by omega)]
 · have e2:b.length ≤ k:=by omega
   rw [List.drop_eq_nil_of_le e2,List.drop_eq_getElem_cons (by omega:k < a.length),cmpL,if_neg (by omega),if_pos (by omega)]
def cmpV (r c r' c':Int):Int:=if r = r' ∧ c = c' then 0 else if r < r' ∨ r = r' ∧ c < c' then -1 else 1
def cmpI (x y:It):Int:=if x.rank > y.rank then 1 else if x.rank < y.rank then -1 else cmpV x.rep x.cnt y.rep y.cnt
def beats (x y:It):Bool:=decide (cmpI x y > 0)
section
theorem key_Cmp (s t:ByteArray) (hs:s.size ≤ 1000000000000):Fn Tryz.prog 120 [sC s,sC t] (inR (cmpB s t)):=by
 generalize hR:cmpB s t = R
 refine fi Tryz.func120 Tryz.ntmps120 ?_
 (refine w0 ?_;(repeat' first|refine W2.mk ?_ ?_|refine W1.mk fun hc=>?_))
 refine AW_loopP (fun k=>k ≤ s.size ∧ k ≤ t.size ∧ cmpL (s.data.toList.drop k) (t.data.toList.drop k) = R) (fun k=>mkSt [(0,sC s),(1,sC t),(10,iC .i64 (min (s.size:Int) (t.size:Int))),(11,iC .i64 (k:Nat))] []) (fun k=>s.size - k) 0 ⟨Nat.zero_le _,Nat.zero_le _,hR⟩ ?_ ?_
 · exact le_auto
 · rintro k ⟨h1,h2,h3⟩
   have hst:=cmpL_step s.data.toList t.data.toList k
   have hen:=cmpL_end s.data.toList t.data.toList k
   simp only [str_len] at hst hen
   rw [h3] at hst hen
   by_cases hk:k < s.size ∧ k < t.size
   · have hst:=hst hk.1 hk.2
     have hm:(k:Int) < min (s.size:Int) (t.size:Int):=by omega
     (refine w0 ?_;(repeat' first|refine W2.mk ?_ ?_|refine W1.mk fun hc=>?_))
     · rw [if_pos (by omega)] at hst
       refine rt1 ?_
       exact rv_int rfl hst.symm
     · rw [if_neg (by omega),if_pos (by omega)] at hst
       refine rt1 ?_
       exact rv_int rfl hst.symm
     · rw [if_neg (by omega),if_neg (by omega)] at hst
       refine ⟨k + 1,⟨by omega,by omega,hst.symm⟩,by omega,?_⟩
       exact le_auto
   · have hen:=hen (by omega) h1 h2
     have hm:¬ (k:Int) < min (s.size:Int) (t.size:Int):=by omega
     (refine w0 ?_;(repeat' first|refine W2.mk ?_ ?_|refine W1.mk fun hc=>?_))
     all_goals refine rt1 ?_
     · rw [if_pos (by omega)] at hen
       exact rv_int rfl hen.symm
     · rw [if_neg (by omega),if_pos (by omega)] at hen
       exact rv_int rfl hen.symm
     · rw [if_neg (by omega),if_neg (by omega)] at hen
       exact rv_int rfl hen.symm
theorem ref_Less (s t:ByteArray) (hs:s.size ≤ 1000000000000):Fn Tryz.prog 72 [sC s,sC t] (boR (decide (cmpB s t < 0))):=by
 generalize hR:cmpB s t = R
 refine fi Tryz.func72 Tryz.ntmps72 ?_
 (refine w0 ?_;(repeat' first|refine W2.mk ?_ ?_|refine W1.mk fun hc=>?_))
 refine AW_loopP (fun k=>k ≤ s.size ∧ k ≤ t.size ∧ cmpL (s.data.toList.drop k) (t.data.toList.drop k) = R) (fun k=>mkSt [(0,sC s),(1,sC t),(5,iC .i64 (k:Nat))] []) (fun k=>s.size - k) 0 ⟨Nat.zero_le _,Nat.zero_le _,hR⟩ ?_ ?_
 · exact le_auto
 · rintro k ⟨h1,h2,h3⟩
   have hst:=cmpL_step s.data.toList t.data.toList k
   have hen:=cmpL_end s.data.toList t.data.toList k
   simp only [str_len] at hst hen
   rw [h3] at hst hen
   by_cases hk:k < s.size ∧ k < t.size
   · have hst:=hst hk.1 hk.2
     (refine w0 ?_;(repeat' first|refine W2.mk ?_ ?_|refine W1.mk fun hc=>?_))
     · refine rt1 ?_
       refine rv_bool rfl ?_
       rw [hst]
       clear hst hen h3
       generalize (s.data.toList[k]'(by simpa using hk.1)).toNat = x at *
       generalize (t.data.toList[k]'(by simpa using hk.2)).toNat = y at *
       split
       · rw [decide_eq_true (by omega),decide_eq_true (by omega)]
       · rw [if_pos (by omega),decide_eq_false (by omega),decide_eq_false (by omega)]
     · rw [if_neg (by omega),if_neg (by omega)] at hst
       refine ⟨k + 1,⟨by omega,by omega,hst.symm⟩,by omega,?_⟩
       exact le_auto
   · have hen:=hen (by omega) h1 h2
     (refine w0 ?_;(repeat' first|refine W2.mk ?_ ?_|refine W1.mk fun hc=>?_))
     all_goals refine rt1 ?_
     all_goals refine rv_bool rfl ?_
     · rw [hen,if_neg (by omega)]
       split <;> simp
     · rw [hen]
       split
       · simp;omega
       · split <;> (simp;omega)
theorem eqO_ver (r c r' c':Int):eqO Tryz.prog 10000 59 [.int .i64 r,.int .i64 c] [.int .i64 r',.int .i64 c'] = some (decide (r = r') && (decide (c = c') && true)):=by kernel_rfl
theorem verG:Tryz.prog.eqGuardType Tryz.prog.depth 59 = false:=by kernel_rfl
theorem ver_Cmp (r c r' c':Int):Fn Tryz.prog 174 [vrC r c,vrC r' c'] (inR (cmpV r c r' c')):=by
 have hE:=eqO_ver r c r' c'
 refine fi Tryz.func174 Tryz.ntmps174 ?_
 (refine w0 ?_;(repeat' (first|refine W2.mk ?_ ?_|refine W1.mk fun hc=>?_|((first|apply AL_t rfl|apply AL_0 rfl|apply AD_t rfl|apply AD_0 rfl);(focus (first|(exact op_eqA (us:=[.int .i64 r,.int .i64 c]) (vs:=[.int .i64 r',.int .i64 c']) ⟨rfl,rfl,rfl⟩ rfl rfl rfl (by first|exact .inl ⟨rfl,rfl⟩|exact .inr ⟨rfl,rfl⟩) verG rfl hE)|(apply u_g;(focus rfl);apply op_gyes rfl rfl rfl rfl rfl;first|(exact op_eqA (us:=[.int .i64 r,.int .i64 c]) (vs:=[.int .i64 r',.int .i64 c']) ⟨rfl,rfl,rfl⟩ rfl rfl rfl (by first|exact .inl ⟨rfl,rfl⟩|exact .inr ⟨rfl,rfl⟩) verG rfl hE))));refine w0 ?_))))
 all_goals refine rt1 ?_
 all_goals refine rv_int rfl ?_
 all_goals unfold cmpV
 all_goals grind
theorem item_Cmp (x y:It):Fn Tryz.prog 128 [itC x,itC y] (inR (cmpI x y)):=by
 have h1:=ver_Cmp x.rep x.cnt y.rep y.cnt
 refine fi Tryz.func128 Tryz.ntmps128 ?_
 (have kc1:=h1;refine w0 ?_;(repeat' first|refine W2.mk ?_ ?_|refine W1.mk fun hc=>?_);all_goals clear kc1)
 all_goals refine rt1 ?_
 all_goals refine rv_int rfl ?_
 · unfold cmpI;rw [if_pos (by omega)]
 · unfold cmpI;rw [if_neg (by omega),if_pos (by omega)]
 · unfold cmpI;rw [if_neg (by omega),if_neg (by omega)]
theorem ref12_Less (r c r' c':Int):Fn Tryz.prog 162 [vrC r c,vrC r' c'] (boR (decide (r < r' ∨ r = r' ∧ c < c'))):=by
 refine fi Tryz.func162 Tryz.ntmps162 ?_
 (refine w0 ?_;(repeat' first|refine W2.mk ?_ ?_|refine W1.mk fun hc=>?_))
 all_goals refine rt1 ?_
 all_goals refine rv_bool rfl ?_
 all_goals grind
theorem ref_Beats (x y:It):Fn Tryz.prog 117 [itC x,itC y] (boR (beats x y)):=by
 have h1:=ref12_Less y.rep y.cnt x.rep x.cnt
 refine fi Tryz.func117 Tryz.ntmps117 ?_
 (have kc1:=h1;refine w0 ?_;(repeat' first|refine W2.mk ?_ ?_|refine W1.mk fun hc=>?_);all_goals clear kc1)
 all_goals refine rt1 ?_
 all_goals refine rv_bool rfl ?_
 all_goals unfold beats cmpI cmpV
 all_goals grind
end
structure Rg where
 lo:ByteArray
 hi:ByteArray
 op:Bool
deriving DecidableEq
def encRg (r:Rg):List Value:=[.string r.lo,.string r.hi,.bool r.op]
theorem encRg_ok:Enc 3 encRg:=⟨by decide,fun _=>rfl,fun x u hu=>by
 simp only [encRg,List.mem_cons,List.not_mem_nil,or_false] at hu
 rcases hu with rfl|rfl|rfl <;> rfl⟩
abbrev rgP (r:Rg):List PV:=[rawP (.string r.lo),rawP (.string r.hi),rawP (.bool r.op)]
abbrev rgC (r:Rg):Cnt:=.per (aggP (rgP r))
abbrev rgsP (l:List Rg):PV:=lstP 3 (l.map rgP)
abbrev rgsB (l:List Rg):Cnt:=.bor 3 (l.map rgP)
def rgE (x y:Rg):Bool:=(x.lo == y.lo) && ((x.hi == y.hi) && ((x.op == y.op) && true))
theorem rgE_iff (x y:Rg):rgE x y = true ↔ x = y:=by
 obtain ⟨a,b,c⟩:=x
 obtain ⟨a',b',c'⟩:=y
 simp only [rgE,Bool.and_eq_true,sbeq,beq_iff_eq,and_true,Rg.mk.injEq]
theorem rgE_o (x y:Rg):eqO Tryz.prog 10000 82 (encRg x) (encRg y) = some (rgE x y):=by kernel_rfl
theorem rgG:Tryz.prog.eqGuardType Tryz.prog.depth 82 = false:=by kernel_rfl
theorem toL_inj' (s u:ByteArray):s.toList = u.toList ↔ s = u:=by
 rw [← sbeq,beq_toListBytes,beq_iff_eq]
def e0:ByteArray:=⟨#[]⟩
/-- a right range -/
def rgR (r:Rg):Bool:=decide (r.lo.size ≤ 17 ∧ r.hi.size ≤ 17 ∧ (if r.op = true then r.hi = e0 else cmpB r.lo r.hi < 0))
theorem rgR_iff (r:Rg):rgR r = true ↔ r.lo.size ≤ 17 ∧ r.hi.size ≤ 17 ∧ (if r.op = true then r.hi = e0 else cmpB r.lo r.hi < 0):=by
 unfold rgR;exact decide_eq_true_iff
/-- right, and behind the one ahead of it -/
def rgOk (l:List Rg) (i:Nat):Prop:=∀ h:i < l.length,rgR l[i] = true ∧ ∀ h0:0 < i,l[i - 1].op = false ∧ cmpB l[i - 1].hi l[i].lo < 0
def rgsOk (l:List Rg):Prop:=∀ i,rgOk l i
section
theorem key_Edge (s:ByteArray):Fn Tryz.prog 165 [sC s] (boR (decide (s.size ≤ 17))):=by
 refine fi Tryz.func165 Tryz.ntmps165 ?_
 (refine w0 ?_;(repeat' first|refine W2.mk ?_ ?_|refine W1.mk fun hc=>?_))
 refine rt1 ?_
 exact rv_bool rfl (by simp;omega)
theorem span_Right (r:Rg):Fn Tryz.prog 121 [rgC r] (boR (rgR r)):=by
 obtain ⟨lo,hi,op⟩:=r
 have h1:=key_Edge lo
 have h2:=key_Edge hi
 have hR:=rgR_iff ⟨lo,hi,op⟩
 generalize rgR ⟨lo,hi,op⟩ = b at *
 simp only at hR
 show Fn Tryz.prog _ [.per (aggP [rawP (.string lo),rawP (.string hi),rawP (.bool op)])] (boR b)
 by_cases hl:lo.size ≤ 17
 · by_cases hh:hi.size ≤ 17
   · rw [decide_eq_true hl] at h1
     rw [decide_eq_true hh] at h2
     cases op with
     | true=>
       have hE:=rgE_o ⟨lo,hi,true⟩ ⟨lo,e0,true⟩
       have hI:=rgE_iff ⟨lo,hi,true⟩ ⟨lo,e0,true⟩
       generalize rgE ⟨lo,hi,true⟩ ⟨lo,e0,true⟩ = q at *
       refine fi Tryz.func121 Tryz.ntmps121 ?_
       (have kc1:=h1;have kc2:=h2;refine w0 ?_;(repeat' (first|refine W2.mk ?_ ?_|refine W1.mk fun hc=>?_|((first|apply AL_t rfl|apply AL_0 rfl|apply AD_t rfl|apply AD_0 rfl);(focus (first|(exact op_eqA (us:=encRg ⟨lo,hi,true⟩) (vs:=encRg ⟨lo,e0,true⟩) ⟨rfl,rfl,rfl⟩ rfl rfl rfl (by first|exact .inl ⟨rfl,rfl⟩|exact .inr ⟨rfl,rfl⟩) rgG rfl hE)|(apply u_g;(focus rfl);apply op_gyes rfl rfl rfl rfl rfl;first|(exact op_eqA (us:=encRg ⟨lo,hi,true⟩) (vs:=encRg ⟨lo,e0,true⟩) ⟨rfl,rfl,rfl⟩ rfl rfl rfl (by first|exact .inl ⟨rfl,rfl⟩|exact .inr ⟨rfl,rfl⟩) rgG rfl hE))));refine w0 ?_)));all_goals clear kc2 kc1)
       refine rt1 ?_
       refine rv_bool rfl ?_
       rw [show (q != false) = q by cases q <;> rfl,Bool.eq_iff_iff,hI,hR]
       simp [hl,hh]
     | false=>
       have h3:=key_Cmp lo hi (by omega)
       refine fi Tryz.func121 Tryz.ntmps121 ?_
       (have kc1:=h1;have kc2:=h2;have kc3:=h3;refine w0 ?_;(repeat' first|refine W2.mk ?_ ?_|refine W1.mk fun hc=>?_);all_goals clear kc3 kc2 kc1)
       refine rt1 ?_
       refine rv_bool rfl ?_
       rw [Bool.eq_iff_iff,hR]
       simp [hl,hh]
   · rw [decide_eq_true hl] at h1
     rw [decide_eq_false hh] at h2
     have hr:b = false:=by rw [← Bool.not_eq_true,hR];exact fun h=>hh h.2.1
     rw [hr]
     clear hR
     refine fi Tryz.func121 Tryz.ntmps121 ?_
     (have kc1:=h1;have kc2:=h2;refine w0 ?_;(repeat' first|refine W2.mk ?_ ?_|refine W1.mk fun hc=>?_);all_goals clear kc2 kc1)
     refine rt1 ?_
     exact rv_bool rfl rfl
 · rw [decide_eq_false hl] at h1
   have hr:b = false:=by rw [← Bool.not_eq_true,hR];exact fun h=>hl h.1
   rw [hr]
   clear hR
   refine fi Tryz.func121 Tryz.ntmps121 ?_
   (have kc1:=h1;refine w0 ?_;(repeat' first|refine W2.mk ?_ ?_|refine W1.mk fun hc=>?_);all_goals clear kc1)
   refine rt1 ?_
   exact rv_bool rfl rfl
theorem rspan_Right (r:Rg):Fn Tryz.prog 83 [rgC r] (boR (rgR r)):=by
 obtain ⟨lo,hi,op⟩:=r
 have hR:=rgR_iff ⟨lo,hi,op⟩
 generalize rgR ⟨lo,hi,op⟩ = b at *
 simp only at hR
 show Fn Tryz.prog _ [.per (aggP [rawP (.string lo),rawP (.string hi),rawP (.bool op)])] (boR b)
 by_cases hl:lo.size ≤ 17
 · by_cases hh:hi.size ≤ 17
   · cases op with
     | true=>
       refine fi Tryz.func83 Tryz.ntmps83 ?_
       (refine w0 ?_;(repeat' first|refine W2.mk ?_ ?_|refine W1.mk fun hc=>?_))
       refine rt1 ?_
       refine rv_bool rfl ?_
       rw [Bool.eq_iff_iff,hR,beq_iff_eq,toL_inj']
       simp [hl,hh,e0]
     | false=>
       have h3:=ref_Less lo hi (by omega)
       refine fi Tryz.func83 Tryz.ntmps83 ?_
       (have kc1:=h3;refine w0 ?_;(repeat' first|refine W2.mk ?_ ?_|refine W1.mk fun hc=>?_);all_goals clear kc1)
       refine rt1 ?_
       refine rv_bool rfl ?_
       rw [Bool.eq_iff_iff,hR]
       simp [hl,hh]
   · have hr:b = false:=by rw [← Bool.not_eq_true,hR];exact fun h=>hh h.2.1
     rw [hr]
     clear hR
     refine fi Tryz.func83 Tryz.ntmps83 ?_
     (refine w0 ?_;(repeat' first|refine W2.mk ?_ ?_|refine W1.mk fun hc=>?_))
     refine rt1 ?_
     exact rv_bool rfl rfl
 · have hr:b = false:=by rw [← Bool.not_eq_true,hR];exact fun h=>hl h.1
   rw [hr]
   clear hR
   refine fi Tryz.func83 Tryz.ntmps83 ?_
   (refine w0 ?_;(repeat' first|refine W2.mk ?_ ?_|refine W1.mk fun hc=>?_))
   refine rt1 ?_
   exact rv_bool rfl rfl
theorem rgs_Right (l:List Rg) (hl:l.length ≤ 1000000000) (b:Bool) (hb:b = true ↔ rgsOk l):Fn Tryz.prog 88 [rgsB l] (boR b):=by
 refine fi Tryz.func88 Tryz.ntmps88 ?_
 (refine w0 ?_;(repeat' first|refine W2.mk ?_ ?_|refine W1.mk fun hc=>?_))
 refine AW_loopP (X:=Nat) (fun z=>z ≤ l.length ∧ ∀ i,i < z → rgOk l i)
   (fun z=>mkSt [(0,rgsB l),(5,rgsB l),(6,iC .i64 (l.length:Nat)),(7,iC .i64 (z:Nat))] []) (fun z=>l.length - z) 0 ⟨Nat.zero_le _,fun i h=>absurd h (Nat.not_lt_zero _)⟩ ?_ ?_
 · exact le_auto
 · rintro z ⟨h1,h2⟩
   by_cases hz:z < l.length
   · have hir:=span_Right l[z]
     have hno:¬ rgOk l z → b = false:=fun h=>by rw [← Bool.not_eq_true,hb];exact fun q=>h (q z)
     cases hr:rgR l[z] with
     | false=>
       have hb0:=hno (fun h=>by have:=(h hz).1;rw [hr] at this;cases this)
       subst hb0
       clear hb hno h2
       rw [hr] at hir
       (have kc1:=hir;refine w0 ?_;(repeat' first|refine W2.mk ?_ ?_|refine W1.mk fun hc=>?_);all_goals clear kc1)
       refine rt1 ?_
       exact rv_bool rfl rfl
     | true=>
       rw [hr] at hir
       by_cases h0:0 < z
       · obtain ⟨q,rfl⟩:∃ q,z = q + 1:=⟨z - 1,by omega⟩
         have hqE:((q + 1:Nat):Int) - 1 = (q:Nat):=by omega
         have hrq:=(rgR_iff _).1 ((h2 q (by omega)) (by omega)).1
         have hcm:=key_Cmp l[q].hi l[q + 1].lo (by omega)
         cases ho:l[q].op with
         | true=>
           have hb0:=hno (fun h=>by have:=((h hz).2 h0).1;rw [show l[q + 1 - 1] = l[q] from rfl,ho] at this;cases this)
           subst hb0
           clear hb hno h2 hrq
           (have ke1:=Lib.hid (hqE);have kc1:=hir;have kc2:=hcm;refine w0e ?_;(repeat' first|refine W2.mk ?_ ?_|refine W1.mk fun hc=>?_);all_goals clear kc2 kc1 ke1)
           all_goals first|(exfalso;simp_all;done)|skip
           refine rt1 ?_
           exact rv_bool rfl rfl
         | false=>
           by_cases hlt:cmpB l[q].hi l[q + 1].lo < 0
           · have hok:rgOk l (q + 1):=fun _=>⟨hr,fun _=>⟨ho,hlt⟩⟩
             clear hb hno hrq
             (have ke1:=Lib.hid (hqE);have kc1:=hir;have kc2:=hcm;refine w0e ?_;(repeat' first|refine W2.mk ?_ ?_|refine W1.mk fun hc=>?_);all_goals clear kc2 kc1 ke1)
             all_goals first|(exfalso;simp_all;done)|skip
             refine ⟨q + 1 + 1,⟨by omega,fun i hi=>?_⟩,by omega,?_⟩
             · rcases Nat.lt_or_ge i (q + 1) with q'|q'
               · exact h2 i q'
               · obtain rfl:i = q + 1:=by omega
                 exact hok
             · exact le_auto
           · have hb0:=hno (fun h=>hlt ((h hz).2 h0).2)
             subst hb0
             clear hb hno h2 hrq
             (have ke1:=Lib.hid (hqE);have kc1:=hir;have kc2:=hcm;refine w0e ?_;(repeat' first|refine W2.mk ?_ ?_|refine W1.mk fun hc=>?_);all_goals clear kc2 kc1 ke1)
             all_goals first|(exfalso;simp_all;done)|skip
             refine rt1 ?_
             exact rv_bool rfl rfl
       · have hok:rgOk l z:=fun _=>⟨hr,fun h=>absurd h h0⟩
         clear hb hno
         (have kc1:=hir;refine w0 ?_;(repeat' first|refine W2.mk ?_ ?_|refine W1.mk fun hc=>?_);all_goals clear kc1)
         refine ⟨z + 1,⟨by omega,fun i hi=>?_⟩,by omega,?_⟩
         · rcases Nat.lt_or_ge i z with q|q
           · exact h2 i q
           · obtain rfl:i = z:=by omega
             exact hok
         · exact le_auto
   · have hb1:b = true:=hb.2 (fun i=>by
       rcases Nat.lt_or_ge i z with q|q
       · exact h2 i q
       · exact fun h=>by omega)
     subst hb1
     clear hb h2
     (refine w0 ?_;(repeat' first|refine W2.mk ?_ ?_|refine W1.mk fun hc=>?_))
     refine rt1 ?_
     exact rv_bool rfl rfl
theorem rrgs_Right (l:List Rg) (hl:l.length ≤ 1000000000) (b:Bool) (hb:b = true ↔ rgsOk l):Fn Tryz.prog 37 [rgsB l] (boR b):=by
 refine fi Tryz.func37 Tryz.ntmps37 ?_
 (refine w0 ?_;(repeat' first|refine W2.mk ?_ ?_|refine W1.mk fun hc=>?_))
 refine AW_loopP (X:=Nat) (fun z=>z ≤ l.length ∧ ∀ i,i < z → rgOk l i)
   (fun z=>mkSt [(0,rgsB l),(3,iC .i64 (z:Nat))] []) (fun z=>l.length - z) 0 ⟨Nat.zero_le _,fun i h=>absurd h (Nat.not_lt_zero _)⟩ ?_ ?_
 · exact le_auto
 · rintro z ⟨h1,h2⟩
   by_cases hz:z < l.length
   · have hir:=rspan_Right l[z]
     have hno:¬ rgOk l z → b = false:=fun h=>by rw [← Bool.not_eq_true,hb];exact fun q=>h (q z)
     cases hr:rgR l[z] with
     | false=>
       have hb0:=hno (fun h=>by have:=(h hz).1;rw [hr] at this;cases this)
       subst hb0
       clear hb hno h2
       rw [hr] at hir
       (have kc1:=hir;refine w0 ?_;(repeat' first|refine W2.mk ?_ ?_|refine W1.mk fun hc=>?_);all_goals clear kc1)
       refine rt1 ?_
       exact rv_bool rfl rfl
     | true=>
       rw [hr] at hir
       by_cases h0:0 < z
       · obtain ⟨q,rfl⟩:∃ q,z = q + 1:=⟨z - 1,by omega⟩
         have hqE:((q + 1:Nat):Int) - 1 = (q:Nat):=by omega
         have hrq:=(rgR_iff _).1 ((h2 q (by omega)) (by omega)).1
         have hcm:=ref_Less l[q].hi l[q + 1].lo (by omega)
         cases ho:l[q].op with
         | true=>
           have hb0:=hno (fun h=>by have:=((h hz).2 h0).1;rw [show l[q + 1 - 1] = l[q] from rfl,ho] at this;cases this)
           subst hb0
           clear hb hno h2 hrq
           (have ke1:=Lib.hid (hqE);have kc1:=hir;have kc2:=hcm;refine w0e ?_;(repeat' first|refine W2.mk ?_ ?_|refine W1.mk fun hc=>?_);all_goals clear kc2 kc1 ke1)
           all_goals first|(exfalso;simp_all;done)|skip
           refine rt1 ?_
           exact rv_bool rfl rfl
         | false=>
           by_cases hlt:cmpB l[q].hi l[q + 1].lo < 0
           · have hok:rgOk l (q + 1):=fun _=>⟨hr,fun _=>⟨ho,hlt⟩⟩
             rw [decide_eq_true hlt] at hcm
             clear hb hno hrq
             (have ke1:=Lib.hid (hqE);have kc1:=hir;have kc2:=hcm;refine w0e ?_;(repeat' first|refine W2.mk ?_ ?_|refine W1.mk fun hc=>?_);all_goals clear kc2 kc1 ke1)
             all_goals first|(exfalso;simp_all;done)|skip
             refine ⟨q + 1 + 1,⟨by omega,fun i hi=>?_⟩,by omega,?_⟩
             · rcases Nat.lt_or_ge i (q + 1) with q'|q'
               · exact h2 i q'
               · obtain rfl:i = q + 1:=by omega
                 exact hok
             · exact le_auto
           · have hb0:=hno (fun h=>hlt ((h hz).2 h0).2)
             rw [decide_eq_false hlt] at hcm
             subst hb0
             clear hb hno h2 hrq
             (have ke1:=Lib.hid (hqE);have kc1:=hir;have kc2:=hcm;refine w0e ?_;(repeat' first|refine W2.mk ?_ ?_|refine W1.mk fun hc=>?_);all_goals clear kc2 kc1 ke1)
             all_goals first|(exfalso;simp_all;done)|skip
             refine rt1 ?_
             exact rv_bool rfl rfl
       · have hok:rgOk l z:=fun _=>⟨hr,fun h=>absurd h h0⟩
         clear hb hno
         (have kc1:=hir;refine w0 ?_;(repeat' first|refine W2.mk ?_ ?_|refine W1.mk fun hc=>?_);all_goals clear kc1)
         refine ⟨z + 1,⟨by omega,fun i hi=>?_⟩,by omega,?_⟩
         · rcases Nat.lt_or_ge i z with q|q
           · exact h2 i q
           · obtain rfl:i = z:=by omega
             exact hok
         · exact le_auto
   · have hb1:b = true:=hb.2 (fun i=>by
       rcases Nat.lt_or_ge i z with q|q
       · exact h2 i q
       · exact fun h=>by omega)
     subst hb1
     clear hb h2
     (refine w0 ?_;(repeat' first|refine W2.mk ?_ ?_|refine W1.mk fun hc=>?_))
     refine rt1 ?_
     exact rv_bool rfl rfl
end
theorem snoc_ind {α:Type} {P:List α → Prop} (h0:P []) (h1:∀ l x,P l → P (l ++ [x])):∀ l,P l:=by
 intro l
 have:∀ r:List α,P r.reverse:=by
   intro r
   induction r with
   | nil=>exact h0
   | cons x r ih=>rw [List.reverse_cons];exact h1 _ _ ih
 simpa using this l.reverse
section
end
section
def rgLg (x:Rg):Bool:=decide (x.lo.size > 40) || decide (x.hi.size > 40)
def longRgs (l:List Rg) (most:Int):Bool:=decide ((l.length:Int) > most) || l.any rgLg
theorem rgs_Long (l:List Rg) (most:Int) (hl:most ≤ 1000000000000):Fn Tryz.prog 34 [rgsB l,iC .i64 most] (boR (longRgs l most)):=by
 refine fi Tryz.func34 Tryz.ntmps34 ?_
 (repeat' (first|refine AW_seq ?_|refine AW_block ?_|refine AW_skip ?_|refine AW_exit ?_|refine AW_ret ?_|refine AW_region ?_|refine AW_draw mixed0 ?_|refine AL_nil ?_|refine AD_nil (by kernel_rfl) ?_|refine thenA_n ?_|refine thenA_r ?_|refine thenA_e ?_|refine inB_n ?_|refine inB_r ?_|refine inB_hit ?_|refine inB_miss rfl ?_|(refine AW_cond_per rfl rfl (fun hc=>?_) (fun hc=>?_) <;> (try rw [Bool.not_eq_true'] at hc) <;> (try rw [Bool.not_eq_false'] at hc) <;> (try first|rw [decide_eq_true_eq] at hc|rw [decide_eq_false_iff_not] at hc|rw [beq_iff_eq] at hc|rw [beq_eq_false_iff_ne] at hc|rw [bne_iff_ne] at hc|rw [bne_eq_false_iff_eq] at hc) <;> (repeat rw [List.length_map] at hc) <;> (try first|contradiction|(exfalso;omega)|(exfalso;simp [*] at hc;done)))|((first|apply AL_t rfl|apply AL_0 rfl|apply AD_t rfl|apply AD_0 rfl);focus (first|exact o_auto))))
 · refine rt1 ?_
   exact rv_bool rfl (by unfold longRgs;rw [decide_eq_true hc];rfl)
 refine AW_loopP (fun k=>k ≤ l.length ∧ (l.take k).any rgLg = false) (fun k=>mkSt [(0,rgsB l),(1,iC .i64 most),(4,bC false),(5,iC .i64 (k:Nat))] []) (fun k=>l.length - k) 0 ⟨Nat.zero_le _,by simp⟩ ?_ ?_
 · exact le_auto
 · rintro k ⟨hk,hpre⟩
   by_cases hlt:k < l.length
   · have hsn:(l.take (k + 1)).any rgLg = ((l.take k).any rgLg || rgLg l[k]):=by rw [take_snoc' l k hlt,List.any_append];simp
     (repeat' (first|refine AW_seq ?_|refine AW_block ?_|refine AW_skip ?_|refine AW_exit ?_|refine AW_ret ?_|refine AW_region ?_|refine AW_draw mixed0 ?_|refine AL_nil ?_|refine AD_nil (by kernel_rfl) ?_|refine thenA_n ?_|refine thenA_r ?_|refine thenA_e ?_|refine inB_n ?_|refine inB_r ?_|refine inB_hit ?_|refine inB_miss rfl ?_|(refine AW_cond_per rfl rfl (fun hc=>?_) (fun hc=>?_) <;> (try rw [Bool.not_eq_true'] at hc) <;> (try rw [Bool.not_eq_false'] at hc) <;> (try first|rw [decide_eq_true_eq] at hc|rw [decide_eq_false_iff_not] at hc|rw [beq_iff_eq] at hc|rw [beq_eq_false_iff_ne] at hc|rw [bne_iff_ne] at hc|rw [bne_eq_false_iff_eq] at hc) <;> (repeat rw [List.length_map] at hc) <;> (try first|contradiction|(exfalso;omega)|(exfalso;simp [*] at hc;done)))|((first|apply AL_t rfl|apply AL_0 rfl|apply AD_t rfl|apply AD_0 rfl);focus (first|exact o_auto))))
     · refine rt1 ?_
       exact rv_bool rfl (by symm;unfold longRgs;rw [Bool.or_eq_true,List.any_eq_true];refine .inr ⟨l[k],List.getElem_mem hlt,?_⟩;grind [rgLg])
     · refine ⟨k + 1,⟨by omega,?_⟩,by omega,?_⟩
       · rw [hsn,hpre];grind [rgLg]
       · exact le_auto
   · (repeat' (first|refine AW_seq ?_|refine AW_block ?_|refine AW_skip ?_|refine AW_exit ?_|refine AW_ret ?_|refine AW_region ?_|refine AW_draw mixed0 ?_|refine AL_nil ?_|refine AD_nil (by kernel_rfl) ?_|refine thenA_n ?_|refine thenA_r ?_|refine thenA_e ?_|refine inB_n ?_|refine inB_r ?_|refine inB_hit ?_|refine inB_miss rfl ?_|(refine AW_cond_per rfl rfl (fun hc=>?_) (fun hc=>?_) <;> (try rw [Bool.not_eq_true'] at hc) <;> (try rw [Bool.not_eq_false'] at hc) <;> (try first|rw [decide_eq_true_eq] at hc|rw [decide_eq_false_iff_not] at hc|rw [beq_iff_eq] at hc|rw [beq_eq_false_iff_ne] at hc|rw [bne_iff_ne] at hc|rw [bne_eq_false_iff_eq] at hc) <;> (repeat rw [List.length_map] at hc) <;> (try first|contradiction|(exfalso;omega)|(exfalso;simp [*] at hc;done)))|((first|apply AL_t rfl|apply AL_0 rfl|apply AD_t rfl|apply AD_0 rfl);focus (first|exact o_auto))))
     refine rt1 ?_
     have e:l.take k = l:=List.take_of_length_le (by omega)
     rw [e] at hpre
     exact rv_bool rfl (by symm;unfold longRgs;rw [hpre,Bool.or_false,decide_eq_false_iff_not];assumption)
end
end Go.Proofs.YtembiemaiacdfaaGreat
