/- Texts joined: Rg Stab RgO Nd. -/
import Derived.Test.YtfcpkegmdlchhaaGreatJ08
import Derived.Test.YtfcpkegmdlchhaaGreatJ06
import Derived.Test.YtfcpkegmdlchhaaGreatJ01
set_option maxRecDepth 10000
set_option maxHeartbeats 8000000
namespace Go.Proofs.YtfcpkegmdlchhaaGreat
open Go.RowKit
structure Rg where
 lo:ByteArray
 hi:ByteArray
 op:Bool
deriving DecidableEq
def encRg (r:Rg):List Value:=[.string r.lo,.string r.hi,.bool r.op]
theorem encRg_ok:Enc 3 encRg:=⟨by decide,fun _=>rfl,fun x u hu=>by
 simp only [encRg,List.mem_cons,List.not_mem_nil,or_false] at hu
 rcases hu with rfl|rfl|rfl <;> rfl⟩
abbrev rgP (r:Rg):List PV:=[rawP (.string r.lo),rawP (.string r.hi),rawP (.bool r.op)]
abbrev rgC (r:Rg):Cnt:=.per (aggP (rgP r))
abbrev rgsP (l:List Rg):PV:=lstP 3 (l.map rgP)
abbrev rgsB (l:List Rg):Cnt:=.bor 3 (l.map rgP)
def rgE (x y:Rg):Bool:=(x.lo == y.lo) && ((x.hi == y.hi) && ((x.op == y.op) && true))
theorem rgE_iff (x y:Rg):rgE x y = true ↔ x = y:=by
 obtain ⟨a,b,c⟩:=x
 obtain ⟨a',b',c'⟩:=y
 simp only [rgE,Bool.and_eq_true,sbeq,beq_iff_eq,and_true,Rg.mk.injEq]
theorem rgE_o (x y:Rg):eqO Tryz.prog 10000 114 (encRg x) (encRg y) = some (rgE x y):=by kernel_rfl
theorem rgG:Tryz.prog.eqGuardType Tryz.prog.depth 114 = false:=by kernel_rfl
theorem toL_inj' (s u:ByteArray):s.toList = u.toList ↔ s = u:=by
 rw [← sbeq,beq_toListBytes,beq_iff_eq]
def e0:ByteArray:=⟨#[]⟩
/-- a right range -/
def rgR (r:Rg):Bool:=decide (r.lo.size ≤ 17 ∧ r.hi.size ≤ 17 ∧ (if r.op = true then r.hi = e0 else cmpB r.lo r.hi < 0))
theorem rgR_iff (r:Rg):rgR r = true ↔ r.lo.size ≤ 17 ∧ r.hi.size ≤ 17 ∧ (if r.op = true then r.hi = e0 else cmpB r.lo r.hi < 0):=by
 unfold rgR;exact decide_eq_true_iff
/-- right, and behind the one ahead of it -/
def rgOk (l:List Rg) (i:Nat):Prop:=∀ h:i < l.length,rgR l[i] = true ∧ ∀ h0:0 < i,l[i - 1].op = false ∧ cmpB l[i - 1].hi l[i].lo < 0
def rgsOk (l:List Rg):Prop:=∀ i,rgOk l i
section
theorem key_Edge (s:ByteArray):Fn Tryz.prog 157 [sC s] (boR (decide (s.size ≤ 17))):=by
 refine fi Tryz.func157 Tryz.ntmps157 ?_
 (refine w0 ?_;(repeat' first|refine W2.mk ?_ ?_|refine W1.mk fun hc=>?_))
 refine rt1 ?_
 exact rv_bool rfl (by simp;omega)
theorem span_Right (r:Rg):Fn Tryz.prog 112 [rgC r] (boR (rgR r)):=by
 obtain ⟨lo,hi,op⟩:=r
 have h1:=key_Edge lo
 have h2:=key_Edge hi
 have hR:=rgR_iff ⟨lo,hi,op⟩
 generalize rgR ⟨lo,hi,op⟩ = b at *
 simp only at hR
 show Fn Tryz.prog _ [.per (aggP [rawP (.string lo),rawP (.string hi),rawP (.bool op)])] (boR b)
 by_cases hl:lo.size ≤ 17
 · by_cases hh:hi.size ≤ 17
   · rw [decide_eq_true hl] at h1
     rw [decide_eq_true hh] at h2
     cases op with
     | true=>
       have hE:=rgE_o ⟨lo,hi,true⟩ ⟨lo,e0,true⟩
       have hI:=rgE_iff ⟨lo,hi,true⟩ ⟨lo,e0,true⟩
       generalize rgE ⟨lo,hi,true⟩ ⟨lo,e0,true⟩ = q at *
       refine fi Tryz.func112 Tryz.ntmps112 ?_
       (have kc1:=h1;have kc2:=h2;refine w0 ?_;(repeat' (first|refine W2.mk ?_ ?_|refine W1.mk fun hc=>?_|((first|apply AL_t rfl|apply AL_0 rfl|apply AD_t rfl|apply AD_0 rfl);(focus (first|(exact op_eqA (us:=encRg ⟨lo,hi,true⟩) (vs:=encRg ⟨lo,e0,true⟩) ⟨rfl,rfl,rfl⟩ rfl rfl rfl (by first|exact .inl ⟨rfl,rfl⟩|exact .inr ⟨rfl,rfl⟩) rgG rfl hE)|(apply u_g;(focus rfl);apply op_gyes rfl rfl rfl rfl rfl;first|(exact op_eqA (us:=encRg ⟨lo,hi,true⟩) (vs:=encRg ⟨lo,e0,true⟩) ⟨rfl,rfl,rfl⟩ rfl rfl rfl (by first|exact .inl ⟨rfl,rfl⟩|exact .inr ⟨rfl,rfl⟩) rgG rfl hE))));refine w0 ?_)));all_goals clear kc2 kc1)
       refine rt1 ?_
       refine rv_bool rfl ?_
       rw [show (q != false) = q by cases q <;> rfl,Bool.eq_iff_iff,hI,hR]
       simp [hl,hh]
     | false=>
       have h3:=key_Cmp lo hi (by omega)
       refine fi Tryz.func112 Tryz.ntmps112 ?_
       (have kc1:=h1;have kc2:=h2;have kc3:=h3;refine w0 ?_;(repeat' first|refine W2.mk ?_ ?_|refine W1.mk fun hc=>?_);all_goals clear kc3 kc2 kc1)
       refine rt1 ?_
       refine rv_bool rfl ?_
       rw [Bool.eq_iff_iff,hR]
       simp [hl,hh]
   · rw [decide_eq_true hl] at h1
     rw [decide_eq_false hh] at h2
     have hr:b = false:=by rw [← Bool.not_eq_true,hR];exact fun h=>hh h.2.1
     rw [hr]
     clear hR
     refine fi Tryz.func112 Tryz.ntmps112 ?_
     (have kc1:=h1;have kc2:=h2;refine w0 ?_;(repeat' first|refine W2.mk ?_ ?_|refine W1.mk fun hc=>?_);all_goals clear kc2 kc1)
     refine rt1 ?_
     exact rv_bool rfl rfl
 · rw [decide_eq_false hl] at h1
   have hr:b = false:=by rw [← Bool.not_eq_true,hR];exact fun h=>hl h.1
   rw [hr]
   clear hR
   refine fi Tryz.func112 Tryz.ntmps112 ?_
   (have kc1:=h1;refine w0 ?_;(repeat' first|refine W2.mk ?_ ?_|refine W1.mk fun hc=>?_);all_goals clear kc1)
   refine rt1 ?_
   exact rv_bool rfl rfl
theorem rspan_Right (r:Rg):Fn Tryz.prog 84 [rgC r] (boR (rgR r)):=by
 obtain ⟨lo,hi,op⟩:=r
 have hR:=rgR_iff ⟨lo,hi,op⟩
 generalize rgR ⟨lo,hi,op⟩ = b at *
 simp only at hR
 show Fn Tryz.prog _ [.per (aggP [rawP (.string lo),rawP (.string hi),rawP (.bool op)])] (boR b)
 by_cases hl:lo.size ≤ 17
 · by_cases hh:hi.size ≤ 17
   · cases op with
     | true=>
       refine fi Tryz.func84 Tryz.ntmps84 ?_
       (refine w0 ?_;(repeat' first|refine W2.mk ?_ ?_|refine W1.mk fun hc=>?_))
       refine rt1 ?_
       refine rv_bool rfl ?_
       rw [Bool.eq_iff_iff,hR,beq_iff_eq,toL_inj']
       simp [hl,hh,e0]
     | false=>
       have h3:=ref_Less lo hi (by omega)
       refine fi Tryz.func84 Tryz.ntmps84 ?_
       (have kc1:=h3;refine w0 ?_;(repeat' first|refine W2.mk ?_ ?_|refine W1.mk fun hc=>?_);all_goals clear kc1)
       refine rt1 ?_
       refine rv_bool rfl ?_
       rw [Bool.eq_iff_iff,hR]
       simp [hl,hh]
   · have hr:b = false:=by rw [← Bool.not_eq_true,hR];exact fun h=>hh h.2.1
     rw [hr]
     clear hR
     refine fi Tryz.func84 Tryz.ntmps84 ?_
     (refine w0 ?_;(repeat' first|refine W2.mk ?_ ?_|refine W1.mk fun hc=>?_))
     refine rt1 ?_
     exact rv_bool rfl rfl
 · have hr:b = false:=by rw [← Bool.not_eq_true,hR];exact fun h=>hl h.1
   rw [hr]
   clear hR
   refine fi Tryz.func84 Tryz.ntmps84 ?_
   (refine w0 ?_;(repeat' first|refine W2.mk ?_ ?_|refine W1.mk fun hc=>?_))
   refine rt1 ?_
   exact rv_bool rfl rfl
theorem rgs_Right (l:List Rg) (hl:l.length ≤ 1000000000) (b:Bool) (hb:b = true ↔ rgsOk l):Fn Tryz.prog 72 [rgsB l] (boR b):=by
 refine fi Tryz.func72 Tryz.ntmps72 ?_
 (refine w0 ?_;(repeat' first|refine W2.mk ?_ ?_|refine W1.mk fun hc=>?_))
 refine AW_loopP (X:=Nat) (fun z=>z ≤ l.length ∧ ∀ i,i < z → rgOk l i)
   (fun z=>mkSt [(0,rgsB l),(5,rgsB l),(6,iC .i64 (l.length:Nat)),(7,iC .i64 (z:Nat))] []) (fun z=>l.length - z) 0 ⟨Nat.zero_le _,fun i h=>absurd h (Nat.not_lt_zero _)⟩ ?_ ?_
 · exact le_auto
 · rintro z ⟨h1,h2⟩
   by_cases hz:z < l.length
   · have hir:=span_Right l[z]
     have hno:¬ rgOk l z → b = false:=fun h=>by rw [← Bool.not_eq_true,hb];exact fun q=>h (q z)
     cases hr:rgR l[z] with
     | false=>
       have hb0:=hno (fun h=>by have:=(h hz).1;rw [hr] at this;cases this)
       subst hb0
       clear hb hno h2
       rw [hr] at hir
       (have kc1:=hir;refine w0 ?_;(repeat' first|refine W2.mk ?_ ?_|refine W1.mk fun hc=>?_);all_goals clear kc1)
       refine rt1 ?_
       exact rv_bool rfl rfl
     | true=>
       rw [hr] at hir
       by_cases h0:0 < z
       · obtain ⟨q,rfl⟩:∃ q,z = q + 1:=⟨z - 1,by omega⟩
         have hqE:((q + 1:Nat):Int) - 1 = (q:Nat):=by omega
         have hrq:=(rgR_iff _).1 ((h2 q (by omega)) (by omega)).1
         have hcm:=key_Cmp l[q].hi l[q + 1].lo (by omega)
         cases ho:l[q].op with
         | true=>
           have hb0:=hno (fun h=>by have:=((h hz).2 h0).1;rw [show l[q + 1 - 1] = l[q] from rfl,ho] at this;cases this)
           subst hb0
           clear hb hno h2 hrq
           (have ke1:=Lib.hid (hqE);have kc1:=hir;have kc2:=hcm;refine w0e ?_;(repeat' first|refine W2.mk ?_ ?_|refine W1.mk fun hc=>?_);all_goals clear kc2 kc1 ke1)
           all_goals first|(exfalso;simp_all;done)|skip
           refine rt1 ?_
           exact rv_bool rfl rfl
         | false=>
           by_cases hlt:cmpB l[q].hi l[q + 1].lo < 0
           · have hok:rgOk l (q + 1):=fun _=>⟨hr,fun _=>⟨ho,hlt⟩⟩
             clear hb hno hrq
             (have ke1:=Lib.hid (hqE);have kc1:=hir;have kc2:=hcm;refine w0e ?_;(repeat' first|refine W2.mk ?_ ?_|refine W1.mk fun hc=>?_);all_goals clear kc2 kc1 ke1)
             all_goals first|(exfalso;simp_all;done)|skip
             refine ⟨q + 1 + 1,⟨by omega,fun i hi=>?_⟩,by omega,?_⟩
             · rcases Nat.lt_or_ge i (q + 1) with q'|q'
               · exact h2 i q'
               · obtain rfl:i = q + 1:=by omega
                 exact hok
             · exact le_auto
           · have hb0:=hno (fun h=>hlt ((h hz).2 h0).2)
             subst hb0
             clear hb hno h2 hrq
             (have ke1:=Lib.hid (hqE);have kc1:=hir;have kc2:=hcm;refine w0e ?_;(repeat' first|refine W2.mk ?_ ?_|refine W1.mk fun hc=>?_);all_goals clear kc2 kc1 ke1)
             all_goals first|(exfalso;simp_all;done)|skip
             refine rt1 ?_
             exact rv_bool rfl rfl
       · have hok:rgOk l z:=fun _=>⟨hr,fun h=>absurd h h0⟩
         clear hb hno
         (have kc1:=hir;refine w0 ?_;(repeat' first|refine W2.mk ?_ ?_|refine W1.mk fun hc=>?_);all_goals clear kc1)
         refine ⟨z + 1,⟨by omega,fun i hi=>?_⟩,by omega,?_⟩
         · rcases Nat.lt_or_ge i z with q|q
           · exact h2 i q
           · obtain rfl:i = z:=by omega
             exact hok
         · exact le_auto
   · have hb1:b = true:=hb.2 (fun i=>by
       rcases Nat.lt_or_ge i z with q|q
       · exact h2 i q
       · exact fun h=>by omega)
     subst hb1
     clear hb h2
     (refine w0 ?_;(repeat' first|refine W2.mk ?_ ?_|refine W1.mk fun hc=>?_))
     refine rt1 ?_
     exact rv_bool rfl rfl
theorem rrgs_Right (l:List Rg) (hl:l.length ≤ 1000000000) (b:Bool) (hb:b = true ↔ rgsOk l):Fn Tryz.prog 32 [rgsB l] (boR b):=by
 refine fi Tryz.func32 Tryz.ntmps32 ?_
 (refine w0 ?_;(repeat' first|refine W2.mk ?_ ?_|refine W1.mk fun hc=>?_))
 refine AW_loopP (X:=Nat) (fun z=>z ≤ l.length ∧ ∀ i,i < z → rgOk l i)
   (fun z=>mkSt [(0,rgsB l),(3,iC .i64 (z:Nat))] []) (fun z=>l.length - z) 0 ⟨Nat.zero_le _,fun i h=>absurd h (Nat.not_lt_zero _)⟩ ?_ ?_
 · exact le_auto
 · rintro z ⟨h1,h2⟩
   by_cases hz:z < l.length
   · have hir:=rspan_Right l[z]
     have hno:¬ rgOk l z → b = false:=fun h=>by rw [← Bool.not_eq_true,hb];exact fun q=>h (q z)
     cases hr:rgR l[z] with
     | false=>
       have hb0:=hno (fun h=>by have:=(h hz).1;rw [hr] at this;cases this)
       subst hb0
       clear hb hno h2
       rw [hr] at hir
       (have kc1:=hir;refine w0 ?_;(repeat' first|refine W2.mk ?_ ?_|refine W1.mk fun hc=>?_);all_goals clear kc1)
       refine rt1 ?_
       exact rv_bool rfl rfl
     | true=>
       rw [hr] at hir
       by_cases h0:0 < z
       · obtain ⟨q,rfl⟩:∃ q,z = q + 1:=⟨z - 1,by omega⟩
         have hqE:((q + 1:Nat):Int) - 1 = (q:Nat):=by omega
         have hrq:=(rgR_iff _).1 ((h2 q (by omega)) (by omega)).1
         have hcm:=ref_Less l[q].hi l[q + 1].lo (by omega)
         cases ho:l[q].op with
         | true=>
           have hb0:=hno (fun h=>by have:=((h hz).2 h0).1;rw [show l[q + 1 - 1] = l[q] from rfl,ho] at this;cases this)
           subst hb0
           clear hb hno h2 hrq
           (have ke1:=Lib.hid (hqE);have kc1:=hir;have kc2:=hcm;refine w0e ?_;(repeat' first|refine W2.mk ?_ ?_|refine W1.mk fun hc=>?_);all_goals clear kc2 kc1 ke1)
           all_goals first|(exfalso;simp_all;done)|skip
           refine rt1 ?_
           exact rv_bool rfl rfl
         | false=>
           by_cases hlt:cmpB l[q].hi l[q + 1].lo < 0
           · have hok:rgOk l (q + 1):=fun _=>⟨hr,fun _=>⟨ho,hlt⟩⟩
             rw [decide_eq_true hlt] at hcm
             clear hb hno hrq
             (have ke1:=Lib.hid (hqE);have kc1:=hir;have kc2:=hcm;refine w0e ?_;(repeat' first|refine W2.mk ?_ ?_|refine W1.mk fun hc=>?_);all_goals clear kc2 kc1 ke1)
             all_goals first|(exfalso;simp_all;done)|skip
             refine ⟨q + 1 + 1,⟨by omega,fun i hi=>?_⟩,by omega,?_⟩
             · rcases Nat.lt_or_ge i (q + 1) with q'|q'
               · exact h2 i q'
               · obtain rfl:i = q + 1:=by omega
                 exact hok
             · exact le_auto
           · have hb0:=hno (fun h=>hlt ((h hz).2 h0).2)
             rw [decide_eq_false hlt] at hcm
             subst hb0
             clear hb hno h2 hrq
             (have ke1:=Lib.hid (hqE);have kc1:=hir;have kc2:=hcm;refine w0e ?_;(repeat' first|refine W2.mk ?_ ?_|refine W1.mk fun hc=>?_);all_goals clear kc2 kc1 ke1)
             all_goals first|(exfalso;simp_all;done)|skip
             refine rt1 ?_
             exact rv_bool rfl rfl
       · have hok:rgOk l z:=fun _=>⟨hr,fun h=>absurd h h0⟩
         clear hb hno
         (have kc1:=hir;refine w0 ?_;(repeat' first|refine W2.mk ?_ ?_|refine W1.mk fun hc=>?_);all_goals clear kc1)
         refine ⟨z + 1,⟨by omega,fun i hi=>?_⟩,by omega,?_⟩
         · rcases Nat.lt_or_ge i z with q|q
           · exact h2 i q
           · obtain rfl:i = z:=by omega
             exact hok
         · exact le_auto
   · have hb1:b = true:=hb.2 (fun i=>by
       rcases Nat.lt_or_ge i z with q|q
       · exact h2 i q
       · exact fun h=>by omega)
     subst hb1
     clear hb h2
     (refine w0 ?_;(repeat' first|refine W2.mk ?_ ?_|refine W1.mk fun hc=>?_))
     refine rt1 ?_
     exact rv_bool rfl rfl
end
end Go.Proofs.YtfcpkegmdlchhaaGreat
namespace Go.Proofs.YtfcpkegmdlchhaaGreat
/-- a strict weak order -/
structure SWo {α:Type} (lt:α → α → Bool):Prop where
 irr:∀ x,lt x x = false
 tr:∀ x y z,lt x y = true → lt y z = true → lt x z = true
 ntr:∀ x y z,lt x y = false → lt y z = false → lt x z = false
section
variable {α:Type} {lt:α → α → Bool}
def eqv (lt:α → α → Bool) (x y:α):Bool:=!lt x y && !lt y x
/-- nothing stands behind what it is less than -/
def Srt (lt:α → α → Bool) (l:List α):Prop:=l.Pairwise fun x y=>lt y x = false
/-- N has the same as M, equals in the same order -/
def Alk (lt:α → α → Bool) (M N:List α):Prop:=∀ x,N.filter (eqv lt x) = M.filter (eqv lt x)
theorem SWo.lt_of (h:SWo lt) {x y z:α} (h1:lt x y = true) (h2:lt z y = false):lt x z = true:=by
 cases hxz:lt x z with
 | true=>rfl
 | false=>have:=h.ntr x z y hxz h2;rw [h1] at this;cases this
theorem SWo.lt_of' (h:SWo lt) {x y z:α} (h1:lt x y = true) (h2:lt x z = false):lt z y = true:=by
 cases hzy:lt z y with
 | true=>rfl
 | false=>have:=h.ntr x z y h2 hzy;rw [h1] at this;cases this
theorem SWo.asym (h:SWo lt) {x y:α} (h1:lt x y = true):lt y x = false:=by
 cases hyx:lt y x with
 | false=>rfl
 | true=>have:=h.tr x y x h1 hyx;rw [h.irr] at this;cases this
theorem eqv_self (h:SWo lt) (x:α):eqv lt x x = true:=by simp [eqv,h.irr]
theorem eqv_congr (h:SWo lt) {x y z:α} (h1:eqv lt x y = true):eqv lt y z = eqv lt x z:=by
 simp only [eqv,Bool.and_eq_true,Bool.not_eq_true'] at h1
 unfold eqv
 have e1:lt y z = lt x z:=by
   cases hb:lt y z with
   | true=>exact (h.lt_of' hb h1.2).symm
   | false=>exact (h.ntr x y z h1.1 hb).symm
 have e2:lt z y = lt z x:=by
   cases hb:lt z y with
   | true=>exact (h.lt_of hb h1.1).symm
   | false=>exact (h.ntr z y x hb h1.2).symm
 rw [e1,e2]
theorem Alk.refl (M:List α):Alk lt M M:=fun _=>rfl
theorem Alk.trans {M N O:List α} (h1:Alk lt M N) (h2:Alk lt N O):Alk lt M O:=fun x=>(h2 x).trans (h1 x)
theorem Alk.symm {M N:List α} (h1:Alk lt M N):Alk lt N M:=fun x=>(h1 x).symm
theorem Alk.app {M N M' N':List α} (h1:Alk lt M N) (h2:Alk lt M' N'):Alk lt (M ++ M') (N ++ N'):=fun x=>by
 rw [List.filter_append,List.filter_append,h1 x,h2 x]
theorem Alk.mem (h:SWo lt) {M N:List α} (h1:Alk lt M N) {x:α} (hx:x ∈ N):x ∈ M:=by
 have:x ∈ N.filter (eqv lt x):=List.mem_filter.2 ⟨hx,eqv_self h x⟩
 rw [h1 x] at this
 exact (List.mem_filter.1 this).1
theorem Alk.mem' (h:SWo lt) {M N:List α} (h1:Alk lt M N) {x:α} (hx:x ∈ M):x ∈ N:=h1.symm.mem h hx
/-- sorted, alike: the same -/
theorem Srt.uniq (h:SWo lt):∀ {M N:List α},Srt lt M → Srt lt N → Alk lt M N → M = N:=by
 intro M
 induction M with
 | nil=>
   intro N _ _ ha
   cases N with
   | nil=>rfl
   | cons y N=>exact absurd (ha.mem h List.mem_cons_self) (by simp)
 | cons x M ih=>
   intro N hM hN ha
   cases N with
   | nil=>exact absurd (ha.mem' h (x:=x) List.mem_cons_self) (by simp)
   | cons y N=>
     have hM':=List.pairwise_cons.1 hM
     have hN':=List.pairwise_cons.1 hN
     have hyM:=ha.mem h (x:=y) List.mem_cons_self
     have hxN:=ha.mem' h (x:=x) List.mem_cons_self
     have h1:lt y x = false:=by
       rcases List.mem_cons.1 hyM with e|e
       · rw [e];exact h.irr x
       · exact hM'.1 y e
     have h2:lt x y = false:=by
       rcases List.mem_cons.1 hxN with e|e
       · rw [e];exact h.irr y
       · exact hN'.1 x e
     have hE:eqv lt x y = true:=by simp [eqv,h1,h2]
     have hx:=ha x
     rw [List.filter_cons_of_pos hE,List.filter_cons_of_pos (eqv_self h x)] at hx
     injection hx with e1 e2
     subst e1
     rw [ih hM'.2 hN'.2 (fun z=>?_)]
     have hz:=ha z
     rw [List.filter_cons,List.filter_cons] at hz
     split at hz
     · injection hz
     · exact hz
/-- what is put among others: behind the last one that it does not stand ahead of -/
def insS (lt:α → α → Bool) (x:α):List α → List α → List α
 | [],r=>x :: r
 | y :: l,r=>if lt x y then insS lt x l (y :: r) else (y :: l).reverse ++ x :: r
def insT (lt:α → α → Bool) (p:List α) (x:α):List α:=insS lt x p.reverse []
def srtS (lt:α → α → Bool) (l:List α):List α:=l.foldl (insT lt) []
theorem insS_spec (h:SWo lt) (x:α):∀ (l r:List α),Srt lt (l.reverse ++ r) → (∀ y ∈ r,lt x y = true) → Srt lt (insS lt x l r) ∧ Alk lt (l.reverse ++ r ++ [x]) (insS lt x l r):=by
 intro l
 induction l with
 | nil=>
   intro r hs hr
   refine ⟨List.pairwise_cons.2 ⟨fun y hy=>h.asym (hr y hy),by simpa [Srt] using hs⟩,fun z=>?_⟩
   simp only [insS,List.reverse_nil,List.nil_append,List.filter_append,List.filter_cons,List.filter_nil]
   split
   · rename_i hz
     have:r.filter (eqv lt z) = []:=by
       rw [List.filter_eq_nil_iff]
       intro y hy he
       rw [eqv_congr h hz |>.symm] at he
       simp [eqv,hr y hy] at he
     rw [this];rfl
   · simp
 | cons y l ih=>
   intro r hs hr
   unfold insS
   split
   · rename_i hxy
     have:=ih (y :: r) (by simpa using hs) (fun z hz=>by
       rcases List.mem_cons.1 hz with e|e
       · rw [e];exact hxy
       · exact hr z e)
     simpa using this
   · rename_i hxy
     have hxy:lt x y = false:=by simpa using hxy
     have hlr:∀ z ∈ (y :: l).reverse,lt x z = false:=by
       intro z hz
       have hz':z ∈ y :: l:=List.mem_reverse.1 hz
       rcases List.mem_cons.1 hz' with e|e
       · rw [e];exact hxy
       · have hs1:Srt lt (l.reverse ++ [y]):=by
           have:Srt lt ((l.reverse ++ [y]) ++ r):=by simpa using hs
           exact (List.pairwise_append.1 this).1
         have hq:=(List.pairwise_append.1 hs1).2.2 z (by simpa using e) y (by simp)
         exact h.ntr x y z hxy hq
     have hs':=List.pairwise_append.1 hs
     refine ⟨List.pairwise_append.2 ⟨hs'.1,List.pairwise_cons.2 ⟨fun z hz=>h.asym (hr z hz),hs'.2.1⟩,fun a ha b hb=>?_⟩,fun z=>?_⟩
     · rcases List.mem_cons.1 hb with e|e
       · rw [e];exact hlr a ha
       · exact hs'.2.2 a ha b e
     · simp only [List.filter_append,List.filter_cons,List.filter_nil,List.append_assoc]
       congr 1
       split
       · rename_i hz
         have:r.filter (eqv lt z) = []:=by
           rw [List.filter_eq_nil_iff]
           intro y hy he
           rw [eqv_congr h hz |>.symm] at he
           simp [eqv,hr y hy] at he
         rw [this];rfl
       · simp
theorem insT_spec (h:SWo lt) {p:List α} (hp:Srt lt p) (x:α):Srt lt (insT lt p x) ∧ Alk lt (p ++ [x]) (insT lt p x):=by
 have:=insS_spec h x p.reverse [] (by simpa using hp) (fun y hy=>by simp at hy)
 simpa [insT] using this
theorem srtS_spec (h:SWo lt) (l:List α):Srt lt (srtS lt l) ∧ Alk lt l (srtS lt l):=by
 have key:∀ (l p:List α),Srt lt p → Srt lt (l.foldl (insT lt) p) ∧ Alk lt (p ++ l) (l.foldl (insT lt) p):=by
   intro l
   induction l with
   | nil=>intro p hp;exact ⟨hp,by simpa using Alk.refl p⟩
   | cons x l ih=>
     intro p hp
     obtain ⟨h1,h2⟩:=insT_spec h hp x
     obtain ⟨h3,h4⟩:=ih _ h1
     refine ⟨h3,Alk.trans ?_ h4⟩
     have:=h2.app (Alk.refl l)
     simpa using this
 simpa [srtS] using key l [] List.Pairwise.nil
theorem srtS_of (h:SWo lt) {M N:List α} (h1:Srt lt N) (h2:Alk lt M N):srtS lt M = N:=
 (srtS_spec h M).1.uniq h h1 ((srtS_spec h M).2.symm.trans h2)
theorem srtS_alk (h:SWo lt) {M N:List α} (h2:Alk lt M N):srtS lt M = srtS lt N:=
 srtS_of h (srtS_spec h N).1 (h2.trans (srtS_spec h N).2)
theorem insS_len (x:α):∀ (l r:List α),(insS lt x l r).length = l.length + 1 + r.length:=by
 intro l
 induction l with
 | nil=>intro r;simp [insS];omega
 | cons y l ih=>
   intro r
   unfold insS
   split
   · rw [ih];simp;omega
   · simp;omega
theorem srtS_len (l:List α):(srtS lt l).length = l.length:=by
 have:∀ (l p:List α),(l.foldl (insT lt) p).length = p.length + l.length:=by
   intro l
   induction l with
   | nil=>intro p;rfl
   | cons x l ih=>
     intro p
     rw [List.foldl_cons,ih]
     unfold insT
     rw [insS_len];simp;omega
 simpa [srtS] using this l []
end
end Go.Proofs.YtfcpkegmdlchhaaGreat
namespace Go.Proofs.YtfcpkegmdlchhaaGreat
/-- what a range has -/
def rgHas (r:Rg) (s:ByteArray):Bool:=rgR r && (decide (r.lo ≤ s) && (r.op || decide (s < r.hi)))
/-- which of two right ones ends ahead -/
def endR (a b:Rg):Int:=if a.op && b.op then 0 else if a.op then 1 else if b.op then -1 else cmpB a.hi b.hi
def ofF (out:List Rg) (r:Rg):List Rg:=match out.reverse with
 | []=>[r]
 | x :: z=>if x.op = false ∧ cmpB x.hi r.lo < 0 then out ++ [r] else if endR x r < 0 then z.reverse ++ [⟨x.lo,r.hi,r.op⟩] else out
theorem rgR_lo {r:Rg} (h:rgR r = true):r.op = true ∨ r.lo < r.hi:=by
 obtain ⟨_,_,h⟩:=(rgR_iff r).1 h
 cases ho:r.op with
 | true=>exact .inl rfl
 | false=>rw [ho] at h;exact .inr ((o_lt _ _).1 (by simpa using h))
/-- the chain: each right, and behind the one ahead of it; of a list that is turned round -/
inductive Chn:List Rg → Prop
 | nil:Chn []
 | one {x}:rgR x = true → Chn [x]
 | cons {x y z}:rgR x = true → y.op = false → y.hi < x.lo → Chn (y :: z) → Chn (x :: y :: z)
theorem Chn.head {x:Rg} {z:List Rg} (h:Chn (x :: z)):rgR x = true:=by
 cases h with
 | one h=>exact h
 | cons h _ _ _=>exact h
theorem Chn.ok:∀ {l:List Rg},Chn l → rgsOk l.reverse:=by
 intro l h
 induction h with
 | nil=>intro i hi;simp at hi
 | one h=>
   intro i hi
   have:i = 0:=by simp at hi;omega
   subst this
   exact ⟨h,fun h=>absurd h (by omega)⟩
 | @cons x y z hx ho hl hc ih=>
   have e:(x :: y :: z).reverse = (y :: z).reverse ++ [x]:=by simp
   rw [e]
   intro i hi
   rw [List.length_append] at hi
   rcases Nat.lt_or_ge i (y :: z).reverse.length with q|q
   · have:=ih i q
     refine ⟨?_,fun h0=>?_⟩
     · rw [List.getElem_append_left q];exact this.1
     · rw [List.getElem_append_left q,List.getElem_append_left (by omega)];exact this.2 h0
   · have hi':i = (y :: z).reverse.length:=by simp at hi ⊢;simp at q;omega
     subst hi'
     refine ⟨?_,fun h0=>?_⟩
     · rw [List.getElem_append_right (Nat.le_refl _)];simpa using hx
     · rw [List.getElem_append_right (Nat.le_refl _),List.getElem_append_left (by omega)]
       simp only [List.length_reverse,List.length_cons,List.getElem_reverse,Nat.sub_self,List.getElem_cons_zero]
       exact ⟨by simpa using ho,(o_lt _ _).2 (by simpa using hl)⟩
/-- all ends that are there stand ahead of what comes, but for the last one's -/
theorem Chn.ahead:∀ {x:Rg} {z:List Rg},Chn (x :: z) → ∀ y ∈ z,y.op = false ∧ y.hi < x.lo:=by
 intro x z h
 induction z generalizing x with
 | nil=>intro y hy;cases hy
 | cons w z ih=>
   cases h with
   | cons hx ho hl hc=>
     intro y hy
     rcases List.mem_cons.1 hy with e|e
     · subst e;exact ⟨ho,hl⟩
     · obtain ⟨h1,h2⟩:=ih hc y e
       rcases rgR_lo hc.head with q|q
       · rw [ho] at q;cases q
       · exact ⟨h1,by grind⟩
def anyR (l:List Rg) (s:ByteArray):Bool:=l.any fun r=>rgHas r s
theorem rgHas_of {r:Rg} (h:rgR r = true) (s:ByteArray):rgHas r s = (decide (r.lo ≤ s) && (r.op || decide (s < r.hi))):=by
 unfold rgHas;rw [h];rfl
theorem ofF_spec (Z:List Rg) (r:Rg) (h:Chn Z) (hr:rgR r = true) (hs:∀ x ∈ Z,x.lo ≤ r.lo) :
   Chn (ofF Z.reverse r).reverse ∧ (∀ x ∈ (ofF Z.reverse r).reverse,x.lo ≤ r.lo) ∧ ∀ s,anyR (ofF Z.reverse r).reverse s = (anyR Z s || rgHas r s):=by
 unfold ofF
 rw [List.reverse_reverse]
 cases Z with
 | nil=>
   refine ⟨.one hr,fun x hx=>?_,fun s=>?_⟩
   · simp at hx;subst hx;grind
   · simp [anyR]
 | cons x z=>
   have hx:=h.head
   have hxl:=hs x List.mem_cons_self
   simp only
   split
   · rename_i hc
     simp only [List.reverse_append,List.reverse_reverse,List.reverse_cons,List.reverse_nil,List.nil_append,List.singleton_append]
     refine ⟨.cons hr hc.1 hc.2 h,fun y hy=>?_,fun s=>?_⟩
     · rcases List.mem_cons.1 hy with e|e
       · subst e;grind
       · exact hs y e
     · simp only [anyR,List.any_cons];rw [Bool.or_comm]
   · rename_i hc
     have hE:endR x r = (if x.op && r.op then 0 else if x.op then 1 else if r.op then -1 else cmpB x.hi r.hi):=rfl
     have hc':x.op = true ∨ r.lo ≤ x.hi:=by
       cases ho:x.op with
       | true=>exact .inl rfl
       | false=>
         refine .inr ?_
         rw [ho] at hc
         have:¬ x.hi < r.lo:=fun q=>hc ⟨rfl,q⟩
         grind
     have hxr:=rgR_lo hx
     have hrr:=rgR_lo hr
     split
     · rename_i hd
       have hxo:x.op = false:=by
         cases ho:x.op with
         | false=>rfl
         | true=>rw [hE,ho] at hd;simp at hd;split at hd <;> omega
       have hro:r.op = true ∨ x.hi < r.hi:=by
         cases ho:r.op with
         | true=>exact .inl rfl
         | false=>rw [hE,hxo,ho] at hd;exact .inr ((o_lt _ _).1 (by simpa using hd))
       have hN:rgR ⟨x.lo,r.hi,r.op⟩ = true:=by
         rw [rgR_iff]
         obtain ⟨a1,a2,a3⟩:=(rgR_iff x).1 hx
         obtain ⟨b1,b2,b3⟩:=(rgR_iff r).1 hr
         refine ⟨a1,b2,?_⟩
         simp only
         cases ho:r.op with
         | true=>rw [ho] at b3;simpa using b3
         | false=>
           rw [ho] at b3
           simp only [Bool.false_eq_true,if_false] at b3 ⊢
           rw [o_lt] at b3 ⊢
           grind
       simp only [List.reverse_append,List.reverse_reverse,List.reverse_cons,List.reverse_nil,List.nil_append,List.singleton_append]
       refine ⟨?_,fun y hy=>?_,fun s=>?_⟩
       · cases h with
         | one _=>exact .one hN
         | cons _ ho hl hc=>exact .cons hN ho hl hc
       · rcases List.mem_cons.1 hy with e|e
         · subst e;exact hxl
         · exact hs y (List.mem_cons_of_mem _ e)
       · simp only [anyR,List.any_cons]
         rw [rgHas_of hN,rgHas_of hx,rgHas_of hr]
         simp only
         rw [Bool.eq_iff_iff]
         simp only [Bool.or_eq_true,Bool.and_eq_true,decide_eq_true_eq,hxo,Bool.false_eq_true,false_or]
         grind
     · rename_i hd
       have hxo:x.op = true ∨ (r.op = false ∧ r.hi ≤ x.hi):=by
         cases ho:x.op with
         | true=>exact .inl rfl
         | false=>
           rw [hE,ho] at hd
           cases hp:r.op with
           | true=>rw [hp] at hd;simp at hd
           | false=>rw [hp] at hd;refine .inr ⟨rfl,?_⟩;simp only [Bool.false_and,Bool.false_eq_true,if_false] at hd;rw [o_lt] at hd;grind
       rw [List.reverse_reverse]
       refine ⟨h,hs,fun s=>?_⟩
       simp only [anyR,List.any_cons]
       rw [rgHas_of hx,rgHas_of hr,Bool.eq_iff_iff]
       simp only [Bool.or_eq_true,Bool.and_eq_true,decide_eq_true_eq]
       grind
theorem of_spec:∀ (L Z:List Rg),Chn Z → (∀ r ∈ L,rgR r = true) → L.Pairwise (fun x y=>x.lo ≤ y.lo) → (∀ x ∈ Z,∀ r ∈ L,x.lo ≤ r.lo) →
   Chn (L.foldl ofF Z.reverse).reverse ∧ ∀ s,anyR (L.foldl ofF Z.reverse).reverse s = (anyR Z s || anyR L s):=by
 intro L
 induction L with
 | nil=>intro Z h _ _ _;simp [h,anyR]
 | cons r L ih=>
   intro Z h hR hS hZ
   obtain ⟨p1,p2⟩:=List.pairwise_cons.1 hS
   obtain ⟨h1,h2,h3⟩:=ofF_spec Z r h (hR r List.mem_cons_self) (fun x hx=>hZ x hx r List.mem_cons_self)
   have h4:=ih (ofF Z.reverse r).reverse h1 (fun x hx=>hR x (List.mem_cons_of_mem _ hx)) p2 (fun x hx y hy=>by have:=h2 x hx;have:=p1 y hy;grind)
   rw [List.reverse_reverse] at h4
   refine ⟨h4.1,fun s=>?_⟩
   rw [List.foldl_cons,h4.2 s,h3 s]
   simp only [anyR,List.any_cons,Bool.or_assoc]
theorem anyR_rev (l:List Rg) (s:ByteArray):anyR l.reverse s = anyR l s:=by unfold anyR;rw [List.any_reverse]
/-- the right list of ranges -/
def rgOfS (l:List Rg):List Rg:=l.foldl ofF []
theorem rgOfS_ok {L:List Rg} (hR:∀ r ∈ L,rgR r = true) (hS:L.Pairwise (fun x y=>x.lo ≤ y.lo)):rgsOk (rgOfS L) ∧ ∀ s,anyR (rgOfS L) s = anyR L s:=by
 have h:=of_spec L [] .nil hR hS (fun x hx=>by cases hx)
 refine ⟨?_,fun s=>?_⟩
 · have:=h.1.ok;rw [List.reverse_reverse] at this;exact this
 · have:=h.2 s;rw [anyR_rev] at this;rw [rgOfS];exact this.trans (by simp [anyR])
theorem ofF_len (out:List Rg) (r:Rg):(ofF out r).length ≤ out.length + 1:=by
 unfold ofF
 split
 · simp
 · rename_i x z h
   have e:out.length = z.length + 1:=by rw [← List.length_reverse,h];rfl
   split
   · simp
   · split
     · simp;omega
     · omega
theorem of_len:∀ (L out:List Rg),(L.foldl ofF out).length ≤ out.length + L.length:=by
 intro L
 induction L with
 | nil=>intro out;simp
 | cons r L ih=>intro out;rw [List.foldl_cons,List.length_cons];have:=ih (ofF out r);have:=ofF_len out r;omega
/-- where a text stands in a right list: the first range that does not end ahead of it -/
theorem find_ex {l:List Rg} (h:rgsOk l) (s:ByteArray):∃ p,p ≤ l.length ∧ ∀ j (hj:j < l.length),((l[j].op = true ∨ s < l[j].hi) ↔ p ≤ j):=by
 have up:∀ j (hj:j + 1 < l.length),(l[j].op = true ∨ s < l[j].hi) → (l[j + 1].op = true ∨ s < l[j + 1].hi):=by
   intro j hj hs
   have h1:=(h (j + 1) hj).2 (by omega)
   have h2:=rgR_lo (h (j + 1) hj).1
   simp only [Nat.add_sub_cancel] at h1
   rw [o_lt] at h1
   grind
 have hB:∀ n,n ≤ l.length → ∃ p,p ≤ n ∧ ∀ j (hj:j < l.length),j < n → ((l[j].op = true ∨ s < l[j].hi) ↔ p ≤ j):=by
   intro n
   induction n with
   | zero=>intro _;exact ⟨0,Nat.le_refl _,fun j _ h=>absurd h (Nat.not_lt_zero _)⟩
   | succ n ih=>
     intro hn
     obtain ⟨p,hp,hq⟩:=ih (by omega)
     by_cases hb:l[n].op = true ∨ s < l[n].hi
     · refine ⟨p,by omega,fun j hj hjn=>?_⟩
       rcases Nat.lt_or_ge j n with q|q
       · exact hq j hj q
       · obtain rfl:j = n:=by omega
         exact ⟨fun _=>by omega,fun _=>hb⟩
     · refine ⟨n + 1,by omega,fun j hj hjn=>?_⟩
       rcases Nat.lt_or_ge j n with q|q
       · refine ⟨fun hx=>?_,fun hx=>by omega⟩
         exfalso
         have:∀ d,j + d ≤ n → ∃ hd:j + d < l.length,(l[j + d].op = true ∨ s < l[j + d].hi):=by
           intro d
           induction d with
           | zero=>intro _;exact ⟨hj,hx⟩
           | succ d ihd=>
             intro hd
             obtain ⟨h1,h2⟩:=ihd (by omega)
             exact ⟨by omega,up (j + d) (by omega) h2⟩
         obtain ⟨h1,h2⟩:=this (n - j) (by omega)
         have e:j + (n - j) = n:=by omega
         simp only [e] at h2
         exact hb h2
       · obtain rfl:j = n:=by omega
         exact ⟨fun hx=>absurd hx hb,fun hx=>by omega⟩
 obtain ⟨p,h1,h2⟩:=hB l.length (Nat.le_refl _)
 exact ⟨p,h1,fun j hj=>h2 j hj hj⟩
/-- a right list has a text just if the range that stands there has it -/
theorem has_at {l:List Rg} (h:rgsOk l) {s:ByteArray} {p:Nat} (hp:∀ j (hj:j < l.length),((l[j].op = true ∨ s < l[j].hi) ↔ p ≤ j)) :
   anyR l s = (match l[p]? with|some r=>rgHas r s|none=>false):=by
 have ch:∀ d j (hj:j + d + 1 < l.length),l[j].op = false ∧ l[j].hi < l[j + d + 1].lo:=by
   intro d
   induction d with
   | zero=>intro j hj;have:=(h (j + 1) hj).2 (by omega);simp only [Nat.add_sub_cancel] at this;exact this
   | succ d ih=>
     intro j hj
     obtain ⟨a,b⟩:=ih j (by omega)
     have c:=(h (j + d + 1 + 1) (by omega)).2 (by omega)
     have e:=rgR_lo (h (j + d + 1) (by omega)).1
     simp only [Nat.add_sub_cancel] at c
     rw [o_lt] at c
     refine ⟨a,?_⟩
     show l[j].hi < l[j + d + 1 + 1].lo
     grind
 rw [Bool.eq_iff_iff]
 unfold anyR
 rw [List.any_eq_true]
 constructor
 · rintro ⟨r,hr,hs⟩
   obtain ⟨j,hj,rfl⟩:=List.getElem_of_mem hr
   have hjr:=(h j hj).1
   rw [rgHas_of hjr] at hs
   simp only [Bool.and_eq_true,Bool.or_eq_true,decide_eq_true_eq] at hs
   have hpj:=(hp j hj).1 hs.2
   rcases Nat.lt_or_ge p j with q|q
   · exfalso
     have hpl:p < l.length:=by omega
     have:=(hp p hpl).2 (Nat.le_refl _)
     obtain ⟨d,rfl⟩:∃ d,j = p + d + 1:=⟨j - p - 1,by omega⟩
     obtain ⟨a,b⟩:=ch d p hj
     grind
   · obtain rfl:p = j:=by omega
     rw [List.getElem?_eq_getElem hj]
     simp only
     rw [rgHas_of hjr]
     simp only [Bool.and_eq_true,Bool.or_eq_true,decide_eq_true_eq]
     exact hs
 · intro hs
   rcases Nat.lt_or_ge p l.length with q|q
   · rw [List.getElem?_eq_getElem q] at hs
     exact ⟨l[p],List.getElem_mem q,hs⟩
   · rw [List.getElem?_eq_none q] at hs;cases hs
theorem snoc_ind {α:Type} {P:List α → Prop} (h0:P []) (h1:∀ l x,P l → P (l ++ [x])):∀ l,P l:=by
 intro l
 have:∀ r:List α,P r.reverse:=by
   intro r
   induction r with
   | nil=>exact h0
   | cons x r ih=>rw [List.reverse_cons];exact h1 _ _ ih
 simpa using this l.reverse
section
end
end Go.Proofs.YtfcpkegmdlchhaaGreat
