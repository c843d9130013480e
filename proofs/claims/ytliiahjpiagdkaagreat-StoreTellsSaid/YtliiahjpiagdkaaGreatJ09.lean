/- Texts joined: RefIt Cmp Rg Nd RgL IcL Fc. -/
import Derived.Test.YtliiahjpiagdkaaGreatJ08
import Derived.Test.YtliiahjpiagdkaaGreatJ04
import Derived.Test.YtliiahjpiagdkaaGreatJ05
set_option maxRecDepth 10000
set_option maxHeartbeats 8000000
namespace Go.Proofs.YtliiahjpiagdkaaGreat
open Go.RowKit
def PQ (x y:It):Bool:=(x.key == y.key) && (((x.rep == y.rep) && ((x.cnt == y.cnt) && true)) && ((x.rank == y.rank) && ((x.prio == y.prio) && ((x.dead == y.dead) && ((x.body == y.body) && true)))))
theorem io (s u:ByteArray):(s == u) = true ↔ s = u:=by
 rw [beq_toListBytes,beq_iff_eq,fP,fP,Array.toList_inj]
 exact ⟨fun h=>by cases s;cases u;simp_all,fun h=>by rw [h]⟩
theorem oD (x y:It):PQ x y = true ↔ x = y:=by
 obtain ⟨a,b,c,d,e,f,g⟩:=x
 obtain ⟨a',b',c',d',e',f',g'⟩:=y
 simp only [PQ,Bool.and_eq_true,io,beq_iff_eq,and_true,It.mk.injEq]
 constructor
 ·rintro ⟨h1,⟨h2,h3⟩,h4,h5,h6,h7⟩;exact ⟨h1,h2,h3,h4,h5,h6,h7⟩
 ·rintro ⟨h1,h2,h3,h4,h5,h6,h7⟩;exact ⟨h1,⟨h2,h3⟩,h4,h5,h6,h7⟩
theorem Cz (x y:It):xN Tryz.prog 10000 41 (encIt x) (encIt y) = some (PQ x y):=by kernel_rfl
theorem O7:Tryz.prog.eqGuardType Tryz.prog.depth 41 = false:=by kernel_rfl
theorem Ea (l m:List It) (hl:l.length ≤ 1000000000):Fn Tryz.prog 13 [eD l,eD m] (cw (decide (l = m))):=by
 refine fi Tryz.func13 Tryz.ntmps13 ?_
 (refine wH ?_;repeat' first|apply ai|refine aj fun hc=>?_)
 ·refine aU ?_
  exact af rfl (by symm;rw [decide_eq_false_iff_not];intro h;subst h;omega)
 have hlm:l.length = m.length:=by omega
 refine an (fun k=>k ≤ l.length ∧ l.take k = m.take k) (fun k=>ba [(0,eD l),(1,eD m),(4,bC false),(5,iC .i64 (k:Nat))] []) (fun k=>l.length - k) 0 ⟨Nat.zero_le _,rfl⟩ ?_ ?_
 ·exact ae
 ·rintro k ⟨hk,hpre⟩
  by_cases hlt:k < l.length
  ·have hltm:k < m.length:=by omega
   (refine wH ?_;repeat' first|apply ai|refine aj fun hc=>?_|((first|apply aO rfl|apply aP rfl|apply aQ rfl|apply aR rfl);(focus ((try (apply b8;(focus rfl);apply ah rfl rfl rfl rfl rfl));first|(exact dR (us:=encIt l[k]) (vs:=encIt m[k]) ⟨rfl,rfl,rfl⟩ rfl rfl rfl (.inr ⟨rfl,rfl⟩) O7 rfl (Cz l[k] m[k]))));refine wH ?_))
   ·refine aU ?_
    exact af rfl (by symm;rw [decide_eq_false_iff_not];intro h;subst h;simp [(oD l[k] l[k]).2 rfl] at *)
   ·refine ⟨k + 1,⟨by omega,?_⟩,by omega,?_⟩
    ·rw [aJ l k hlt,aJ m k hltm,hpre,(oD l[k] m[k]).1 (by simpa using hc)]
    ·exact ae
  ·(refine wH ?_;repeat' first|apply ai|refine aj fun hc=>?_)
   refine aU ?_
   exact af rfl (by symm;rw [decide_eq_true_eq,← List.take_of_length_le (show l.length ≤ k by omega),hpre,List.take_of_length_le (by omega)])
def Ls (x:It):Bool:=decide (x.key.size > 60) || decide (x.body.size > 200)
def k8 (l:List It) (most:Int):Bool:=decide ((l.length:Int) > most) || l.any Ls
theorem Hi (l:List It) (k:Nat) (h:k < l.length):(l.take (k + 1)).any Ls = ((l.take k).any Ls || Ls l[k]):=by rw [aJ l k h,List.any_append];simp
theorem ux (l:List It) (most:Int) (hl:most ≤ 1000000000000):Fn Tryz.prog 21 [eD l,iC .i64 most] (cw (k8 l most)):=by
 refine fi Tryz.func21 Tryz.ntmps21 ?_
 (refine wH ?_;repeat' first|apply ai|refine aj fun hc=>?_)
 ·refine aU ?_
  exact af rfl (by unfold k8;rw [decide_eq_true hc];rfl)
 refine an (fun k=>k ≤ l.length ∧ (l.take k).any Ls = false) (fun k=>ba [(0,eD l),(1,iC .i64 most),(4,bC false),(5,iC .i64 (k:Nat))] []) (fun k=>l.length - k) 0 ⟨Nat.zero_le _,rfl⟩ ?_ ?_
 ·exact ae
 ·rintro k ⟨hk,hpre⟩
  by_cases hlt:k < l.length
  ·have hsn:=Hi l k hlt
   (refine wH ?_;repeat' first|apply ai|refine aj fun hc=>?_)
   ·refine aU ?_
    exact af rfl (by symm;unfold k8;rw [Bool.or_eq_true,List.any_eq_true];refine .inr ⟨l[k],List.getElem_mem hlt,?_⟩;grind [Ls])
   ·refine ⟨k + 1,⟨by omega,?_⟩,by omega,?_⟩
    ·rw [hsn,hpre];grind [Ls]
    ·exact ae
  ·(refine wH ?_;repeat' first|apply ai|refine aj fun hc=>?_)
   refine aU ?_
   have e:l.take k = l:=List.take_of_length_le (by omega)
   rw [e] at hpre
   exact af rfl (by symm;unfold k8;rw [hpre,Bool.or_false,decide_eq_false_iff_not];assumption)
def cz:List UInt8 → List UInt8 → Int
 | [],[]=>0
 | [],_ :: _=>-1
 | _ :: _,[]=>1
 | x :: a,y :: b=>if x.toNat < y.toNat then -1 else if y.toNat < x.toNat then 1 else cz a b
def bu (s t:ByteArray):Int:=cz s.data.toList t.data.toList
theorem pF (a b:List UInt8) (k:Nat) (h1:k < a.length) (h2:k < b.length):cz (a.drop k) (b.drop k) = if a[k].toNat < b[k].toNat then -1 else if b[k].toNat < a[k].toNat then 1 else cz (a.drop (k + 1)) (b.drop (k + 1)):=by
 rw [List.drop_eq_getElem_cons h1,List.drop_eq_getElem_cons h2,cz]
theorem rV (a b:List UInt8) (k:Nat) (h:a.length ≤ k ∨ b.length ≤ k) (h1:k ≤ a.length) (h2:k ≤ b.length):cz (a.drop k) (b.drop k) = if a.length < b.length then -1 else if a.length > b.length then 1 else 0:=by
 by_cases e1:a.length ≤ k
 ·rw [List.drop_eq_nil_of_le e1]
  by_cases e2:b.length ≤ k
  ·rw [List.drop_eq_nil_of_le e2,cz,if_neg (by omega),if_neg (by omega)]
  ·rw [List.drop_eq_getElem_cons (by omega:k < b.length),cz,if_pos (by omega)]
 ·have e2:b.length ≤ k:=by omega
  rw [List.drop_eq_nil_of_le e2,List.drop_eq_getElem_cons (by omega:k < a.length),cz,if_neg (by omega),if_pos (by omega)]
def yd (r c r' c':Int):Int:=if r = r' ∧ c = c' then 0 else if r < r' ∨ r = r' ∧ c < c' then -1 else 1
def oE (x y:It):Int:=if x.rank > y.rank then 1 else if x.rank < y.rank then -1 else yd x.rep x.cnt y.rep y.cnt
def Hj (x y:It):Bool:=decide (oE x y > 0)
section
theorem eN (s t:ByteArray) (hs:s.size ≤ 1000000000000):Fn Tryz.prog 61 [sC s,sC t] (gy (bu s t)):=by
 generalize hR:bu s t = R
 refine fi Tryz.func61 Tryz.ntmps61 ?_
 (refine w0 ?_;repeat' first|apply ai|refine aj fun hc=>?_)
 refine an (fun k=>k ≤ s.size ∧ k ≤ t.size ∧ cz (s.data.toList.drop k) (t.data.toList.drop k) = R) (fun k=>ba [(0,sC s),(1,sC t),(10,iC .i64 (min (s.size:Int) (t.size:Int))),(11,iC .i64 (k:Nat))] []) (fun k=>s.size - k) 0 ⟨Nat.zero_le _,Nat.zero_le _,hR⟩ ?_ ?_
 ·exact ae
 ·rintro k ⟨h1,h2,h3⟩
  have hst:=pF s.data.toList t.data.toList k
  have hen:=rV s.data.toList t.data.toList k
  simp only [vi] at hst hen
  rw [h3] at hst hen
  by_cases hk:k < s.size ∧ k < t.size
  ·have hst:=hst hk.1 hk.2
   have hm:(k:Int) < min (s.size:Int) (t.size:Int):=by omega
   (refine w0 ?_;repeat' first|apply ai|refine aj fun hc=>?_)
   ·rw [if_pos (by omega)] at hst
    refine aU ?_
    exact aH rfl hst.symm
   ·rw [if_neg (by omega),if_pos (by omega)] at hst
    refine aU ?_
    exact aH rfl hst.symm
   ·rw [if_neg (by omega),if_neg (by omega)] at hst
    refine ⟨k + 1,⟨by omega,by omega,hst.symm⟩,by omega,?_⟩
    exact ae
  ·have hen:=hen (by omega) h1 h2
   have hm:¬ (k:Int) < min (s.size:Int) (t.size:Int):=by omega
   (refine w0 ?_;repeat' first|apply ai|refine aj fun hc=>?_)
   all_goals refine aU ?_
   ·rw [if_pos (by omega)] at hen
    exact aH rfl hen.symm
   ·rw [if_neg (by omega),if_pos (by omega)] at hen
    exact aH rfl hen.symm
   ·rw [if_neg (by omega),if_neg (by omega)] at hen
    exact aH rfl hen.symm
theorem eZ (s t:ByteArray) (hs:s.size ≤ 1000000000000):Fn Tryz.prog 95 [sC s,sC t] (cw (decide (bu s t < 0))):=by
 generalize hR:bu s t = R
 refine fi Tryz.func95 Tryz.ntmps95 ?_
 (refine w0 ?_;repeat' first|apply ai|refine aj fun hc=>?_)
 refine an (fun k=>k ≤ s.size ∧ k ≤ t.size ∧ cz (s.data.toList.drop k) (t.data.toList.drop k) = R) (fun k=>ba [(0,sC s),(1,sC t),(5,iC .i64 (k:Nat))] []) (fun k=>s.size - k) 0 ⟨Nat.zero_le _,Nat.zero_le _,hR⟩ ?_ ?_
 ·exact ae
 ·rintro k ⟨h1,h2,h3⟩
  have hst:=pF s.data.toList t.data.toList k
  have hen:=rV s.data.toList t.data.toList k
  simp only [vi] at hst hen
  rw [h3] at hst hen
  by_cases hk:k < s.size ∧ k < t.size
  ·have hst:=hst hk.1 hk.2
   (refine w0 ?_;repeat' first|apply ai|refine aj fun hc=>?_)
   ·refine aU ?_
    refine af rfl ?_
    rw [hst]
    clear hst hen h3
    generalize (s.data.toList[k]'(by simpa using hk.1)).toNat = x at *
    generalize (t.data.toList[k]'(by simpa using hk.2)).toNat = y at *
    split
    ·rw [decide_eq_true (by omega),decide_eq_true (by omega)]
    ·rw [if_pos (by omega),decide_eq_false (by omega),decide_eq_false (by omega)]
   ·rw [if_neg (by omega),if_neg (by omega)] at hst
    refine ⟨k + 1,⟨by omega,by omega,hst.symm⟩,by omega,?_⟩
    exact ae
  ·have hen:=hen (by omega) h1 h2
   (refine w0 ?_;repeat' first|apply ai|refine aj fun hc=>?_)
   all_goals refine aU ?_
   all_goals refine af rfl ?_
   ·rw [hen,if_neg (by omega)]
    split <;> simp
   ·rw [hen]
    split
    ·simp;omega
    ·split <;> (simp;omega)
theorem vN (r c r' c':Int):xN Tryz.prog 10000 39 [.int .i64 r,.int .i64 c] [.int .i64 r',.int .i64 c'] = some (decide (r = r') && (decide (c = c') && true)):=by kernel_rfl
theorem AH:Tryz.prog.eqGuardType Tryz.prog.depth 39 = false:=by kernel_rfl
theorem Lu (r c r' c':Int):Fn Tryz.prog 179 [qF r c,qF r' c'] (gy (yd r c r' c')):=by
 have hE:=vN r c r' c'
 refine fi Tryz.func179 Tryz.ntmps179 ?_
 (refine w0 ?_;repeat' first|apply ai|refine aj fun hc=>?_|((first|apply aO rfl|apply aP rfl|apply aQ rfl|apply aR rfl);(focus ((try (apply b8;(focus rfl);apply ah rfl rfl rfl rfl rfl));first|(exact dR (us:=[.int .i64 r,.int .i64 c]) (vs:=[.int .i64 r',.int .i64 c']) ⟨rfl,rfl,rfl⟩ rfl rfl rfl (by first|exact .inl ⟨rfl,rfl⟩|exact .inr ⟨rfl,rfl⟩) AH rfl hE)));refine w0 ?_))
 all_goals refine aU ?_
 all_goals refine aH rfl ?_
 all_goals unfold yd
 all_goals grind
theorem Hk (x y:It):Fn Tryz.prog 137 [wV x,wV y] (gy (oE x y)):=by
 have h1:=Lu x.rep x.cnt y.rep y.cnt
 refine fi Tryz.func137 Tryz.ntmps137 ?_
 (refine az h1 ?_;repeat' first|apply ai|refine aj fun hc=>?_)
 all_goals refine aU ?_
 all_goals refine aH rfl ?_
 ·unfold oE;rw [if_pos (by omega)]
 ·unfold oE;rw [if_neg (by omega),if_pos (by omega)]
 ·unfold oE;rw [if_neg (by omega),if_neg (by omega)]
theorem AI (r c r' c':Int):Fn Tryz.prog 222 [qF r c,qF r' c'] (cw (decide (r < r' ∨ r = r' ∧ c < c'))):=by
 refine fi Tryz.func222 Tryz.ntmps222 ?_
 (refine w0 ?_;repeat' first|apply ai|refine aj fun hc=>?_)
 all_goals refine aU ?_
 all_goals refine af rfl ?_
 all_goals grind
theorem Eb (x y:It):Fn Tryz.prog 196 [wV x,wV y] (cw (Hj x y)):=by
 have h1:=AI y.rep y.cnt x.rep x.cnt
 refine fi Tryz.func196 Tryz.ntmps196 ?_
 (refine az h1 ?_;repeat' first|apply ai|refine aj fun hc=>?_)
 all_goals refine aU ?_
 all_goals refine af rfl ?_
 all_goals unfold Hj oE yd
 all_goals grind
end
structure Rg where
 lo:ByteArray
 hi:ByteArray
 op:Bool
deriving DecidableEq
def encRg (r:Rg):List Value:=[.string r.lo,.string r.hi,.bool r.op]
theorem ye:Dv 3 encRg:=⟨by decide,fun _=>rfl,fun x u hu=>by
 simp only [encRg,List.mem_cons,List.not_mem_nil,or_false] at hu
 rcases hu with rfl|rfl|rfl <;> rfl⟩
abbrev rgP (r:Rg):List PV:=[av (.string r.lo),av (.string r.hi),av (.bool r.op)]
abbrev uy (r:Rg):Cnt:=.per (bX (rgP r))
abbrev fC (l:List Rg):PV:=cD 3 (l.map rgP)
abbrev dS (l:List Rg):Cnt:=.bor 3 (l.map rgP)
def OS (x y:Rg):Bool:=(x.lo == y.lo) && ((x.hi == y.hi) && ((x.op == y.op) && true))
theorem oG (x y:Rg):OS x y = true ↔ x = y:=by
 obtain ⟨a,b,c⟩:=x
 obtain ⟨a',b',c'⟩:=y
 simp only [OS,Bool.and_eq_true,io,beq_iff_eq,and_true,Rg.mk.injEq]
theorem Hl (x y:Rg):xN Tryz.prog 10000 50 (encRg x) (encRg y) = some (OS x y):=by kernel_rfl
theorem NF:Tryz.prog.eqGuardType Tryz.prog.depth 50 = false:=by kernel_rfl
theorem ip (s u:ByteArray):s.toList = u.toList ↔ s = u:=by
 rw [← io,beq_toListBytes,beq_iff_eq]
def e0:ByteArray:=⟨#[]⟩
def eO (r:Rg):Bool:=decide (r.lo.size ≤ 17 ∧ r.hi.size ≤ 17 ∧ (if r.op = true then r.hi = e0 else bu r.lo r.hi < 0))
theorem bT (r:Rg):eO r = true ↔ r.lo.size ≤ 17 ∧ r.hi.size ≤ 17 ∧ (if r.op = true then r.hi = e0 else bu r.lo r.hi < 0):=by
 unfold eO;exact decide_eq_true_iff
def tQ (l:List Rg) (i:Nat):Prop:=∀ h:i < l.length,eO l[i] = true ∧ ∀ h0:0 < i,l[i - 1].op = false ∧ bu l[i - 1].hi l[i].lo < 0
def dr (l:List Rg):Prop:=∀ i,tQ l i
section
theorem yf (s:ByteArray):Fn Tryz.prog 108 [sC s] (cw (decide (s.size ≤ 17))):=by
 refine fi Tryz.func108 Tryz.ntmps108 ?_
 (refine w0 ?_;repeat' first|apply ai|refine aj fun hc=>?_)
 refine aU ?_
 exact af rfl (by simp;omega)
theorem e7 (r:Rg):Fn Tryz.prog 63 [uy r] (cw (eO r)):=by
 obtain ⟨lo,hi,op⟩:=r
 have h1:=yf lo
 have h2:=yf hi
 have hR:=bT ⟨lo,hi,op⟩
 generalize eO ⟨lo,hi,op⟩ = b at *
 simp only at hR
 show Fn Tryz.prog _ [.per (bX [av (.string lo),av (.string hi),av (.bool op)])] (cw b)
 by_cases hl:lo.size ≤ 17
 ·by_cases hh:hi.size ≤ 17
  ·rw [decide_eq_true hl] at h1
   rw [decide_eq_true hh] at h2
   cases op with
   | true=>
    have hE:=Hl ⟨lo,hi,true⟩ ⟨lo,e0,true⟩
    have hI:=oG ⟨lo,hi,true⟩ ⟨lo,e0,true⟩
    generalize OS ⟨lo,hi,true⟩ ⟨lo,e0,true⟩ = q at *
    refine fi Tryz.func63 Tryz.ntmps63 ?_
    (refine aL h1 h2 ?_;repeat' first|apply ai|refine aj fun hc=>?_|((first|apply aO rfl|apply aP rfl|apply aQ rfl|apply aR rfl);(focus ((try (apply b8;(focus rfl);apply ah rfl rfl rfl rfl rfl));first|(exact dR (us:=encRg ⟨lo,hi,true⟩) (vs:=encRg ⟨lo,e0,true⟩) ⟨rfl,rfl,rfl⟩ rfl rfl rfl (by first|exact .inl ⟨rfl,rfl⟩|exact .inr ⟨rfl,rfl⟩) NF rfl hE)));refine aL h1 h2 ?_))
    refine aU ?_
    refine af rfl ?_
    rw [show (q != false) = q by cases q <;> rfl,Bool.eq_iff_iff,hI,hR]
    simp [hl,hh]
   | false=>
    have h3:=eN lo hi (by omega)
    refine fi Tryz.func63 Tryz.ntmps63 ?_
    (refine eX h1 h2 h3 ?_;repeat' first|apply ai|refine aj fun hc=>?_)
    refine aU ?_
    refine af rfl ?_
    rw [Bool.eq_iff_iff,hR]
    simp [hl,hh]
  ·rw [decide_eq_true hl] at h1
   rw [decide_eq_false hh] at h2
   have hr:b = false:=by rw [← Bool.not_eq_true,hR];exact fun h=>hh h.2.1
   rw [hr]
   clear hR
   refine fi Tryz.func63 Tryz.ntmps63 ?_
   (refine aL h1 h2 ?_;repeat' first|apply ai|refine aj fun hc=>?_)
   refine aU ?_
   exact af rfl rfl
 ·rw [decide_eq_false hl] at h1
  have hr:b = false:=by rw [← Bool.not_eq_true,hR];exact fun h=>hl h.1
  rw [hr]
  clear hR
  refine fi Tryz.func63 Tryz.ntmps63 ?_
  (refine az h1 ?_;repeat' first|apply ai|refine aj fun hc=>?_)
  refine aU ?_
  exact af rfl rfl
theorem jz (r:Rg):Fn Tryz.prog 94 [uy r] (cw (eO r)):=by
 obtain ⟨lo,hi,op⟩:=r
 have hR:=bT ⟨lo,hi,op⟩
 generalize eO ⟨lo,hi,op⟩ = b at *
 simp only at hR
 show Fn Tryz.prog _ [.per (bX [av (.string lo),av (.string hi),av (.bool op)])] (cw b)
 by_cases hl:lo.size ≤ 17
 ·by_cases hh:hi.size ≤ 17
  ·cases op with
   | true=>
    refine fi Tryz.func94 Tryz.ntmps94 ?_
    (refine w0 ?_;repeat' first|apply ai|refine aj fun hc=>?_)
    refine aU ?_
    refine af rfl ?_
    rw [Bool.eq_iff_iff,hR,beq_iff_eq,ip]
    simp [hl,hh,e0]
   | false=>
    have h3:=eZ lo hi (by omega)
    refine fi Tryz.func94 Tryz.ntmps94 ?_
    (refine az h3 ?_;repeat' first|apply ai|refine aj fun hc=>?_)
    refine aU ?_
    refine af rfl ?_
    rw [Bool.eq_iff_iff,hR]
    simp [hl,hh]
  ·have hr:b = false:=by rw [← Bool.not_eq_true,hR];exact fun h=>hh h.2.1
   rw [hr]
   clear hR
   refine fi Tryz.func94 Tryz.ntmps94 ?_
   (refine w0 ?_;repeat' first|apply ai|refine aj fun hc=>?_)
   refine aU ?_
   exact af rfl rfl
 ·have hr:b = false:=by rw [← Bool.not_eq_true,hR];exact fun h=>hl h.1
  rw [hr]
  clear hR
  refine fi Tryz.func94 Tryz.ntmps94 ?_
  (refine w0 ?_;repeat' first|apply ai|refine aj fun hc=>?_)
  refine aU ?_
  exact af rfl rfl
theorem mS (l:List Rg) (hl:l.length ≤ 1000000000) (b:Bool) (hb:b = true ↔ dr l):Fn Tryz.prog 75 [dS l] (cw b):=by
 refine fi Tryz.func75 Tryz.ntmps75 ?_
 (refine w0 ?_;repeat' first|apply ai|refine aj fun hc=>?_)
 refine an (X:=Nat) (fun z=>z ≤ l.length ∧ ∀ i,i < z → tQ l i)
  (fun z=>ba [(0,dS l),(5,dS l),(6,iC .i64 (l.length:Nat)),(7,iC .i64 (z:Nat))] []) (fun z=>l.length - z) 0 ⟨Nat.zero_le _,fun i h=>absurd h (Nat.not_lt_zero _)⟩ ?_ ?_
 ·exact ae
 ·rintro z ⟨h1,h2⟩
  by_cases hz:z < l.length
  ·have hir:=e7 l[z]
   have hno:¬ tQ l z → b = false:=fun h=>by rw [← Bool.not_eq_true,hb];exact fun q=>h (q z)
   cases hr:eO l[z] with
   | false=>
    have hb0:=hno (fun h=>by have:=(h hz).1;rw [hr] at this;cases this)
    subst hb0
    clear hb hno h2
    rw [hr] at hir
    (refine az hir ?_;repeat' first|apply ai|refine aj fun hc=>?_)
    refine aU ?_
    exact af rfl rfl
   | true=>
    rw [hr] at hir
    by_cases h0:0 < z
    ·obtain ⟨q,rfl⟩:∃ q,z = q + 1:=⟨z - 1,by omega⟩
     have hqE:((q + 1:Nat):Int) - 1 = (q:Nat):=by omega
     have hrq:=(bT _).1 ((h2 q (by omega)) (by omega)).1
     have hcm:=eN l[q].hi l[q + 1].lo (by omega)
     cases ho:l[q].op with
     | true=>
      have hb0:=hno (fun h=>by have:=((h hz).2 h0).1;rw [show l[q + 1 - 1] = l[q] from rfl,ho] at this;cases this)
      subst hb0
      clear hb hno h2 hrq
      (refine bi hqE hir hcm ?_;repeat' first|apply ai|refine aj fun hc=>?_)
      all_goals first|(exfalso;simp_all;done)|skip
      refine aU ?_
      exact af rfl rfl
     | false=>
      by_cases hlt:bu l[q].hi l[q + 1].lo < 0
      ·have hok:tQ l (q + 1):=fun _=>⟨hr,fun _=>⟨ho,hlt⟩⟩
       clear hb hno hrq
       (refine bi hqE hir hcm ?_;repeat' first|apply ai|refine aj fun hc=>?_)
       all_goals first|(exfalso;simp_all;done)|skip
       refine ⟨q + 1 + 1,⟨by omega,fun i hi=>?_⟩,by omega,?_⟩
       ·rcases Nat.lt_or_ge i (q + 1) with q'|q'
        ·exact h2 i q'
        ·obtain rfl:i = q + 1:=by omega
         exact hok
       ·exact ae
      ·have hb0:=hno (fun h=>hlt ((h hz).2 h0).2)
       subst hb0
       clear hb hno h2 hrq
       (refine bi hqE hir hcm ?_;repeat' first|apply ai|refine aj fun hc=>?_)
       all_goals first|(exfalso;simp_all;done)|skip
       refine aU ?_
       exact af rfl rfl
    ·have hok:tQ l z:=fun _=>⟨hr,fun h=>absurd h h0⟩
     clear hb hno
     (refine az hir ?_;repeat' first|apply ai|refine aj fun hc=>?_)
     refine ⟨z + 1,⟨by omega,fun i hi=>?_⟩,by omega,?_⟩
     ·rcases Nat.lt_or_ge i z with q|q
      ·exact h2 i q
      ·obtain rfl:i = z:=by omega
       exact hok
     ·exact ae
  ·have hb1:b = true:=hb.2 (fun i=>by
    rcases Nat.lt_or_ge i z with q|q
    ·exact h2 i q
    ·exact fun h=>by omega)
   subst hb1
   clear hb h2
   (refine w0 ?_;repeat' first|apply ai|refine aj fun hc=>?_)
   refine aU ?_
   exact af rfl rfl
theorem AJ (l:List Rg) (hl:l.length ≤ 1000000000) (b:Bool) (hb:b = true ↔ dr l):Fn Tryz.prog 48 [dS l] (cw b):=by
 refine fi Tryz.func48 Tryz.ntmps48 ?_
 (refine w0 ?_;repeat' first|apply ai|refine aj fun hc=>?_)
 refine an (X:=Nat) (fun z=>z ≤ l.length ∧ ∀ i,i < z → tQ l i)
  (fun z=>ba [(0,dS l),(3,iC .i64 (z:Nat))] []) (fun z=>l.length - z) 0 ⟨Nat.zero_le _,fun i h=>absurd h (Nat.not_lt_zero _)⟩ ?_ ?_
 ·exact ae
 ·rintro z ⟨h1,h2⟩
  by_cases hz:z < l.length
  ·have hir:=jz l[z]
   have hno:¬ tQ l z → b = false:=fun h=>by rw [← Bool.not_eq_true,hb];exact fun q=>h (q z)
   cases hr:eO l[z] with
   | false=>
    have hb0:=hno (fun h=>by have:=(h hz).1;rw [hr] at this;cases this)
    subst hb0
    clear hb hno h2
    rw [hr] at hir
    (refine az hir ?_;repeat' first|apply ai|refine aj fun hc=>?_)
    refine aU ?_
    exact af rfl rfl
   | true=>
    rw [hr] at hir
    by_cases h0:0 < z
    ·obtain ⟨q,rfl⟩:∃ q,z = q + 1:=⟨z - 1,by omega⟩
     have hqE:((q + 1:Nat):Int) - 1 = (q:Nat):=by omega
     have hrq:=(bT _).1 ((h2 q (by omega)) (by omega)).1
     have hcm:=eZ l[q].hi l[q + 1].lo (by omega)
     cases ho:l[q].op with
     | true=>
      have hb0:=hno (fun h=>by have:=((h hz).2 h0).1;rw [show l[q + 1 - 1] = l[q] from rfl,ho] at this;cases this)
      subst hb0
      clear hb hno h2 hrq
      (refine bi hqE hir hcm ?_;repeat' first|apply ai|refine aj fun hc=>?_)
      all_goals first|(exfalso;simp_all;done)|skip
      refine aU ?_
      exact af rfl rfl
     | false=>
      by_cases hlt:bu l[q].hi l[q + 1].lo < 0
      ·have hok:tQ l (q + 1):=fun _=>⟨hr,fun _=>⟨ho,hlt⟩⟩
       rw [decide_eq_true hlt] at hcm
       clear hb hno hrq
       (refine bi hqE hir hcm ?_;repeat' first|apply ai|refine aj fun hc=>?_)
       all_goals first|(exfalso;simp_all;done)|skip
       refine ⟨q + 1 + 1,⟨by omega,fun i hi=>?_⟩,by omega,?_⟩
       ·rcases Nat.lt_or_ge i (q + 1) with q'|q'
        ·exact h2 i q'
        ·obtain rfl:i = q + 1:=by omega
         exact hok
       ·exact ae
      ·have hb0:=hno (fun h=>hlt ((h hz).2 h0).2)
       rw [decide_eq_false hlt] at hcm
       subst hb0
       clear hb hno h2 hrq
       (refine bi hqE hir hcm ?_;repeat' first|apply ai|refine aj fun hc=>?_)
       all_goals first|(exfalso;simp_all;done)|skip
       refine aU ?_
       exact af rfl rfl
    ·have hok:tQ l z:=fun _=>⟨hr,fun h=>absurd h h0⟩
     clear hb hno
     (refine az hir ?_;repeat' first|apply ai|refine aj fun hc=>?_)
     refine ⟨z + 1,⟨by omega,fun i hi=>?_⟩,by omega,?_⟩
     ·rcases Nat.lt_or_ge i z with q|q
      ·exact h2 i q
      ·obtain rfl:i = z:=by omega
       exact hok
     ·exact ae
  ·have hb1:b = true:=hb.2 (fun i=>by
    rcases Nat.lt_or_ge i z with q|q
    ·exact h2 i q
    ·exact fun h=>by omega)
   subst hb1
   clear hb h2
   (refine w0 ?_;repeat' first|apply ai|refine aj fun hc=>?_)
   refine aU ?_
   exact af rfl rfl
end
theorem yg {α:Type} {P:List α → Prop} (h0:P []) (h1:∀ l x,P l → P (l ++ [x])):∀ l,P l:=by
 intro l
 have:∀ r:List α,P r.reverse:=by
  intro r
  induction r with
  | nil=>exact h0
  | cons x r ih=>rw [List.reverse_cons];exact h1 _ _ ih
 simpa using this l.reverse
section
end
section
def AK (x:Rg):Bool:=decide (x.lo.size > 40) || decide (x.hi.size > 40)
def iU (l:List Rg) (most:Int):Bool:=decide ((l.length:Int) > most) || l.any AK
theorem yi (l:List Rg) (most:Int) (hl:most ≤ 1000000000000):Fn Tryz.prog 7 [dS l,iC .i64 most] (cw (iU l most)):=by
 refine fi Tryz.func7 Tryz.ntmps7 ?_
 (refine wH ?_;repeat' first|apply ai|refine aj fun hc=>?_)
 ·refine aU ?_
  exact af rfl (by unfold iU;rw [decide_eq_true hc];rfl)
 refine an (fun k=>k ≤ l.length ∧ (l.take k).any AK = false) (fun k=>ba [(0,dS l),(1,iC .i64 most),(4,bC false),(5,iC .i64 (k:Nat))] []) (fun k=>l.length - k) 0 ⟨Nat.zero_le _,by simp⟩ ?_ ?_
 ·exact ae
 ·rintro k ⟨hk,hpre⟩
  by_cases hlt:k < l.length
  ·have hsn:(l.take (k + 1)).any AK = ((l.take k).any AK || AK l[k]):=by rw [aJ l k hlt,List.any_append];simp
   (refine wH ?_;repeat' first|apply ai|refine aj fun hc=>?_)
   ·refine aU ?_
    exact af rfl (by symm;unfold iU;rw [Bool.or_eq_true,List.any_eq_true];refine .inr ⟨l[k],List.getElem_mem hlt,?_⟩;grind [AK])
   ·refine ⟨k + 1,⟨by omega,?_⟩,by omega,?_⟩
    ·rw [hsn,hpre];grind [AK]
    ·exact ae
  ·(refine wH ?_;repeat' first|apply ai|refine aj fun hc=>?_)
   refine aU ?_
   have e:l.take k = l:=List.take_of_length_le (by omega)
   rw [e] at hpre
   exact af rfl (by symm;unfold iU;rw [hpre,Bool.or_false,decide_eq_false_iff_not];assumption)
end
def s0:ByteArray:=⟨#[]⟩
section
end
theorem vO {l:List Rg} (h:dr l) {i:Nat} (hi:i < l.length):eO l[i] = true:=(h i hi).1
section
end
end Go.Proofs.YtliiahjpiagdkaaGreat
