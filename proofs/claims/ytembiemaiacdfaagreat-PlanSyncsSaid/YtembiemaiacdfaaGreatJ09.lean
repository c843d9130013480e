/- Texts joined: Ic RefIt Cmp Rg Nd. -/
import Derived.Test.YtembiemaiacdfaaGreatJ08
import Derived.Test.YtembiemaiacdfaaGreatJ05
import Derived.Test.YtembiemaiacdfaaGreatJ04
set_option maxRecDepth 10000
set_option maxHeartbeats 8000000
namespace Go.Proofs.YtembiemaiacdfaaGreat
open Go.RowKit
def jz (x:It):List Int:=[x.rep,x.cnt,x.rank,x.prio,if x.dead then 1 else 0]
def Al (x:It):List UInt8:=(jz x).flatMap g8 ++ fq x.body
def KD (x:It):List UInt8:=if itR x then fq x.key ++ Al x else []
theorem pW {x:It} (h:itR x = true):(∀ n ∈ jz x,fC n) ∧ x.body.size ≤ 64 ∧ 1 ≤ x.key.size ∧ x.key.size ≤ 16:=by
 simp only [itR,eu,cI,Bool.and_eq_true,decide_eq_true_eq] at h
 obtain ⟨⟨h1,h2⟩,h3⟩:=h
 refine ⟨?_,by omega,by omega,by omega⟩
 intro n hn
 simp only [jz,List.mem_cons,List.not_mem_nil,or_false] at hn
 unfold fC
 rcases hn with rfl|rfl|rfl|rfl|rfl
 · omega
 · omega
 · omega
 · omega
 · split <;> omega
theorem sc (s:ByteArray) (h:s.size ≤ 127):(fq s).length = 1 + s.size:=by
 unfold fq;rw [kc (by omega)];simp;omega
theorem lJ (l:List UInt8) (ns:List Int) (hb:l.length + 9 * ns.length ≤ 1000000000000) (hok:∀ n ∈ ns,fC n) :
   Fn Tryz.prog 247 [iw l,vK ns] (yx (l ++ ns.flatMap g8)):=by
 refine fi Tryz.func247 Tryz.ntmps247 ?_
 (have kc1:=pV l ns hb hok;refine wH ?_;(repeat' first|refine W2.mk ?_ ?_|refine W1.mk fun hc=>?_);all_goals clear kc1)
 refine aQ ?_
 exact cv rfl rfl rfl
theorem yA (l:List UInt8) (x:It) (hr:itR x = true) (hb:l.length ≤ 1000000) :
   Fn Tryz.prog 209 [iw l,uK x] (yx (l ++ Al x)):=by
 obtain ⟨hnums,hbody,_,_⟩:=pW hr
 have hlen:=pU _ hnums
 have htl:=sc x.body (by omega)
 obtain ⟨key,rep,cnt,rank,prio,dead,body⟩:=x
 cases dead
 all_goals
   simp only [jz,Bool.false_eq_true,if_true,if_false] at hnums hlen hbody htl
 · have p2:=kR (l ++ ([rep,cnt,rank,prio,0]:List Int).flatMap g8) [body] (by rw [List.length_append];simp at *;omega)
   refine fi Tryz.func209 Tryz.ntmps209 ?_
   (have kc1:=p2;refine wH ?_;(repeat' (first|refine W2.mk ?_ ?_|refine W1.mk fun hc=>?_|((first|apply aD rfl|apply aF rfl|apply aG rfl|apply aH rfl);(focus (first|exact oP (lJ l _ (by simp;omega) hnums)|(apply bx;(focus rfl);apply ag rfl rfl rfl rfl rfl;first|exact oP (lJ l _ (by simp;omega) hnums))));refine wH ?_)));all_goals clear kc1)
   refine aQ ?_
   exact dq rfl rfl rfl (by simp [Al,jz])
 · have p2:=kR (l ++ ([rep,cnt,rank,prio,1]:List Int).flatMap g8) [body] (by rw [List.length_append];simp at *;omega)
   refine fi Tryz.func209 Tryz.ntmps209 ?_
   (have kc1:=p2;refine wH ?_;(repeat' (first|refine W2.mk ?_ ?_|refine W1.mk fun hc=>?_|((first|apply aD rfl|apply aF rfl|apply aG rfl|apply aH rfl);(focus (first|exact oP (lJ l _ (by simp;omega) hnums)|(apply bx;(focus rfl);apply ag rfl rfl rfl rfl rfl;first|exact oP (lJ l _ (by simp;omega) hnums))));refine wH ?_)));all_goals clear kc1)
   refine aQ ?_
   exact dq rfl rfl rfl (by simp [Al,jz])
theorem yB (x:It):Fn Tryz.prog 185 [uK x] (.tup2 (yx (KD x)) (.per (aq (.int .i64 (if itR x then 0 else 2))))):=by
 by_cases hr:itR x = true
 · have hk:=(pW hr).2.2.2
   have htl:=sc x.key (by omega)
   refine fi Tryz.func185 Tryz.ntmps185 ?_
   (have kc1:=d0 x;have kc2:=kR [] [x.key] (by simp;omega);have kc3:=yA ([] ++ [x.key].flatMap fq) x hr (by simp;omega);refine wH ?_;(repeat' first|refine W2.mk ?_ ?_|refine W1.mk fun hc=>?_);all_goals clear kc3 kc2 kc1)
   all_goals refine j8 ?_ ?_
   · exact dq rfl rfl rfl (by simp [KD,hr])
   · exact aA rfl (by simp [hr])
 · rw [KD,if_neg hr,if_neg hr]
   refine fi Tryz.func185 Tryz.ntmps185 ?_
   (have kc1:=d0 x;refine wH ?_;(repeat' first|refine W2.mk ?_ ?_|refine W1.mk fun hc=>?_);all_goals clear kc1)
   all_goals refine j8 ?_ ?_
   · exact tC rfl
   · exact aA rfl rfl
theorem ev (x:It):Fn Tryz.prog 139 [uK x] (.per (aq (.int .i64 ((KD x).length:Nat)))):=by
 refine fi Tryz.func139 Tryz.ntmps139 ?_
 (have kc1:=yB x;refine wH ?_;(repeat' first|refine W2.mk ?_ ?_|refine W1.mk fun hc=>?_);all_goals clear kc1)
 refine aQ ?_
 exact aA rfl (by simp)
theorem aJ {α:Type} (l:List α) (k:Nat) (h:k < l.length):l.take (k + 1) = l.take k ++ [l[k]]:=by rw [List.take_succ_eq_append_getElem h]
abbrev cG (l:List It):PV:=ct 7 (l.map itP)
abbrev di (l:List It):Cnt:=.bor 7 (l.map itP)
def Mw (x y:It):Bool:=(x.key == y.key) && (((x.rep == y.rep) && ((x.cnt == y.cnt) && true)) && ((x.rank == y.rank) && ((x.prio == y.prio) && ((x.dead == y.dead) && ((x.body == y.body) && true)))))
theorem gK (s u:ByteArray):(s == u) = true ↔ s = u:=by
 rw [beq_toListBytes,beq_iff_eq,jV,jV,Array.toList_inj]
 exact ⟨fun h=>by cases s;cases u;simp_all,fun h=>by rw [h]⟩
theorem Am (x y:It):Mw x y = true ↔ x = y:=by
 obtain ⟨a,b,c,d,e,f,g⟩:=x
 obtain ⟨a',b',c',d',e',f',g'⟩:=y
 simp only [Mw,Bool.and_eq_true,gK,beq_iff_eq,and_true,It.mk.injEq]
 constructor
 · rintro ⟨h1,⟨h2,h3⟩,h4,h5,h6,h7⟩;exact ⟨h1,h2,h3,h4,h5,h6,h7⟩
 · rintro ⟨h1,h2,h3,h4,h5,h6,h7⟩;exact ⟨h1,⟨h2,h3⟩,h4,h5,h6,h7⟩
theorem J1 (x y:It):Ab Tryz.prog 10000 61 (encIt x) (encIt y) = some (Mw x y):=by kernel_rfl
theorem ML:Tryz.prog.eqGuardType Tryz.prog.depth 61 = false:=by kernel_rfl
theorem B0 (l m:List It) (hl:l.length ≤ 1000000000):Fn Tryz.prog 26 [di l,di m] (bO (decide (l = m))):=by
 refine fi Tryz.func26 Tryz.ntmps26 ?_
 (refine wH ?_;(repeat' first|refine W2.mk ?_ ?_|refine W1.mk fun hc=>?_))
 · refine aQ ?_
   exact af rfl (by symm;rw [decide_eq_false_iff_not];intro h;subst h;omega)
 have hlm:l.length = m.length:=by omega
 refine ah (fun k=>k ≤ l.length ∧ l.take k = m.take k) (fun k=>aN [(0,di l),(1,di m),(4,bC false),(5,iC .i64 (k:Nat))] []) (fun k=>l.length - k) 0 ⟨Nat.zero_le _,rfl⟩ ?_ ?_
 · exact ab
 · rintro k ⟨hk,hpre⟩
   by_cases hlt:k < l.length
   · have hltm:k < m.length:=by omega
     (refine wH ?_;(repeat' (first|refine W2.mk ?_ ?_|refine W1.mk fun hc=>?_|((first|apply aD rfl|apply aF rfl|apply aG rfl|apply aH rfl);(focus (first|(exact bJ (us:=encIt l[k]) (vs:=encIt m[k]) ⟨rfl,rfl,rfl⟩ rfl rfl rfl (.inr ⟨rfl,rfl⟩) ML rfl (J1 l[k] m[k]))|(apply bx;(focus rfl);apply ag rfl rfl rfl rfl rfl;first|(exact bJ (us:=encIt l[k]) (vs:=encIt m[k]) ⟨rfl,rfl,rfl⟩ rfl rfl rfl (.inr ⟨rfl,rfl⟩) ML rfl (J1 l[k] m[k])))));refine wH ?_))))
     · refine aQ ?_
       exact af rfl (by symm;rw [decide_eq_false_iff_not];intro h;subst h;simp [(Am l[k] l[k]).2 rfl] at *)
     · refine ⟨k + 1,⟨by omega,?_⟩,by omega,?_⟩
       · rw [aJ l k hlt,aJ m k hltm,hpre,(Am l[k] m[k]).1 (by simpa using hc)]
       · exact ab
   · (refine wH ?_;(repeat' first|refine W2.mk ?_ ?_|refine W1.mk fun hc=>?_))
     refine aQ ?_
     exact af rfl (by symm;rw [decide_eq_true_eq,← List.take_of_length_le (show l.length ≤ k by omega),hpre,List.take_of_length_le (by omega)])
def J2 (x:It):Bool:=decide (x.key.size > 60) || decide (x.body.size > 200)
def oQ (l:List It) (most:Int):Bool:=decide ((l.length:Int) > most) || l.any J2
theorem EP (l:List It) (k:Nat) (h:k < l.length):(l.take (k + 1)).any J2 = ((l.take k).any J2 || J2 l[k]):=by rw [aJ l k h,List.any_append];simp
theorem B1 (l:List It) (most:Int) (hl:most ≤ 1000000000000):Fn Tryz.prog 35 [di l,iC .i64 most] (bO (oQ l most)):=by
 refine fi Tryz.func35 Tryz.ntmps35 ?_
 (refine wH ?_;(repeat' first|refine W2.mk ?_ ?_|refine W1.mk fun hc=>?_))
 · refine aQ ?_
   exact af rfl (by unfold oQ;rw [decide_eq_true hc];rfl)
 refine ah (fun k=>k ≤ l.length ∧ (l.take k).any J2 = false) (fun k=>aN [(0,di l),(1,iC .i64 most),(4,bC false),(5,iC .i64 (k:Nat))] []) (fun k=>l.length - k) 0 ⟨Nat.zero_le _,rfl⟩ ?_ ?_
 · exact ab
 · rintro k ⟨hk,hpre⟩
   by_cases hlt:k < l.length
   · have hsn:=EP l k hlt
     (refine wH ?_;(repeat' first|refine W2.mk ?_ ?_|refine W1.mk fun hc=>?_))
     · refine aQ ?_
       exact af rfl (by symm;unfold oQ;rw [Bool.or_eq_true,List.any_eq_true];refine .inr ⟨l[k],List.getElem_mem hlt,?_⟩;grind [J2])
     · refine ⟨k + 1,⟨by omega,?_⟩,by omega,?_⟩
       · rw [hsn,hpre];grind [J2]
       · exact ab
   · (refine wH ?_;(repeat' first|refine W2.mk ?_ ?_|refine W1.mk fun hc=>?_))
     refine aQ ?_
     have e:l.take k = l:=List.take_of_length_le (by omega)
     rw [e] at hpre
     exact af rfl (by symm;unfold oQ;rw [hpre,Bool.or_false,decide_eq_false_iff_not];assumption)
def cp:List UInt8 → List UInt8 → Int
 | [],[]=>0
 | [],_ :: _=>-1
 | _ :: _,[]=>1
 | x :: a,y :: b=>if x.toNat < y.toNat then -1 else if y.toNat < x.toNat then 1 else cp a b
def bG (s t:ByteArray):Int:=cp s.data.toList t.data.toList
theorem n8 (a b:List UInt8) (k:Nat) (h1:k < a.length) (h2:k < b.length):cp (a.drop k) (b.drop k) = if a[k].toNat < b[k].toNat then -1 else if b[k].toNat < a[k].toNat then 1 else cp (a.drop (k + 1)) (b.drop (k + 1)):=by
 rw [List.drop_eq_getElem_cons h1,List.drop_eq_getElem_cons h2,cp]
theorem pY (a b:List UInt8) (k:Nat) (h:a.length ≤ k ∨ b.length ≤ k) (h1:k ≤ a.length) (h2:k ≤ b.length):cp (a.drop k) (b.drop k) = if a.length < b.length then -1 else if a.length > b.length then 1 else 0:=by
 by_cases e1:a.length ≤ k
 · rw [List.drop_eq_nil_of_le e1]
   by_cases e2:b.length ≤ k
   · rw [List.drop_eq_nil_of_le e2,cp,if_neg (by omega),if_neg (by omega)]
   · rw [List.drop_eq_getElem_cons (by omega:k < b.length),cp,if_pos (by omega)]
 · have e2:b.length ≤ k:=by omega
   rw [List.drop_eq_nil_of_le e2,List.drop_eq_getElem_cons (by omega:k < a.length),cp,if_neg (by omega),if_pos (by omega)]
def vR (r c r' c':Int):Int:=if r = r' ∧ c = c' then 0 else if r < r' ∨ r = r' ∧ c < c' then -1 else 1
def mW (x y:It):Int:=if x.rank > y.rank then 1 else if x.rank < y.rank then -1 else vR x.rep x.cnt y.rep y.cnt
def vS (x y:It):Bool:=decide (mW x y > 0)
section
theorem e7 (s t:ByteArray) (hs:s.size ≤ 1000000000000):Fn Tryz.prog 120 [sC s,sC t] (fL (bG s t)):=by
 generalize hR:bG s t = R
 refine fi Tryz.func120 Tryz.ntmps120 ?_
 (refine w0 ?_;(repeat' first|refine W2.mk ?_ ?_|refine W1.mk fun hc=>?_))
 refine ah (fun k=>k ≤ s.size ∧ k ≤ t.size ∧ cp (s.data.toList.drop k) (t.data.toList.drop k) = R) (fun k=>aN [(0,sC s),(1,sC t),(10,iC .i64 (min (s.size:Int) (t.size:Int))),(11,iC .i64 (k:Nat))] []) (fun k=>s.size - k) 0 ⟨Nat.zero_le _,Nat.zero_le _,hR⟩ ?_ ?_
 · exact ab
 · rintro k ⟨h1,h2,h3⟩
   have hst:=n8 s.data.toList t.data.toList k
   have hen:=pY s.data.toList t.data.toList k
   simp only [te] at hst hen
   rw [h3] at hst hen
   by_cases hk:k < s.size ∧ k < t.size
   · have hst:=hst hk.1 hk.2
     have hm:(k:Int) < min (s.size:Int) (t.size:Int):=by omega
     (refine w0 ?_;(repeat' first|refine W2.mk ?_ ?_|refine W1.mk fun hc=>?_))
     · rw [if_pos (by omega)] at hst
       refine aQ ?_
       exact aA rfl hst.symm
     · rw [if_neg (by omega),if_pos (by omega)] at hst
       refine aQ ?_
       exact aA rfl hst.symm
     · rw [if_neg (by omega),if_neg (by omega)] at hst
       refine ⟨k + 1,⟨by omega,by omega,hst.symm⟩,by omega,?_⟩
       exact ab
   · have hen:=hen (by omega) h1 h2
     have hm:¬ (k:Int) < min (s.size:Int) (t.size:Int):=by omega
     (refine w0 ?_;(repeat' first|refine W2.mk ?_ ?_|refine W1.mk fun hc=>?_))
     all_goals refine aQ ?_
     · rw [if_pos (by omega)] at hen
       exact aA rfl hen.symm
     · rw [if_neg (by omega),if_pos (by omega)] at hen
       exact aA rfl hen.symm
     · rw [if_neg (by omega),if_neg (by omega)] at hen
       exact aA rfl hen.symm
theorem eR (s t:ByteArray) (hs:s.size ≤ 1000000000000):Fn Tryz.prog 72 [sC s,sC t] (bO (decide (bG s t < 0))):=by
 generalize hR:bG s t = R
 refine fi Tryz.func72 Tryz.ntmps72 ?_
 (refine w0 ?_;(repeat' first|refine W2.mk ?_ ?_|refine W1.mk fun hc=>?_))
 refine ah (fun k=>k ≤ s.size ∧ k ≤ t.size ∧ cp (s.data.toList.drop k) (t.data.toList.drop k) = R) (fun k=>aN [(0,sC s),(1,sC t),(5,iC .i64 (k:Nat))] []) (fun k=>s.size - k) 0 ⟨Nat.zero_le _,Nat.zero_le _,hR⟩ ?_ ?_
 · exact ab
 · rintro k ⟨h1,h2,h3⟩
   have hst:=n8 s.data.toList t.data.toList k
   have hen:=pY s.data.toList t.data.toList k
   simp only [te] at hst hen
   rw [h3] at hst hen
   by_cases hk:k < s.size ∧ k < t.size
   · have hst:=hst hk.1 hk.2
     (refine w0 ?_;(repeat' first|refine W2.mk ?_ ?_|refine W1.mk fun hc=>?_))
     · refine aQ ?_
       refine af rfl ?_
       rw [hst]
       clear hst hen h3
       generalize (s.data.toList[k]'(by simpa using hk.1)).toNat = x at *
       generalize (t.data.toList[k]'(by simpa using hk.2)).toNat = y at *
       split
       · rw [decide_eq_true (by omega),decide_eq_true (by omega)]
       · rw [if_pos (by omega),decide_eq_false (by omega),decide_eq_false (by omega)]
     · rw [if_neg (by omega),if_neg (by omega)] at hst
       refine ⟨k + 1,⟨by omega,by omega,hst.symm⟩,by omega,?_⟩
       exact ab
   · have hen:=hen (by omega) h1 h2
     (refine w0 ?_;(repeat' first|refine W2.mk ?_ ?_|refine W1.mk fun hc=>?_))
     all_goals refine aQ ?_
     all_goals refine af rfl ?_
     · rw [hen,if_neg (by omega)]
       split <;> simp
     · rw [hen]
       split
       · simp;omega
       · split <;> (simp;omega)
theorem tM (r c r' c':Int):Ab Tryz.prog 10000 59 [.int .i64 r,.int .i64 c] [.int .i64 r',.int .i64 c'] = some (decide (r = r') && (decide (c = c') && true)):=by kernel_rfl
theorem mX:Tryz.prog.eqGuardType Tryz.prog.depth 59 = false:=by kernel_rfl
theorem IM (r c r' c':Int):Fn Tryz.prog 174 [lZ r c,lZ r' c'] (fL (vR r c r' c')):=by
 have hE:=tM r c r' c'
 refine fi Tryz.func174 Tryz.ntmps174 ?_
 (refine w0 ?_;(repeat' (first|refine W2.mk ?_ ?_|refine W1.mk fun hc=>?_|((first|apply aD rfl|apply aF rfl|apply aG rfl|apply aH rfl);(focus (first|(exact bJ (us:=[.int .i64 r,.int .i64 c]) (vs:=[.int .i64 r',.int .i64 c']) ⟨rfl,rfl,rfl⟩ rfl rfl rfl (by first|exact .inl ⟨rfl,rfl⟩|exact .inr ⟨rfl,rfl⟩) mX rfl hE)|(apply bx;(focus rfl);apply ag rfl rfl rfl rfl rfl;first|(exact bJ (us:=[.int .i64 r,.int .i64 c]) (vs:=[.int .i64 r',.int .i64 c']) ⟨rfl,rfl,rfl⟩ rfl rfl rfl (by first|exact .inl ⟨rfl,rfl⟩|exact .inr ⟨rfl,rfl⟩) mX rfl hE))));refine w0 ?_))))
 all_goals refine aQ ?_
 all_goals refine aA rfl ?_
 all_goals unfold vR
 all_goals grind
theorem ER (x y:It):Fn Tryz.prog 128 [uK x,uK y] (fL (mW x y)):=by
 have h1:=IM x.rep x.cnt y.rep y.cnt
 refine fi Tryz.func128 Tryz.ntmps128 ?_
 (have kc1:=h1;refine w0 ?_;(repeat' first|refine W2.mk ?_ ?_|refine W1.mk fun hc=>?_);all_goals clear kc1)
 all_goals refine aQ ?_
 all_goals refine aA rfl ?_
 · unfold mW;rw [if_pos (by omega)]
 · unfold mW;rw [if_neg (by omega),if_pos (by omega)]
 · unfold mW;rw [if_neg (by omega),if_neg (by omega)]
theorem yC (r c r' c':Int):Fn Tryz.prog 162 [lZ r c,lZ r' c'] (bO (decide (r < r' ∨ r = r' ∧ c < c'))):=by
 refine fi Tryz.func162 Tryz.ntmps162 ?_
 (refine w0 ?_;(repeat' first|refine W2.mk ?_ ?_|refine W1.mk fun hc=>?_))
 all_goals refine aQ ?_
 all_goals refine af rfl ?_
 all_goals grind
theorem se (x y:It):Fn Tryz.prog 117 [uK x,uK y] (bO (vS x y)):=by
 have h1:=yC y.rep y.cnt x.rep x.cnt
 refine fi Tryz.func117 Tryz.ntmps117 ?_
 (have kc1:=h1;refine w0 ?_;(repeat' first|refine W2.mk ?_ ?_|refine W1.mk fun hc=>?_);all_goals clear kc1)
 all_goals refine aQ ?_
 all_goals refine af rfl ?_
 all_goals unfold vS mW vR
 all_goals grind
end
structure Rg where
 lo:ByteArray
 hi:ByteArray
 op:Bool
deriving DecidableEq
def encRg (r:Rg):List Value:=[.string r.lo,.string r.hi,.bool r.op]
theorem pZ:Dn 3 encRg:=⟨by decide,fun _=>rfl,fun x u hu=>by
 simp only [encRg,List.mem_cons,List.not_mem_nil,or_false] at hu
 rcases hu with rfl|rfl|rfl <;> rfl⟩
abbrev rgP (r:Rg):List PV:=[aq (.string r.lo),aq (.string r.hi),aq (.bool r.op)]
abbrev Hs (r:Rg):Cnt:=.per (bP (rgP r))
abbrev eB (l:List Rg):PV:=ct 3 (l.map rgP)
abbrev dg (l:List Rg):Cnt:=.bor 3 (l.map rgP)
def Ls (x y:Rg):Bool:=(x.lo == y.lo) && ((x.hi == y.hi) && ((x.op == y.op) && true))
theorem kd (x y:Rg):Ls x y = true ↔ x = y:=by
 obtain ⟨a,b,c⟩:=x
 obtain ⟨a',b',c'⟩:=y
 simp only [Ls,Bool.and_eq_true,gK,beq_iff_eq,and_true,Rg.mk.injEq]
theorem vT (x y:Rg):Ab Tryz.prog 10000 82 (encRg x) (encRg y) = some (Ls x y):=by kernel_rfl
theorem xN:Tryz.prog.eqGuardType Tryz.prog.depth 82 = false:=by kernel_rfl
theorem gz (s u:ByteArray):s.toList = u.toList ↔ s = u:=by
 rw [← gK,beq_toListBytes,beq_iff_eq]
def e0:ByteArray:=⟨#[]⟩
def eJ (r:Rg):Bool:=decide (r.lo.size ≤ 17 ∧ r.hi.size ≤ 17 ∧ (if r.op = true then r.hi = e0 else bG r.lo r.hi < 0))
theorem bH (r:Rg):eJ r = true ↔ r.lo.size ≤ 17 ∧ r.hi.size ≤ 17 ∧ (if r.op = true then r.hi = e0 else bG r.lo r.hi < 0):=by
 unfold eJ;exact decide_eq_true_iff
def rI (l:List Rg) (i:Nat):Prop:=∀ h:i < l.length,eJ l[i] = true ∧ ∀ h0:0 < i,l[i - 1].op = false ∧ bG l[i - 1].hi l[i].lo < 0
def cV (l:List Rg):Prop:=∀ i,rI l i
section
theorem vU (s:ByteArray):Fn Tryz.prog 165 [sC s] (bO (decide (s.size ≤ 17))):=by
 refine fi Tryz.func165 Tryz.ntmps165 ?_
 (refine w0 ?_;(repeat' first|refine W2.mk ?_ ?_|refine W1.mk fun hc=>?_))
 refine aQ ?_
 exact af rfl (by simp;omega)
theorem fd (r:Rg):Fn Tryz.prog 121 [Hs r] (bO (eJ r)):=by
 obtain ⟨lo,hi,op⟩:=r
 have h1:=vU lo
 have h2:=vU hi
 have hR:=bH ⟨lo,hi,op⟩
 generalize eJ ⟨lo,hi,op⟩ = b at *
 simp only at hR
 show Fn Tryz.prog _ [.per (bP [aq (.string lo),aq (.string hi),aq (.bool op)])] (bO b)
 by_cases hl:lo.size ≤ 17
 · by_cases hh:hi.size ≤ 17
   · rw [decide_eq_true hl] at h1
     rw [decide_eq_true hh] at h2
     cases op with
     | true=>
       have hE:=vT ⟨lo,hi,true⟩ ⟨lo,e0,true⟩
       have hI:=kd ⟨lo,hi,true⟩ ⟨lo,e0,true⟩
       generalize Ls ⟨lo,hi,true⟩ ⟨lo,e0,true⟩ = q at *
       refine fi Tryz.func121 Tryz.ntmps121 ?_
       (have kc1:=h1;have kc2:=h2;refine w0 ?_;(repeat' (first|refine W2.mk ?_ ?_|refine W1.mk fun hc=>?_|((first|apply aD rfl|apply aF rfl|apply aG rfl|apply aH rfl);(focus (first|(exact bJ (us:=encRg ⟨lo,hi,true⟩) (vs:=encRg ⟨lo,e0,true⟩) ⟨rfl,rfl,rfl⟩ rfl rfl rfl (by first|exact .inl ⟨rfl,rfl⟩|exact .inr ⟨rfl,rfl⟩) xN rfl hE)|(apply bx;(focus rfl);apply ag rfl rfl rfl rfl rfl;first|(exact bJ (us:=encRg ⟨lo,hi,true⟩) (vs:=encRg ⟨lo,e0,true⟩) ⟨rfl,rfl,rfl⟩ rfl rfl rfl (by first|exact .inl ⟨rfl,rfl⟩|exact .inr ⟨rfl,rfl⟩) xN rfl hE))));refine w0 ?_)));all_goals clear kc2 kc1)
       refine aQ ?_
       refine af rfl ?_
       rw [show (q != false) = q by cases q <;> rfl,Bool.eq_iff_iff,hI,hR]
       simp [hl,hh]
     | false=>
       have h3:=e7 lo hi (by omega)
       refine fi Tryz.func121 Tryz.ntmps121 ?_
       (have kc1:=h1;have kc2:=h2;have kc3:=h3;refine w0 ?_;(repeat' first|refine W2.mk ?_ ?_|refine W1.mk fun hc=>?_);all_goals clear kc3 kc2 kc1)
       refine aQ ?_
       refine af rfl ?_
       rw [Bool.eq_iff_iff,hR]
       simp [hl,hh]
   · rw [decide_eq_true hl] at h1
     rw [decide_eq_false hh] at h2
     have hr:b = false:=by rw [← Bool.not_eq_true,hR];exact fun h=>hh h.2.1
     rw [hr]
     clear hR
     refine fi Tryz.func121 Tryz.ntmps121 ?_
     (have kc1:=h1;have kc2:=h2;refine w0 ?_;(repeat' first|refine W2.mk ?_ ?_|refine W1.mk fun hc=>?_);all_goals clear kc2 kc1)
     refine aQ ?_
     exact af rfl rfl
 · rw [decide_eq_false hl] at h1
   have hr:b = false:=by rw [← Bool.not_eq_true,hR];exact fun h=>hl h.1
   rw [hr]
   clear hR
   refine fi Tryz.func121 Tryz.ntmps121 ?_
   (have kc1:=h1;refine w0 ?_;(repeat' first|refine W2.mk ?_ ?_|refine W1.mk fun hc=>?_);all_goals clear kc1)
   refine aQ ?_
   exact af rfl rfl
theorem jb (r:Rg):Fn Tryz.prog 83 [Hs r] (bO (eJ r)):=by
 obtain ⟨lo,hi,op⟩:=r
 have hR:=bH ⟨lo,hi,op⟩
 generalize eJ ⟨lo,hi,op⟩ = b at *
 simp only at hR
 show Fn Tryz.prog _ [.per (bP [aq (.string lo),aq (.string hi),aq (.bool op)])] (bO b)
 by_cases hl:lo.size ≤ 17
 · by_cases hh:hi.size ≤ 17
   · cases op with
     | true=>
       refine fi Tryz.func83 Tryz.ntmps83 ?_
       (refine w0 ?_;(repeat' first|refine W2.mk ?_ ?_|refine W1.mk fun hc=>?_))
       refine aQ ?_
       refine af rfl ?_
       rw [Bool.eq_iff_iff,hR,beq_iff_eq,gz]
       simp [hl,hh,e0]
     | false=>
       have h3:=eR lo hi (by omega)
       refine fi Tryz.func83 Tryz.ntmps83 ?_
       (have kc1:=h3;refine w0 ?_;(repeat' first|refine W2.mk ?_ ?_|refine W1.mk fun hc=>?_);all_goals clear kc1)
       refine aQ ?_
       refine af rfl ?_
       rw [Bool.eq_iff_iff,hR]
       simp [hl,hh]
   · have hr:b = false:=by rw [← Bool.not_eq_true,hR];exact fun h=>hh h.2.1
     rw [hr]
     clear hR
     refine fi Tryz.func83 Tryz.ntmps83 ?_
     (refine w0 ?_;(repeat' first|refine W2.mk ?_ ?_|refine W1.mk fun hc=>?_))
     refine aQ ?_
     exact af rfl rfl
 · have hr:b = false:=by rw [← Bool.not_eq_true,hR];exact fun h=>hl h.1
   rw [hr]
   clear hR
   refine fi Tryz.func83 Tryz.ntmps83 ?_
   (refine w0 ?_;(repeat' first|refine W2.mk ?_ ?_|refine W1.mk fun hc=>?_))
   refine aQ ?_
   exact af rfl rfl
theorem jA (l:List Rg) (hl:l.length ≤ 1000000000) (b:Bool) (hb:b = true ↔ cV l):Fn Tryz.prog 88 [dg l] (bO b):=by
 refine fi Tryz.func88 Tryz.ntmps88 ?_
 (refine w0 ?_;(repeat' first|refine W2.mk ?_ ?_|refine W1.mk fun hc=>?_))
 refine ah (X:=Nat) (fun z=>z ≤ l.length ∧ ∀ i,i < z → rI l i)
   (fun z=>aN [(0,dg l),(5,dg l),(6,iC .i64 (l.length:Nat)),(7,iC .i64 (z:Nat))] []) (fun z=>l.length - z) 0 ⟨Nat.zero_le _,fun i h=>absurd h (Nat.not_lt_zero _)⟩ ?_ ?_
 · exact ab
 · rintro z ⟨h1,h2⟩
   by_cases hz:z < l.length
   · have hir:=fd l[z]
     have hno:¬ rI l z → b = false:=fun h=>by rw [← Bool.not_eq_true,hb];exact fun q=>h (q z)
     cases hr:eJ l[z] with
     | false=>
       have hb0:=hno (fun h=>by have:=(h hz).1;rw [hr] at this;cases this)
       subst hb0
       clear hb hno h2
       rw [hr] at hir
       (have kc1:=hir;refine w0 ?_;(repeat' first|refine W2.mk ?_ ?_|refine W1.mk fun hc=>?_);all_goals clear kc1)
       refine aQ ?_
       exact af rfl rfl
     | true=>
       rw [hr] at hir
       by_cases h0:0 < z
       · obtain ⟨q,rfl⟩:∃ q,z = q + 1:=⟨z - 1,by omega⟩
         have hqE:((q + 1:Nat):Int) - 1 = (q:Nat):=by omega
         have hrq:=(bH _).1 ((h2 q (by omega)) (by omega)).1
         have hcm:=e7 l[q].hi l[q + 1].lo (by omega)
         cases ho:l[q].op with
         | true=>
           have hb0:=hno (fun h=>by have:=((h hz).2 h0).1;rw [show l[q + 1 - 1] = l[q] from rfl,ho] at this;cases this)
           subst hb0
           clear hb hno h2 hrq
           (have ke1:=Lib.hid (hqE);have kc1:=hir;have kc2:=hcm;refine bq ?_;(repeat' first|refine W2.mk ?_ ?_|refine W1.mk fun hc=>?_);all_goals clear kc2 kc1 ke1)
           all_goals first|(exfalso;simp_all;done)|skip
           refine aQ ?_
           exact af rfl rfl
         | false=>
           by_cases hlt:bG l[q].hi l[q + 1].lo < 0
           · have hok:rI l (q + 1):=fun _=>⟨hr,fun _=>⟨ho,hlt⟩⟩
             clear hb hno hrq
             (have ke1:=Lib.hid (hqE);have kc1:=hir;have kc2:=hcm;refine bq ?_;(repeat' first|refine W2.mk ?_ ?_|refine W1.mk fun hc=>?_);all_goals clear kc2 kc1 ke1)
             all_goals first|(exfalso;simp_all;done)|skip
             refine ⟨q + 1 + 1,⟨by omega,fun i hi=>?_⟩,by omega,?_⟩
             · rcases Nat.lt_or_ge i (q + 1) with q'|q'
               · exact h2 i q'
               · obtain rfl:i = q + 1:=by omega
                 exact hok
             · exact ab
           · have hb0:=hno (fun h=>hlt ((h hz).2 h0).2)
             subst hb0
             clear hb hno h2 hrq
             (have ke1:=Lib.hid (hqE);have kc1:=hir;have kc2:=hcm;refine bq ?_;(repeat' first|refine W2.mk ?_ ?_|refine W1.mk fun hc=>?_);all_goals clear kc2 kc1 ke1)
             all_goals first|(exfalso;simp_all;done)|skip
             refine aQ ?_
             exact af rfl rfl
       · have hok:rI l z:=fun _=>⟨hr,fun h=>absurd h h0⟩
         clear hb hno
         (have kc1:=hir;refine w0 ?_;(repeat' first|refine W2.mk ?_ ?_|refine W1.mk fun hc=>?_);all_goals clear kc1)
         refine ⟨z + 1,⟨by omega,fun i hi=>?_⟩,by omega,?_⟩
         · rcases Nat.lt_or_ge i z with q|q
           · exact h2 i q
           · obtain rfl:i = z:=by omega
             exact hok
         · exact ab
   · have hb1:b = true:=hb.2 (fun i=>by
       rcases Nat.lt_or_ge i z with q|q
       · exact h2 i q
       · exact fun h=>by omega)
     subst hb1
     clear hb h2
     (refine w0 ?_;(repeat' first|refine W2.mk ?_ ?_|refine W1.mk fun hc=>?_))
     refine aQ ?_
     exact af rfl rfl
theorem yD (l:List Rg) (hl:l.length ≤ 1000000000) (b:Bool) (hb:b = true ↔ cV l):Fn Tryz.prog 37 [dg l] (bO b):=by
 refine fi Tryz.func37 Tryz.ntmps37 ?_
 (refine w0 ?_;(repeat' first|refine W2.mk ?_ ?_|refine W1.mk fun hc=>?_))
 refine ah (X:=Nat) (fun z=>z ≤ l.length ∧ ∀ i,i < z → rI l i)
   (fun z=>aN [(0,dg l),(3,iC .i64 (z:Nat))] []) (fun z=>l.length - z) 0 ⟨Nat.zero_le _,fun i h=>absurd h (Nat.not_lt_zero _)⟩ ?_ ?_
 · exact ab
 · rintro z ⟨h1,h2⟩
   by_cases hz:z < l.length
   · have hir:=jb l[z]
     have hno:¬ rI l z → b = false:=fun h=>by rw [← Bool.not_eq_true,hb];exact fun q=>h (q z)
     cases hr:eJ l[z] with
     | false=>
       have hb0:=hno (fun h=>by have:=(h hz).1;rw [hr] at this;cases this)
       subst hb0
       clear hb hno h2
       rw [hr] at hir
       (have kc1:=hir;refine w0 ?_;(repeat' first|refine W2.mk ?_ ?_|refine W1.mk fun hc=>?_);all_goals clear kc1)
       refine aQ ?_
       exact af rfl rfl
     | true=>
       rw [hr] at hir
       by_cases h0:0 < z
       · obtain ⟨q,rfl⟩:∃ q,z = q + 1:=⟨z - 1,by omega⟩
         have hqE:((q + 1:Nat):Int) - 1 = (q:Nat):=by omega
         have hrq:=(bH _).1 ((h2 q (by omega)) (by omega)).1
         have hcm:=eR l[q].hi l[q + 1].lo (by omega)
         cases ho:l[q].op with
         | true=>
           have hb0:=hno (fun h=>by have:=((h hz).2 h0).1;rw [show l[q + 1 - 1] = l[q] from rfl,ho] at this;cases this)
           subst hb0
           clear hb hno h2 hrq
           (have ke1:=Lib.hid (hqE);have kc1:=hir;have kc2:=hcm;refine bq ?_;(repeat' first|refine W2.mk ?_ ?_|refine W1.mk fun hc=>?_);all_goals clear kc2 kc1 ke1)
           all_goals first|(exfalso;simp_all;done)|skip
           refine aQ ?_
           exact af rfl rfl
         | false=>
           by_cases hlt:bG l[q].hi l[q + 1].lo < 0
           · have hok:rI l (q + 1):=fun _=>⟨hr,fun _=>⟨ho,hlt⟩⟩
             rw [decide_eq_true hlt] at hcm
             clear hb hno hrq
             (have ke1:=Lib.hid (hqE);have kc1:=hir;have kc2:=hcm;refine bq ?_;(repeat' first|refine W2.mk ?_ ?_|refine W1.mk fun hc=>?_);all_goals clear kc2 kc1 ke1)
             all_goals first|(exfalso;simp_all;done)|skip
             refine ⟨q + 1 + 1,⟨by omega,fun i hi=>?_⟩,by omega,?_⟩
             · rcases Nat.lt_or_ge i (q + 1) with q'|q'
               · exact h2 i q'
               · obtain rfl:i = q + 1:=by omega
                 exact hok
             · exact ab
           · have hb0:=hno (fun h=>hlt ((h hz).2 h0).2)
             rw [decide_eq_false hlt] at hcm
             subst hb0
             clear hb hno h2 hrq
             (have ke1:=Lib.hid (hqE);have kc1:=hir;have kc2:=hcm;refine bq ?_;(repeat' first|refine W2.mk ?_ ?_|refine W1.mk fun hc=>?_);all_goals clear kc2 kc1 ke1)
             all_goals first|(exfalso;simp_all;done)|skip
             refine aQ ?_
             exact af rfl rfl
       · have hok:rI l z:=fun _=>⟨hr,fun h=>absurd h h0⟩
         clear hb hno
         (have kc1:=hir;refine w0 ?_;(repeat' first|refine W2.mk ?_ ?_|refine W1.mk fun hc=>?_);all_goals clear kc1)
         refine ⟨z + 1,⟨by omega,fun i hi=>?_⟩,by omega,?_⟩
         · rcases Nat.lt_or_ge i z with q|q
           · exact h2 i q
           · obtain rfl:i = z:=by omega
             exact hok
         · exact ab
   · have hb1:b = true:=hb.2 (fun i=>by
       rcases Nat.lt_or_ge i z with q|q
       · exact h2 i q
       · exact fun h=>by omega)
     subst hb1
     clear hb h2
     (refine w0 ?_;(repeat' first|refine W2.mk ?_ ?_|refine W1.mk fun hc=>?_))
     refine aQ ?_
     exact af rfl rfl
end
theorem vV {α:Type} {P:List α → Prop} (h0:P []) (h1:∀ l x,P l → P (l ++ [x])):∀ l,P l:=by
 intro l
 have:∀ r:List α,P r.reverse:=by
   intro r
   induction r with
   | nil=>exact h0
   | cons x r ih=>rw [List.reverse_cons];exact h1 _ _ ih
 simpa using this l.reverse
section
end
end Go.Proofs.YtembiemaiacdfaaGreat
