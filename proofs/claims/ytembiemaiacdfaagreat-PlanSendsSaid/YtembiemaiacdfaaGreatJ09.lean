/- Texts joined: Ic RefIt Cmp Rg Nd. -/
import Derived.Test.YtembiemaiacdfaaGreatJ08
import Derived.Test.YtembiemaiacdfaaGreatJ05
import Derived.Test.YtembiemaiacdfaaGreatJ04
set_option maxRecDepth 10000
set_option maxHeartbeats 8000000
namespace Go.Proofs.YtembiemaiacdfaaGreat
open Go.RowKit
def fj (x:It):List Int:=[x.rep,x.cnt,x.rank,x.prio,if x.dead then 1 else 0]
def ox (x:It):List UInt8:=(fj x).flatMap gQ ++ ed x.body
def rT (x:It):List UInt8:=if fx x then ed x.key ++ ox x else []
theorem jo {x:It} (h:fx x = true):(∀ n ∈ fj x,fg n) ∧ x.body.size ≤ 64 ∧ 1 ≤ x.key.size ∧ x.key.size ≤ 16:=by
 simp only [fx,fy,dF,Bool.and_eq_true,decide_eq_true_eq] at h
 obtain ⟨⟨h1,h2⟩,h3⟩:=h
 refine ⟨?_,by omega,by omega,by omega⟩
 intro n hn
 simp only [fj,List.mem_cons,List.not_mem_nil,or_false] at hn
 unfold fg
 rcases hn with rfl|rfl|rfl|rfl|rfl
 · omega
 · omega
 · omega
 · omega
 · split <;> omega
theorem gY (s:ByteArray) (h:s.size ≤ 127):(ed s).length = 1 + s.size:=by
 unfold ed;rw [jY (by omega)];simp;omega
theorem lf (l:List UInt8) (ns:List Int) (hb:l.length + 9 * ns.length ≤ 1000000000000) (hok:∀ n ∈ ns,fg n) :
   Fn Tryz.prog 247 [ii l,vh ns] (rr (l ++ ns.flatMap gQ)):=by
 refine fi Tryz.func247 Tryz.ntmps247 ?_
 (have kc1:=pM l ns hb hok;refine wH ?_;(repeat' first|refine W2.mk ?_ ?_|refine W1.mk fun hc=>?_);all_goals clear kc1)
 refine aO ?_
 exact cn rfl rfl rfl
theorem xE (l:List UInt8) (x:It) (hr:fx x = true) (hb:l.length ≤ 1000000) :
   Fn Tryz.prog 209 [ii l,oP x] (rr (l ++ ox x)):=by
 obtain ⟨hnums,hbody,_,_⟩:=jo hr
 have hlen:=kG _ hnums
 have htl:=gY x.body (by omega)
 obtain ⟨key,rep,cnt,rank,prio,dead,body⟩:=x
 cases dead
 all_goals
   simp only [fj,Bool.false_eq_true,if_true,if_false] at hnums hlen hbody htl
 · have p2:=kH (l ++ ([rep,cnt,rank,prio,0]:List Int).flatMap gQ) [body] (by rw [List.length_append];simp at *;omega)
   refine fi Tryz.func209 Tryz.ntmps209 ?_
   (have kc1:=p2;refine wH ?_;(repeat' (first|refine W2.mk ?_ ?_|refine W1.mk fun hc=>?_|((first|apply aB rfl|apply aC rfl|apply aD rfl|apply aF rfl);(focus (first|exact mn (lf l _ (by simp;omega) hnums)|(apply bt;(focus rfl);apply ag rfl rfl rfl rfl rfl;first|exact mn (lf l _ (by simp;omega) hnums))));refine wH ?_)));all_goals clear kc1)
   refine aO ?_
   exact dx rfl rfl rfl (by simp [ox,fj])
 · have p2:=kH (l ++ ([rep,cnt,rank,prio,1]:List Int).flatMap gQ) [body] (by rw [List.length_append];simp at *;omega)
   refine fi Tryz.func209 Tryz.ntmps209 ?_
   (have kc1:=p2;refine wH ?_;(repeat' (first|refine W2.mk ?_ ?_|refine W1.mk fun hc=>?_|((first|apply aB rfl|apply aC rfl|apply aD rfl|apply aF rfl);(focus (first|exact mn (lf l _ (by simp;omega) hnums)|(apply bt;(focus rfl);apply ag rfl rfl rfl rfl rfl;first|exact mn (lf l _ (by simp;omega) hnums))));refine wH ?_)));all_goals clear kc1)
   refine aO ?_
   exact dx rfl rfl rfl (by simp [ox,fj])
theorem xF (x:It):Fn Tryz.prog 185 [oP x] (.tup2 (rr (rT x)) (.per (ao (.int .i64 (if fx x then 0 else 2))))):=by
 by_cases hr:fx x = true
 · have hk:=(jo hr).2.2.2
   have htl:=gY x.key (by omega)
   refine fi Tryz.func185 Tryz.ntmps185 ?_
   (have kc1:=dM x;have kc2:=kH [] [x.key] (by simp;omega);have kc3:=xE ([] ++ [x.key].flatMap ed) x hr (by simp;omega);refine wH ?_;(repeat' first|refine W2.mk ?_ ?_|refine W1.mk fun hc=>?_);all_goals clear kc3 kc2 kc1)
   all_goals refine oO ?_ ?_
   · exact dx rfl rfl rfl (by simp [rT,hr])
   · exact az rfl (by simp [hr])
 · rw [rT,if_neg hr,if_neg hr]
   refine fi Tryz.func185 Tryz.ntmps185 ?_
   (have kc1:=dM x;refine wH ?_;(repeat' first|refine W2.mk ?_ ?_|refine W1.mk fun hc=>?_);all_goals clear kc1)
   all_goals refine oO ?_ ?_
   · exact sW rfl
   · exact az rfl rfl
theorem ee (x:It):Fn Tryz.prog 139 [oP x] (.per (ao (.int .i64 ((rT x).length:Nat)))):=by
 refine fi Tryz.func139 Tryz.ntmps139 ?_
 (have kc1:=xF x;refine wH ?_;(repeat' first|refine W2.mk ?_ ?_|refine W1.mk fun hc=>?_);all_goals clear kc1)
 refine aO ?_
 exact az rfl (by simp)
theorem aN {α:Type} (l:List α) (k:Nat) (h:k < l.length):l.take (k + 1) = l.take k ++ [l[k]]:=by rw [List.take_succ_eq_append_getElem h]
abbrev da (l:List It):PV:=bK 7 (l.map itP)
abbrev dN (l:List It):Cnt:=.bor 7 (l.map itP)
theorem tl (x:It):(rT x).length ≤ 200:=by
 unfold rT
 split
 · rename_i h
   obtain ⟨h1,h2,h3,h4⟩:=jo h
   have h5:=kG _ h1
   have h6:=gY x.body (by omega)
   have h7:=gY x.key (by omega)
   have h8:(fj x).length = 5:=rfl
   simp only [ox,List.length_append];omega
 · simp
def xG (x y:It):Bool:=(x.key == y.key) && (((x.rep == y.rep) && ((x.cnt == y.cnt) && true)) && ((x.rank == y.rank) && ((x.prio == y.prio) && ((x.dead == y.dead) && ((x.body == y.body) && true)))))
theorem jb (s u:ByteArray):(s == u) = true ↔ s = u:=by
 rw [beq_toListBytes,beq_iff_eq,jJ,jJ,Array.toList_inj]
 exact ⟨fun h=>by cases s;cases u;simp_all,fun h=>by rw [h]⟩
theorem lg (x y:It):xG x y = true ↔ x = y:=by
 obtain ⟨a,b,c,d,e,f,g⟩:=x
 obtain ⟨a',b',c',d',e',f',g'⟩:=y
 simp only [xG,Bool.and_eq_true,jb,beq_iff_eq,and_true,It.mk.injEq]
 constructor
 · rintro ⟨h1,⟨h2,h3⟩,h4,h5,h6,h7⟩;exact ⟨h1,h2,h3,h4,h5,h6,h7⟩
 · rintro ⟨h1,h2,h3,h4,h5,h6,h7⟩;exact ⟨h1,⟨h2,h3⟩,h4,h5,h6,h7⟩
theorem DR (x y:It):zg Tryz.prog 10000 61 (encIt x) (encIt y) = some (xG x y):=by kernel_rfl
theorem KH:Tryz.prog.eqGuardType Tryz.prog.depth 61 = false:=by kernel_rfl
theorem rU (l m:List It) (hl:l.length ≤ 1000000000):Fn Tryz.prog 26 [dN l,dN m] (cU (decide (l = m))):=by
 refine fi Tryz.func26 Tryz.ntmps26 ?_
 (refine wH ?_;(repeat' first|refine W2.mk ?_ ?_|refine W1.mk fun hc=>?_))
 · refine aO ?_
   exact af rfl (by symm;rw [decide_eq_false_iff_not];intro h;subst h;omega)
 have hlm:l.length = m.length:=by omega
 refine ah (fun k=>k ≤ l.length ∧ l.take k = m.take k) (fun k=>aJ [(0,dN l),(1,dN m),(4,bC false),(5,iC .i64 (k:Nat))] []) (fun k=>l.length - k) 0 ⟨Nat.zero_le _,rfl⟩ ?_ ?_
 · exact ab
 · rintro k ⟨hk,hpre⟩
   by_cases hlt:k < l.length
   · have hltm:k < m.length:=by omega
     (refine wH ?_;(repeat' (first|refine W2.mk ?_ ?_|refine W1.mk fun hc=>?_|((first|apply aB rfl|apply aC rfl|apply aD rfl|apply aF rfl);(focus (first|(exact bw (us:=encIt l[k]) (vs:=encIt m[k]) ⟨rfl,rfl,rfl⟩ rfl rfl rfl (.inr ⟨rfl,rfl⟩) KH rfl (DR l[k] m[k]))|(apply bt;(focus rfl);apply ag rfl rfl rfl rfl rfl;first|(exact bw (us:=encIt l[k]) (vs:=encIt m[k]) ⟨rfl,rfl,rfl⟩ rfl rfl rfl (.inr ⟨rfl,rfl⟩) KH rfl (DR l[k] m[k])))));refine wH ?_))))
     · refine aO ?_
       exact af rfl (by symm;rw [decide_eq_false_iff_not];intro h;subst h;simp [(lg l[k] l[k]).2 rfl] at *)
     · refine ⟨k + 1,⟨by omega,?_⟩,by omega,?_⟩
       · rw [aN l k hlt,aN m k hltm,hpre,(lg l[k] m[k]).1 (by simpa using hc)]
       · exact ab
   · (refine wH ?_;(repeat' first|refine W2.mk ?_ ?_|refine W1.mk fun hc=>?_))
     refine aO ?_
     exact af rfl (by symm;rw [decide_eq_true_eq,← List.take_of_length_le (show l.length ≤ k by omega),hpre,List.take_of_length_le (by omega)])
def Jv (x:It):Bool:=decide (x.key.size > 60) || decide (x.body.size > 200)
def oy (l:List It) (most:Int):Bool:=decide ((l.length:Int) > most) || l.any Jv
theorem DS (l:List It) (k:Nat) (h:k < l.length):(l.take (k + 1)).any Jv = ((l.take k).any Jv || Jv l[k]):=by rw [aN l k h,List.any_append];simp
theorem A0 (l:List It) (most:Int) (hl:most ≤ 1000000000000):Fn Tryz.prog 35 [dN l,iC .i64 most] (cU (oy l most)):=by
 refine fi Tryz.func35 Tryz.ntmps35 ?_
 (refine wH ?_;(repeat' first|refine W2.mk ?_ ?_|refine W1.mk fun hc=>?_))
 · refine aO ?_
   exact af rfl (by unfold oy;rw [decide_eq_true hc];rfl)
 refine ah (fun k=>k ≤ l.length ∧ (l.take k).any Jv = false) (fun k=>aJ [(0,dN l),(1,iC .i64 most),(4,bC false),(5,iC .i64 (k:Nat))] []) (fun k=>l.length - k) 0 ⟨Nat.zero_le _,rfl⟩ ?_ ?_
 · exact ab
 · rintro k ⟨hk,hpre⟩
   by_cases hlt:k < l.length
   · have hsn:=DS l k hlt
     (refine wH ?_;(repeat' first|refine W2.mk ?_ ?_|refine W1.mk fun hc=>?_))
     · refine aO ?_
       exact af rfl (by symm;unfold oy;rw [Bool.or_eq_true,List.any_eq_true];refine .inr ⟨l[k],List.getElem_mem hlt,?_⟩;grind [Jv])
     · refine ⟨k + 1,⟨by omega,?_⟩,by omega,?_⟩
       · rw [hsn,hpre];grind [Jv]
       · exact ab
   · (refine wH ?_;(repeat' first|refine W2.mk ?_ ?_|refine W1.mk fun hc=>?_))
     refine aO ?_
     have e:l.take k = l:=List.take_of_length_le (by omega)
     rw [e] at hpre
     exact af rfl (by symm;unfold oy;rw [hpre,Bool.or_false,decide_eq_false_iff_not];assumption)
theorem DU (x:It) (hr:fx x = true):Fn Tryz.prog 113 [oP x] (rr (ox x)):=by
 obtain ⟨hnums,hbody,_,_⟩:=jo hr
 have hlen:=kG _ hnums
 have htl:=gY x.body (by omega)
 obtain ⟨key,rep,cnt,rank,prio,dead,body⟩:=x
 cases dead
 all_goals
   simp only [fj,Bool.false_eq_true,if_true,if_false] at hnums hlen hbody htl
   simp at hlen
   refine fi Tryz.func113 Tryz.ntmps113 ?_
   (have kc1:=vq body (by omega);refine wH ?_;(repeat' (first|refine W2.mk ?_ ?_|refine W1.mk fun hc=>?_|((first|apply aB rfl|apply aC rfl|apply aD rfl|apply aF rfl);(focus (first|exact mn (tk _ (by simp) hnums)|(apply bt;(focus rfl);apply ag rfl rfl rfl rfl rfl;first|exact mn (tk _ (by simp) hnums))));refine wH ?_)));all_goals clear kc1)
   refine aO ?_
   exact cn rfl rfl (nK (by rw [← List.map_append];simp [ox,fj]))
theorem DV (x:It) (hr:fx x = true):Fn Tryz.prog 59 [oP x] (rr (rT x)):=by
 have hk:=(jo hr).2.2.2
 have htl:=gY x.key (by omega)
 have hrl:=tl x
 have hib:rT x = ed x.key ++ ox x:=by rw [rT,if_pos hr]
 rw [hib] at hrl ⊢
 rw [List.length_append] at hrl
 refine fi Tryz.func59 Tryz.ntmps59 ?_
 (have kc1:=vq x.key (by omega);have kc2:=DU x hr;refine wH ?_;(repeat' first|refine W2.mk ?_ ?_|refine W1.mk fun hc=>?_);all_goals clear kc2 kc1)
 refine aO ?_
 exact cn rfl rfl (nK (by rw [← List.map_append]))
def ci:List UInt8 → List UInt8 → Int
 | [],[]=>0
 | [],_ :: _=>-1
 | _ :: _,[]=>1
 | x :: a,y :: b=>if x.toNat < y.toNat then -1 else if y.toNat < x.toNat then 1 else ci a b
def bO (s t:ByteArray):Int:=ci s.data.toList t.data.toList
theorem nQ (a b:List UInt8) (k:Nat) (h1:k < a.length) (h2:k < b.length):ci (a.drop k) (b.drop k) = if a[k].toNat < b[k].toNat then -1 else if b[k].toNat < a[k].toNat then 1 else ci (a.drop (k + 1)) (b.drop (k + 1)):=by
 rw [List.drop_eq_getElem_cons h1,List.drop_eq_getElem_cons h2,ci]
theorem pN (a b:List UInt8) (k:Nat) (h:a.length ≤ k ∨ b.length ≤ k) (h1:k ≤ a.length) (h2:k ≤ b.length):ci (a.drop k) (b.drop k) = if a.length < b.length then -1 else if a.length > b.length then 1 else 0:=by
 by_cases e1:a.length ≤ k
 · rw [List.drop_eq_nil_of_le e1]
   by_cases e2:b.length ≤ k
   · rw [List.drop_eq_nil_of_le e2,ci,if_neg (by omega),if_neg (by omega)]
   · rw [List.drop_eq_getElem_cons (by omega:k < b.length),ci,if_pos (by omega)]
 · have e2:b.length ≤ k:=by omega
   rw [List.drop_eq_nil_of_le e2,List.drop_eq_getElem_cons (by omega:k < a.length),ci,if_neg (by omega),if_pos (by omega)]
def xH (r c r' c':Int):Int:=if r = r' ∧ c = c' then 0 else if r < r' ∨ r = r' ∧ c < c' then -1 else 1
def pO (x y:It):Int:=if x.rank > y.rank then 1 else if x.rank < y.rank then -1 else xH x.rep x.cnt y.rep y.cnt
section
theorem eD (s t:ByteArray) (hs:s.size ≤ 1000000000000):Fn Tryz.prog 120 [sC s,sC t] (ig (bO s t)):=by
 generalize hR:bO s t = R
 refine fi Tryz.func120 Tryz.ntmps120 ?_
 (refine w0 ?_;(repeat' first|refine W2.mk ?_ ?_|refine W1.mk fun hc=>?_))
 refine ah (fun k=>k ≤ s.size ∧ k ≤ t.size ∧ ci (s.data.toList.drop k) (t.data.toList.drop k) = R) (fun k=>aJ [(0,sC s),(1,sC t),(10,iC .i64 (min (s.size:Int) (t.size:Int))),(11,iC .i64 (k:Nat))] []) (fun k=>s.size - k) 0 ⟨Nat.zero_le _,Nat.zero_le _,hR⟩ ?_ ?_
 · exact ab
 · rintro k ⟨h1,h2,h3⟩
   have hst:=nQ s.data.toList t.data.toList k
   have hen:=pN s.data.toList t.data.toList k
   simp only [sH] at hst hen
   rw [h3] at hst hen
   by_cases hk:k < s.size ∧ k < t.size
   · have hst:=hst hk.1 hk.2
     have hm:(k:Int) < min (s.size:Int) (t.size:Int):=by omega
     (refine w0 ?_;(repeat' first|refine W2.mk ?_ ?_|refine W1.mk fun hc=>?_))
     · rw [if_pos (by omega)] at hst
       refine aO ?_
       exact az rfl hst.symm
     · rw [if_neg (by omega),if_pos (by omega)] at hst
       refine aO ?_
       exact az rfl hst.symm
     · rw [if_neg (by omega),if_neg (by omega)] at hst
       refine ⟨k + 1,⟨by omega,by omega,hst.symm⟩,by omega,?_⟩
       exact ab
   · have hen:=hen (by omega) h1 h2
     have hm:¬ (k:Int) < min (s.size:Int) (t.size:Int):=by omega
     (refine w0 ?_;(repeat' first|refine W2.mk ?_ ?_|refine W1.mk fun hc=>?_))
     all_goals refine aO ?_
     · rw [if_pos (by omega)] at hen
       exact az rfl hen.symm
     · rw [if_neg (by omega),if_pos (by omega)] at hen
       exact az rfl hen.symm
     · rw [if_neg (by omega),if_neg (by omega)] at hen
       exact az rfl hen.symm
theorem gn (s t:ByteArray) (hs:s.size ≤ 1000000000000):Fn Tryz.prog 72 [sC s,sC t] (cU (decide (bO s t < 0))):=by
 generalize hR:bO s t = R
 refine fi Tryz.func72 Tryz.ntmps72 ?_
 (refine w0 ?_;(repeat' first|refine W2.mk ?_ ?_|refine W1.mk fun hc=>?_))
 refine ah (fun k=>k ≤ s.size ∧ k ≤ t.size ∧ ci (s.data.toList.drop k) (t.data.toList.drop k) = R) (fun k=>aJ [(0,sC s),(1,sC t),(5,iC .i64 (k:Nat))] []) (fun k=>s.size - k) 0 ⟨Nat.zero_le _,Nat.zero_le _,hR⟩ ?_ ?_
 · exact ab
 · rintro k ⟨h1,h2,h3⟩
   have hst:=nQ s.data.toList t.data.toList k
   have hen:=pN s.data.toList t.data.toList k
   simp only [sH] at hst hen
   rw [h3] at hst hen
   by_cases hk:k < s.size ∧ k < t.size
   · have hst:=hst hk.1 hk.2
     (refine w0 ?_;(repeat' first|refine W2.mk ?_ ?_|refine W1.mk fun hc=>?_))
     · refine aO ?_
       refine af rfl ?_
       rw [hst]
       clear hst hen h3
       generalize (s.data.toList[k]'(by simpa using hk.1)).toNat = x at *
       generalize (t.data.toList[k]'(by simpa using hk.2)).toNat = y at *
       split
       · rw [decide_eq_true (by omega),decide_eq_true (by omega)]
       · rw [if_pos (by omega),decide_eq_false (by omega),decide_eq_false (by omega)]
     · rw [if_neg (by omega),if_neg (by omega)] at hst
       refine ⟨k + 1,⟨by omega,by omega,hst.symm⟩,by omega,?_⟩
       exact ab
   · have hen:=hen (by omega) h1 h2
     (refine w0 ?_;(repeat' first|refine W2.mk ?_ ?_|refine W1.mk fun hc=>?_))
     all_goals refine aO ?_
     all_goals refine af rfl ?_
     · rw [hen,if_neg (by omega)]
       split <;> simp
     · rw [hen]
       split
       · simp;omega
       · split <;> (simp;omega)
theorem tn (r c r' c':Int):zg Tryz.prog 10000 59 [.int .i64 r,.int .i64 c] [.int .i64 r',.int .i64 c'] = some (decide (r = r') && (decide (c = c') && true)):=by kernel_rfl
theorem mL:Tryz.prog.eqGuardType Tryz.prog.depth 59 = false:=by kernel_rfl
theorem H6 (r c r' c':Int):Fn Tryz.prog 174 [oQ r c,oQ r' c'] (ig (xH r c r' c')):=by
 have hE:=tn r c r' c'
 refine fi Tryz.func174 Tryz.ntmps174 ?_
 (refine w0 ?_;(repeat' (first|refine W2.mk ?_ ?_|refine W1.mk fun hc=>?_|((first|apply aB rfl|apply aC rfl|apply aD rfl|apply aF rfl);(focus (first|(exact bw (us:=[.int .i64 r,.int .i64 c]) (vs:=[.int .i64 r',.int .i64 c']) ⟨rfl,rfl,rfl⟩ rfl rfl rfl (by first|exact .inl ⟨rfl,rfl⟩|exact .inr ⟨rfl,rfl⟩) mL rfl hE)|(apply bt;(focus rfl);apply ag rfl rfl rfl rfl rfl;first|(exact bw (us:=[.int .i64 r,.int .i64 c]) (vs:=[.int .i64 r',.int .i64 c']) ⟨rfl,rfl,rfl⟩ rfl rfl rfl (by first|exact .inl ⟨rfl,rfl⟩|exact .inr ⟨rfl,rfl⟩) mL rfl hE))));refine w0 ?_))))
 all_goals refine aO ?_
 all_goals refine az rfl ?_
 all_goals unfold xH
 all_goals grind
theorem DW (x y:It):Fn Tryz.prog 128 [oP x,oP y] (ig (pO x y)):=by
 have h1:=H6 x.rep x.cnt y.rep y.cnt
 refine fi Tryz.func128 Tryz.ntmps128 ?_
 (have kc1:=h1;refine w0 ?_;(repeat' first|refine W2.mk ?_ ?_|refine W1.mk fun hc=>?_);all_goals clear kc1)
 all_goals refine aO ?_
 all_goals refine az rfl ?_
 · unfold pO;rw [if_pos (by omega)]
 · unfold pO;rw [if_neg (by omega),if_pos (by omega)]
 · unfold pO;rw [if_neg (by omega),if_neg (by omega)]
end
structure Rg where
 lo:ByteArray
 hi:ByteArray
 op:Bool
deriving DecidableEq
def encRg (r:Rg):List Value:=[.string r.lo,.string r.hi,.bool r.op]
theorem pQ:Cp 3 encRg:=⟨by decide,fun _=>rfl,fun x u hu=>by
 simp only [encRg,List.mem_cons,List.not_mem_nil,or_false] at hu
 rcases hu with rfl|rfl|rfl <;> rfl⟩
abbrev rgP (r:Rg):List PV:=[ao (.string r.lo),ao (.string r.hi),ao (.bool r.op)]
abbrev GQ (r:Rg):Cnt:=.per (bW (rgP r))
abbrev ef (l:List Rg):PV:=bK 3 (l.map rgP)
abbrev db (l:List Rg):Cnt:=.bor 3 (l.map rgP)
def KI (x y:Rg):Bool:=(x.lo == y.lo) && ((x.hi == y.hi) && ((x.op == y.op) && true))
theorem mM (x y:Rg):KI x y = true ↔ x = y:=by
 obtain ⟨a,b,c⟩:=x
 obtain ⟨a',b',c'⟩:=y
 simp only [KI,Bool.and_eq_true,jb,beq_iff_eq,and_true,Rg.mk.injEq]
theorem DX (x y:Rg):zg Tryz.prog 10000 82 (encRg x) (encRg y) = some (KI x y):=by kernel_rfl
theorem zr:Tryz.prog.eqGuardType Tryz.prog.depth 82 = false:=by kernel_rfl
theorem gp (s u:ByteArray):s.toList = u.toList ↔ s = u:=by
 rw [← jb,beq_toListBytes,beq_iff_eq]
def e0:ByteArray:=⟨#[]⟩
def eo (r:Rg):Bool:=decide (r.lo.size ≤ 17 ∧ r.hi.size ≤ 17 ∧ (if r.op = true then r.hi = e0 else bO r.lo r.hi < 0))
theorem bH (r:Rg):eo r = true ↔ r.lo.size ≤ 17 ∧ r.hi.size ≤ 17 ∧ (if r.op = true then r.hi = e0 else bO r.lo r.hi < 0):=by
 unfold eo;exact decide_eq_true_iff
def rt (l:List Rg) (i:Nat):Prop:=∀ h:i < l.length,eo l[i] = true ∧ ∀ h0:0 < i,l[i - 1].op = false ∧ bO l[i - 1].hi l[i].lo < 0
def cG (l:List Rg):Prop:=∀ i,rt l i
section
theorem vt (s:ByteArray):Fn Tryz.prog 165 [sC s] (cU (decide (s.size ≤ 17))):=by
 refine fi Tryz.func165 Tryz.ntmps165 ?_
 (refine w0 ?_;(repeat' first|refine W2.mk ?_ ?_|refine W1.mk fun hc=>?_))
 refine aO ?_
 exact af rfl (by simp;omega)
theorem eM (r:Rg):Fn Tryz.prog 121 [GQ r] (cU (eo r)):=by
 obtain ⟨lo,hi,op⟩:=r
 have h1:=vt lo
 have h2:=vt hi
 have hR:=bH ⟨lo,hi,op⟩
 generalize eo ⟨lo,hi,op⟩ = b at *
 simp only at hR
 show Fn Tryz.prog _ [.per (bW [ao (.string lo),ao (.string hi),ao (.bool op)])] (cU b)
 by_cases hl:lo.size ≤ 17
 · by_cases hh:hi.size ≤ 17
   · rw [decide_eq_true hl] at h1
     rw [decide_eq_true hh] at h2
     cases op with
     | true=>
       have hE:=DX ⟨lo,hi,true⟩ ⟨lo,e0,true⟩
       have hI:=mM ⟨lo,hi,true⟩ ⟨lo,e0,true⟩
       generalize KI ⟨lo,hi,true⟩ ⟨lo,e0,true⟩ = q at *
       refine fi Tryz.func121 Tryz.ntmps121 ?_
       (have kc1:=h1;have kc2:=h2;refine w0 ?_;(repeat' (first|refine W2.mk ?_ ?_|refine W1.mk fun hc=>?_|((first|apply aB rfl|apply aC rfl|apply aD rfl|apply aF rfl);(focus (first|(exact bw (us:=encRg ⟨lo,hi,true⟩) (vs:=encRg ⟨lo,e0,true⟩) ⟨rfl,rfl,rfl⟩ rfl rfl rfl (by first|exact .inl ⟨rfl,rfl⟩|exact .inr ⟨rfl,rfl⟩) zr rfl hE)|(apply bt;(focus rfl);apply ag rfl rfl rfl rfl rfl;first|(exact bw (us:=encRg ⟨lo,hi,true⟩) (vs:=encRg ⟨lo,e0,true⟩) ⟨rfl,rfl,rfl⟩ rfl rfl rfl (by first|exact .inl ⟨rfl,rfl⟩|exact .inr ⟨rfl,rfl⟩) zr rfl hE))));refine w0 ?_)));all_goals clear kc2 kc1)
       refine aO ?_
       refine af rfl ?_
       rw [show (q != false) = q by cases q <;> rfl,Bool.eq_iff_iff,hI,hR]
       simp [hl,hh]
     | false=>
       have h3:=eD lo hi (by omega)
       refine fi Tryz.func121 Tryz.ntmps121 ?_
       (have kc1:=h1;have kc2:=h2;have kc3:=h3;refine w0 ?_;(repeat' first|refine W2.mk ?_ ?_|refine W1.mk fun hc=>?_);all_goals clear kc3 kc2 kc1)
       refine aO ?_
       refine af rfl ?_
       rw [Bool.eq_iff_iff,hR]
       simp [hl,hh]
   · rw [decide_eq_true hl] at h1
     rw [decide_eq_false hh] at h2
     have hr:b = false:=by rw [← Bool.not_eq_true,hR];exact fun h=>hh h.2.1
     rw [hr]
     clear hR
     refine fi Tryz.func121 Tryz.ntmps121 ?_
     (have kc1:=h1;have kc2:=h2;refine w0 ?_;(repeat' first|refine W2.mk ?_ ?_|refine W1.mk fun hc=>?_);all_goals clear kc2 kc1)
     refine aO ?_
     exact af rfl rfl
 · rw [decide_eq_false hl] at h1
   have hr:b = false:=by rw [← Bool.not_eq_true,hR];exact fun h=>hl h.1
   rw [hr]
   clear hR
   refine fi Tryz.func121 Tryz.ntmps121 ?_
   (have kc1:=h1;refine w0 ?_;(repeat' first|refine W2.mk ?_ ?_|refine W1.mk fun hc=>?_);all_goals clear kc1)
   refine aO ?_
   exact af rfl rfl
theorem iM (r:Rg):Fn Tryz.prog 83 [GQ r] (cU (eo r)):=by
 obtain ⟨lo,hi,op⟩:=r
 have hR:=bH ⟨lo,hi,op⟩
 generalize eo ⟨lo,hi,op⟩ = b at *
 simp only at hR
 show Fn Tryz.prog _ [.per (bW [ao (.string lo),ao (.string hi),ao (.bool op)])] (cU b)
 by_cases hl:lo.size ≤ 17
 · by_cases hh:hi.size ≤ 17
   · cases op with
     | true=>
       refine fi Tryz.func83 Tryz.ntmps83 ?_
       (refine w0 ?_;(repeat' first|refine W2.mk ?_ ?_|refine W1.mk fun hc=>?_))
       refine aO ?_
       refine af rfl ?_
       rw [Bool.eq_iff_iff,hR,beq_iff_eq,gp]
       simp [hl,hh,e0]
     | false=>
       have h3:=gn lo hi (by omega)
       refine fi Tryz.func83 Tryz.ntmps83 ?_
       (have kc1:=h3;refine w0 ?_;(repeat' first|refine W2.mk ?_ ?_|refine W1.mk fun hc=>?_);all_goals clear kc1)
       refine aO ?_
       refine af rfl ?_
       rw [Bool.eq_iff_iff,hR]
       simp [hl,hh]
   · have hr:b = false:=by rw [← Bool.not_eq_true,hR];exact fun h=>hh h.2.1
     rw [hr]
     clear hR
     refine fi Tryz.func83 Tryz.ntmps83 ?_
     (refine w0 ?_;(repeat' first|refine W2.mk ?_ ?_|refine W1.mk fun hc=>?_))
     refine aO ?_
     exact af rfl rfl
 · have hr:b = false:=by rw [← Bool.not_eq_true,hR];exact fun h=>hl h.1
   rw [hr]
   clear hR
   refine fi Tryz.func83 Tryz.ntmps83 ?_
   (refine w0 ?_;(repeat' first|refine W2.mk ?_ ?_|refine W1.mk fun hc=>?_))
   refine aO ?_
   exact af rfl rfl
theorem jp (l:List Rg) (hl:l.length ≤ 1000000000) (b:Bool) (hb:b = true ↔ cG l):Fn Tryz.prog 88 [db l] (cU b):=by
 refine fi Tryz.func88 Tryz.ntmps88 ?_
 (refine w0 ?_;(repeat' first|refine W2.mk ?_ ?_|refine W1.mk fun hc=>?_))
 refine ah (X:=Nat) (fun z=>z ≤ l.length ∧ ∀ i,i < z → rt l i)
   (fun z=>aJ [(0,db l),(5,db l),(6,iC .i64 (l.length:Nat)),(7,iC .i64 (z:Nat))] []) (fun z=>l.length - z) 0 ⟨Nat.zero_le _,fun i h=>absurd h (Nat.not_lt_zero _)⟩ ?_ ?_
 · exact ab
 · rintro z ⟨h1,h2⟩
   by_cases hz:z < l.length
   · have hir:=eM l[z]
     have hno:¬ rt l z → b = false:=fun h=>by rw [← Bool.not_eq_true,hb];exact fun q=>h (q z)
     cases hr:eo l[z] with
     | false=>
       have hb0:=hno (fun h=>by have:=(h hz).1;rw [hr] at this;cases this)
       subst hb0
       clear hb hno h2
       rw [hr] at hir
       (have kc1:=hir;refine w0 ?_;(repeat' first|refine W2.mk ?_ ?_|refine W1.mk fun hc=>?_);all_goals clear kc1)
       refine aO ?_
       exact af rfl rfl
     | true=>
       rw [hr] at hir
       by_cases h0:0 < z
       · obtain ⟨q,rfl⟩:∃ q,z = q + 1:=⟨z - 1,by omega⟩
         have hqE:((q + 1:Nat):Int) - 1 = (q:Nat):=by omega
         have hrq:=(bH _).1 ((h2 q (by omega)) (by omega)).1
         have hcm:=eD l[q].hi l[q + 1].lo (by omega)
         cases ho:l[q].op with
         | true=>
           have hb0:=hno (fun h=>by have:=((h hz).2 h0).1;rw [show l[q + 1 - 1] = l[q] from rfl,ho] at this;cases this)
           subst hb0
           clear hb hno h2 hrq
           (have ke1:=Lib.hid (hqE);have kc1:=hir;have kc2:=hcm;refine bm ?_;(repeat' first|refine W2.mk ?_ ?_|refine W1.mk fun hc=>?_);all_goals clear kc2 kc1 ke1)
           all_goals first|(exfalso;simp_all;done)|skip
           refine aO ?_
           exact af rfl rfl
         | false=>
           by_cases hlt:bO l[q].hi l[q + 1].lo < 0
           · have hok:rt l (q + 1):=fun _=>⟨hr,fun _=>⟨ho,hlt⟩⟩
             clear hb hno hrq
             (have ke1:=Lib.hid (hqE);have kc1:=hir;have kc2:=hcm;refine bm ?_;(repeat' first|refine W2.mk ?_ ?_|refine W1.mk fun hc=>?_);all_goals clear kc2 kc1 ke1)
             all_goals first|(exfalso;simp_all;done)|skip
             refine ⟨q + 1 + 1,⟨by omega,fun i hi=>?_⟩,by omega,?_⟩
             · rcases Nat.lt_or_ge i (q + 1) with q'|q'
               · exact h2 i q'
               · obtain rfl:i = q + 1:=by omega
                 exact hok
             · exact ab
           · have hb0:=hno (fun h=>hlt ((h hz).2 h0).2)
             subst hb0
             clear hb hno h2 hrq
             (have ke1:=Lib.hid (hqE);have kc1:=hir;have kc2:=hcm;refine bm ?_;(repeat' first|refine W2.mk ?_ ?_|refine W1.mk fun hc=>?_);all_goals clear kc2 kc1 ke1)
             all_goals first|(exfalso;simp_all;done)|skip
             refine aO ?_
             exact af rfl rfl
       · have hok:rt l z:=fun _=>⟨hr,fun h=>absurd h h0⟩
         clear hb hno
         (have kc1:=hir;refine w0 ?_;(repeat' first|refine W2.mk ?_ ?_|refine W1.mk fun hc=>?_);all_goals clear kc1)
         refine ⟨z + 1,⟨by omega,fun i hi=>?_⟩,by omega,?_⟩
         · rcases Nat.lt_or_ge i z with q|q
           · exact h2 i q
           · obtain rfl:i = z:=by omega
             exact hok
         · exact ab
   · have hb1:b = true:=hb.2 (fun i=>by
       rcases Nat.lt_or_ge i z with q|q
       · exact h2 i q
       · exact fun h=>by omega)
     subst hb1
     clear hb h2
     (refine w0 ?_;(repeat' first|refine W2.mk ?_ ?_|refine W1.mk fun hc=>?_))
     refine aO ?_
     exact af rfl rfl
theorem pR (l:List Rg) (hl:l.length ≤ 1000000000) (b:Bool) (hb:b = true ↔ cG l):Fn Tryz.prog 37 [db l] (cU b):=by
 refine fi Tryz.func37 Tryz.ntmps37 ?_
 (refine w0 ?_;(repeat' first|refine W2.mk ?_ ?_|refine W1.mk fun hc=>?_))
 refine ah (X:=Nat) (fun z=>z ≤ l.length ∧ ∀ i,i < z → rt l i)
   (fun z=>aJ [(0,db l),(3,iC .i64 (z:Nat))] []) (fun z=>l.length - z) 0 ⟨Nat.zero_le _,fun i h=>absurd h (Nat.not_lt_zero _)⟩ ?_ ?_
 · exact ab
 · rintro z ⟨h1,h2⟩
   by_cases hz:z < l.length
   · have hir:=iM l[z]
     have hno:¬ rt l z → b = false:=fun h=>by rw [← Bool.not_eq_true,hb];exact fun q=>h (q z)
     cases hr:eo l[z] with
     | false=>
       have hb0:=hno (fun h=>by have:=(h hz).1;rw [hr] at this;cases this)
       subst hb0
       clear hb hno h2
       rw [hr] at hir
       (have kc1:=hir;refine w0 ?_;(repeat' first|refine W2.mk ?_ ?_|refine W1.mk fun hc=>?_);all_goals clear kc1)
       refine aO ?_
       exact af rfl rfl
     | true=>
       rw [hr] at hir
       by_cases h0:0 < z
       · obtain ⟨q,rfl⟩:∃ q,z = q + 1:=⟨z - 1,by omega⟩
         have hqE:((q + 1:Nat):Int) - 1 = (q:Nat):=by omega
         have hrq:=(bH _).1 ((h2 q (by omega)) (by omega)).1
         have hcm:=gn l[q].hi l[q + 1].lo (by omega)
         cases ho:l[q].op with
         | true=>
           have hb0:=hno (fun h=>by have:=((h hz).2 h0).1;rw [show l[q + 1 - 1] = l[q] from rfl,ho] at this;cases this)
           subst hb0
           clear hb hno h2 hrq
           (have ke1:=Lib.hid (hqE);have kc1:=hir;have kc2:=hcm;refine bm ?_;(repeat' first|refine W2.mk ?_ ?_|refine W1.mk fun hc=>?_);all_goals clear kc2 kc1 ke1)
           all_goals first|(exfalso;simp_all;done)|skip
           refine aO ?_
           exact af rfl rfl
         | false=>
           by_cases hlt:bO l[q].hi l[q + 1].lo < 0
           · have hok:rt l (q + 1):=fun _=>⟨hr,fun _=>⟨ho,hlt⟩⟩
             rw [decide_eq_true hlt] at hcm
             clear hb hno hrq
             (have ke1:=Lib.hid (hqE);have kc1:=hir;have kc2:=hcm;refine bm ?_;(repeat' first|refine W2.mk ?_ ?_|refine W1.mk fun hc=>?_);all_goals clear kc2 kc1 ke1)
             all_goals first|(exfalso;simp_all;done)|skip
             refine ⟨q + 1 + 1,⟨by omega,fun i hi=>?_⟩,by omega,?_⟩
             · rcases Nat.lt_or_ge i (q + 1) with q'|q'
               · exact h2 i q'
               · obtain rfl:i = q + 1:=by omega
                 exact hok
             · exact ab
           · have hb0:=hno (fun h=>hlt ((h hz).2 h0).2)
             rw [decide_eq_false hlt] at hcm
             subst hb0
             clear hb hno h2 hrq
             (have ke1:=Lib.hid (hqE);have kc1:=hir;have kc2:=hcm;refine bm ?_;(repeat' first|refine W2.mk ?_ ?_|refine W1.mk fun hc=>?_);all_goals clear kc2 kc1 ke1)
             all_goals first|(exfalso;simp_all;done)|skip
             refine aO ?_
             exact af rfl rfl
       · have hok:rt l z:=fun _=>⟨hr,fun h=>absurd h h0⟩
         clear hb hno
         (have kc1:=hir;refine w0 ?_;(repeat' first|refine W2.mk ?_ ?_|refine W1.mk fun hc=>?_);all_goals clear kc1)
         refine ⟨z + 1,⟨by omega,fun i hi=>?_⟩,by omega,?_⟩
         · rcases Nat.lt_or_ge i z with q|q
           · exact h2 i q
           · obtain rfl:i = z:=by omega
             exact hok
         · exact ab
   · have hb1:b = true:=hb.2 (fun i=>by
       rcases Nat.lt_or_ge i z with q|q
       · exact h2 i q
       · exact fun h=>by omega)
     subst hb1
     clear hb h2
     (refine w0 ?_;(repeat' first|refine W2.mk ?_ ?_|refine W1.mk fun hc=>?_))
     refine aO ?_
     exact af rfl rfl
end
theorem vu {α:Type} {P:List α → Prop} (h0:P []) (h1:∀ l x,P l → P (l ++ [x])):∀ l,P l:=by
 intro l
 have:∀ r:List α,P r.reverse:=by
   intro r
   induction r with
   | nil=>exact h0
   | cons x r ih=>rw [List.reverse_cons];exact h1 _ _ ih
 simpa using this l.reverse
section
end
end Go.Proofs.YtembiemaiacdfaaGreat
