/- Texts joined: PlV PlX PlY Lw35c OpenP. -/
import Derived.Test.YtembiemaiacdfaaGreatJ40
import Derived.Test.YtembiemaiacdfaaGreatJ29
import Derived.Test.YtembiemaiacdfaaGreatJ05
import Derived.Test.YtembiemaiacdfaaGreatJ41
import Derived.Test.YtembiemaiacdfaaGreatJ33
import Derived.Test.YtembiemaiacdfaaGreatJ25
set_option maxRecDepth 10000
set_option maxHeartbeats 8000000
namespace Go.Proofs.YtembiemaiacdfaaGreat
open Go.RowKit
section
theorem Hl (s:ByteArray) (hs:s.size ≤ 16):Fn Tryz.prog 180 [sC s] (.per (bP (rgP ⟨s,s ++ ⟨#[0]⟩,false⟩))):=by
 have hz:(⟨#[0]⟩:ByteArray).size = 1:=rfl
 refine fi Tryz.func180 Tryz.ntmps180 ?_
 (refine w0 ?_;(repeat' (first|refine W2.mk ?_ ?_|refine W1.mk fun hc=>?_|((first|apply aD rfl|apply aF rfl|apply aG rfl|apply aH rfl);(focus (first|((apply az 10;(focus rfl);exact H3 (l:=[0]) ⟨rfl,rfl,rfl⟩ rfl inferInstance inferInstance inferInstance (kK rfl)))|(apply bx;(focus rfl);apply ag rfl rfl rfl rfl rfl;first|((apply az 10;(focus rfl);exact H3 (l:=[0]) ⟨rfl,rfl,rfl⟩ rfl inferInstance inferInstance inferInstance (kK rfl))))));refine w0 ?_))))
 refine aQ ?_
 exact cq inferInstance inferInstance rfl rfl rfl rfl rfl rfl
theorem JS (r c:Int):Fn Tryz.prog 205 [lZ r c] (.per (B4 [⟨r,[⟨c,c⟩]⟩])):=by
 refine fi Tryz.func205 Tryz.ntmps205 ?_
 (refine w0 ?_;(repeat' first|refine W2.mk ?_ ?_|refine W1.mk fun hc=>?_))
 refine aQ ?_
 exact cu rfl
theorem Hm (l:List Vn) (hl:l.length = 1) (r c:Int) (hr:l[0].1 = r) (hc0:l[0].2 = c) (h:cI r c = true):Fn Tryz.prog 179 [eh [],uy l] (.per (B4 [⟨r,[⟨c,c⟩]⟩])):=by
 have hv:=zq h
 have h1:=(zl [] ⟨by simp,by simp⟩).frz
 rw [show em ofR [] = [] from ia eG] at h1
 have h2:=dZ l[0].1 l[0].2
 rw [hr,hc0,h] at h2
 have h3:=JS r c
 have h4:=(qK 1 KO [] [⟨r,[⟨c,c⟩]⟩] ⟨by simp,by simp⟩ ⟨by simp,by simp⟩ (fun q _=>mA (aC [] q) (aC [⟨r,[⟨c,c⟩]⟩] q) (by simp [aC]) (by have:=dM [⟨r,[⟨c,c⟩]⟩] q;simp at this;omega))).frz
 rw [sH,List.nil_append,ia ((kh _ _).2 ⟨⟨hv.1,hv.2.1,by simp,uz hv.2.2⟩,fun q hq=>by simp at hq,eG⟩)] at h4
 refine fi Tryz.func179 Tryz.ntmps179 ?_
 (have kc1:=h1;refine w0 ?_;(repeat' first|refine W2.mk ?_ ?_|refine W1.mk fun hc=>?_);all_goals clear kc1)
 clear h1
 refine ah (X:=Nat) (fun i=>i ≤ 1) (fun i=>aN [(1,uy l),(5,.per (B4 (if i = 0 then [] else [⟨r,[⟨c,c⟩]⟩]))),(6,iC .i64 (i:Nat))] []) (fun i=>1 - i) 0 (Nat.zero_le _) ?_ ?_
 · rw [if_pos rfl]
   exact ab
 · rintro i hi
   by_cases h0:i = 0
   · subst h0
     rw [if_pos rfl]
     subst hr;subst hc0
     (have kc1:=h2;have kc2:=h3;have kc3:=h4;refine w0 ?_;(repeat' first|refine W2.mk ?_ ?_|refine W1.mk fun hc=>?_);all_goals clear kc3 kc2 kc1)
     refine ⟨1,by omega,by omega,?_⟩
     rw [if_neg (by omega)]
     exact ab
   · obtain rfl:i = 1:=by omega
     rw [if_neg (by omega)]
     clear h2 h3 h4
     (refine w0 ?_;(repeat' first|refine W2.mk ?_ ?_|refine W1.mk fun hc=>?_))
     refine aQ ?_
     exact cu rfl
theorem JT (s:ByteArray) (r c:Int) (hs:eu s = true) (h:cI r c = true):Fn Tryz.prog 75 [sC s,lZ r c] (.per (ff (dG s r c))):=by
 have h1:=dZ r c
 rw [h] at h1
 have h2:=Hm [(r,c)] rfl r c rfl rfl h
 have h3:=fZ s
 rw [hs] at h3
 have h4:=Hl s (by unfold eu at hs;simp at hs;omega)
 have h5:Fn Tryz.prog 131 [sC s,uy [(r,c)]] (.per (ff (dG s r c))):=by
   unfold dG
   rw [hs,h,if_pos (by rfl)]
   refine fi Tryz.func131 Tryz.ntmps131 ?_
   (have kc1:=h2;have kc2:=h3;have kc3:=h4;refine w0 ?_;(repeat' first|refine W2.mk ?_ ?_|refine W1.mk fun hc=>?_);all_goals clear kc3 kc2 kc1)
   refine aQ ?_
   exact cu rfl
 clear h2 h3 h4
 generalize dG s r c = R at *
 refine fi Tryz.func75 Tryz.ntmps75 ?_
 (have kc1:=h1;have kc2:=h5;refine w0 ?_;(repeat' first|refine W2.mk ?_ ?_|refine W1.mk fun hc=>?_);all_goals clear kc2 kc1)
 refine aQ ?_
 exact cu rfl
end
theorem xL {l:List It} {k:ByteArray} {i:Nat} (h:∀ j (hj:j < l.length),j < i → l[j].key ≠ k):fA (l.take i) k = none:=by
 unfold fA
 rw [List.find?_eq_none]
 intro x hx
 obtain ⟨j,hj,rfl⟩:=List.mem_take_iff_getElem.1 hx
 simpa using h j (by omega) (by omega)
section
theorem Dh (s:Sta) (k:ByteArray) (hl:s.its.length ≤ 1000000):(fA s.its k = none ∧ Fn Tryz.prog 116 [cY s,sC k] (fL (-1))) ∨ ∃ (i:Nat) (h:i < s.its.length),fA s.its k = some s.its[i] ∧ Fn Tryz.prog 116 [cY s,sC k] (fL (i:Nat)):=by
 have walk:∀ m:Nat,m ≤ s.its.length → (∀ j (hj:j < s.its.length),j < m → s.its[j].key ≠ k) → (∀ hm:m < s.its.length,s.its[m].key = k) → Fn Tryz.prog 116 [cY s,sC k] (fL (if m < s.its.length then (m:Nat) else -1)):=by
   intro m hm h1 h2
   refine fi Tryz.func116 Tryz.ntmps116 ?_
   (refine w0 ?_;(repeat' first|refine W2.mk ?_ ?_|refine W1.mk fun hc=>?_))
   refine ah (X:=Nat) (fun i=>i ≤ m) (fun i=>aN [(1,sC k),(2,.ptr 2 0 0),(5,iC .i64 (i:Nat))] [(2,.box 26 ((o6 s).map Cnt.per))]) (fun i=>m - i) 0 (Nat.zero_le _) ?_ ?_
   · exact ab
   · rintro i hi
     by_cases hlt:i < s.its.length
     · by_cases him:i < m
       · have hne:¬ s.its[i].key.toList = k.toList:=fun q=>h1 i hlt him ((lQ _ _).1 q)
         clear h1 h2
         (refine w0 ?_;(repeat' first|refine W2.mk ?_ ?_|refine W1.mk fun hc=>?_))
         refine ⟨i + 1,him,by omega,?_⟩
         exact ab
       · obtain rfl:i = m:=by omega
         have hne:s.its[i].key.toList = k.toList:=(lQ _ _).2 (h2 hlt)
         rw [if_pos hlt]
         clear h1 h2
         (refine w0 ?_;(repeat' first|refine W2.mk ?_ ?_|refine W1.mk fun hc=>?_))
         refine aQ ?_
         exact aA rfl rfl
     · rw [if_neg (by omega)]
       clear h1 h2
       (refine w0 ?_;(repeat' first|refine W2.mk ?_ ?_|refine W1.mk fun hc=>?_))
       refine aQ ?_
       exact aA rfl rfl
 have key:∀ (d m:Nat),d + m = s.its.length → (∀ j (hj:j < s.its.length),j < m → s.its[j].key ≠ k) → (fA s.its k = none ∧ Fn Tryz.prog 116 [cY s,sC k] (fL (-1))) ∨ ∃ (i:Nat) (h:i < s.its.length),fA s.its k = some s.its[i] ∧ Fn Tryz.prog 116 [cY s,sC k] (fL (i:Nat)):=by
   intro d
   induction d with
   | zero=>
     intro m hm h1
     left
     have hw:=walk m (by omega) h1 (fun h=>by omega)
     rw [if_neg (by omega)] at hw
     have hg:=xL h1
     rw [List.take_of_length_le (by omega)] at hg
     exact ⟨hg,hw⟩
   | succ d ih=>
     intro m hm h1
     have hlt:m < s.its.length:=by omega
     by_cases e:s.its[m].key = k
     · right
       have hw:=walk m (by omega) h1 (fun _=>e)
       rw [if_pos hlt] at hw
       exact ⟨m,hlt,w6 hlt (xL h1) e,hw⟩
     · refine ih (m + 1) (by omega) fun j hj hjm=>?_
       rcases Nat.lt_or_ge j m with q|q
       · exact h1 j hj q
       · obtain rfl:j = m:=by omega
         exact e
 exact key s.its.length 0 (by omega) (fun j _ h=>by omega)
def JU (t:Sta) (x:It):Bool:=match fA t.its x.key with|none=>false|some y=>!vS x y
theorem zS (t:Sta) (x:It) (hl:t.its.length ≤ 1000000):Fn Tryz.prog 63 [cY t,uK x] (bO (JU t x)):=by
 unfold JU
 rcases Dh t x.key hl with ⟨e,h1⟩|⟨i,hi,e,h1⟩
 · rw [e]
   refine fi Tryz.func63 Tryz.ntmps63 ?_
   (have kc1:=h1;refine w0 ?_;(repeat' first|refine W2.mk ?_ ?_|refine W1.mk fun hc=>?_);all_goals clear kc1)
   refine aQ ?_
   exact af rfl rfl
 · rw [e]
   have h2:=se x t.its[i]
   generalize hb:vS x t.its[i] = b at *
   refine fi Tryz.func63 Tryz.ntmps63 ?_
   (have kc1:=h1;have kc2:=h2;refine w0 ?_;(repeat' (first|refine W2.mk ?_ ?_|refine W1.mk fun hc=>?_|((first|apply aD rfl|apply aF rfl|apply aG rfl|apply aH rfl);(focus (first|((apply az 5;(focus rfl);first|exact ar ⟨rfl,rfl,rfl⟩ rfl inferInstance inferInstance rfl rfl rfl rfl|exact au ⟨rfl,rfl,rfl⟩ rfl inferInstance inferInstance rfl rfl rfl rfl))|(apply bx;(focus rfl);apply ag rfl rfl rfl rfl rfl;first|((apply az 5;(focus rfl);first|exact ar ⟨rfl,rfl,rfl⟩ rfl inferInstance inferInstance rfl rfl rfl rfl|exact au ⟨rfl,rfl,rfl⟩ rfl inferInstance inferInstance rfl rfl rfl rfl)))));refine w0 ?_)));all_goals clear kc2 kc1)
   all_goals
     refine aQ ?_
     exact af rfl (by simp [hb])
theorem Di (t:Sta) (l:List It) (hl:l.length ≤ 1000000) (f g h e:It → Bool) (a1:∀ x ∈ l,Fn Tryz.prog 58 [uK x] (bO (f x))) (a2:∀ x ∈ l,Fn Tryz.prog 43 [dg t.flt,sC x.key] (bO (g x)))
   (a3:∀ x ∈ l,Fn Tryz.prog 44 [bS t.know,sC x.key,lZ x.rep x.cnt] (bO (h x))) (a4:∀ x ∈ l,Fn Tryz.prog 63 [cY t,uK x] (bO (e x))) :
   Fn Tryz.prog 27 [cY t,.per (cG l)] (bO (!l.any fun x=>f x && g x && h x && !e x)):=by
 generalize hp:(fun x=>f x && g x && h x && !e x) = p
 refine fi Tryz.func27 Tryz.ntmps27 ?_
 (refine w0 ?_;(repeat' first|refine W2.mk ?_ ?_|refine W1.mk fun hc=>?_))
 refine ah (X:=Nat) (fun i=>i ≤ l.length ∧ (l.take i).any p = false) (fun i=>aN [(1,.per (cG l)),(2,.ptr 2 0 0),(5,iC .i64 (i:Nat))] [(2,.box 26 ((o6 t).map Cnt.per))]) (fun i=>l.length - i) 0 ⟨Nat.zero_le _,rfl⟩ ?_ ?_
 · exact ab
 · rintro i ⟨h1,h2⟩
   by_cases hi:i < l.length
   · have c1:=a1 _ (List.getElem_mem hi)
     have c2:=a2 _ (List.getElem_mem hi)
     have c3:=a3 _ (List.getElem_mem hi)
     have c4:=a4 _ (List.getElem_mem hi)
     have hsn:=oH hi h2
     have hh:=ru (p:=p) hi
     have hpx:p l[i] = (f l[i] && g l[i] && h l[i] && !e l[i]):=by rw [← hp]
     clear a1 a2 a3 a4 hp h2
     generalize f l[i] = x1 at *
     generalize g l[i] = x2 at *
     generalize h l[i] = x3 at *
     generalize e l[i] = x4 at *
     generalize p l[i] = px at *
     by_cases hq:px = true
     · subst hq
       rw [hh rfl]
       have hq:x1 = true ∧ x2 = true ∧ x3 = true ∧ x4 = false:=by simpa [and_assoc] using hpx.symm
       obtain ⟨rfl,rfl,rfl,rfl⟩:=hq
       clear hsn hh hpx
       (have kc1:=c1;have kc2:=c2;have kc3:=c3;have kc4:=c4;refine w0 ?_;(repeat' first|refine W2.mk ?_ ?_|refine W1.mk fun hc=>?_);all_goals clear kc4 kc3 kc2 kc1)
       refine aQ ?_
       exact af rfl rfl
     · have hq:px = false:=by simpa using hq
       subst hq
       clear hh
       cases x1 <;> cases x2 <;> cases x3 <;> cases x4
       all_goals first|(exfalso;revert hpx;decide)|skip
       all_goals clear hpx
       all_goals
         (have kc1:=c1;have kc2:=c2;have kc3:=c3;have kc4:=c4;refine w0 ?_;(repeat' first|refine W2.mk ?_ ?_|refine W1.mk fun hc=>?_);all_goals clear kc4 kc3 kc2 kc1)
         refine ⟨i + 1,⟨by omega,hsn⟩,by omega,?_⟩
         exact ab
   · rw [List.take_of_length_le (by omega)] at h2
     rw [h2]
     clear a1 a2 a3 a4 hp h2
     (refine w0 ?_;(repeat' first|refine W2.mk ?_ ?_|refine W1.mk fun hc=>?_))
     refine aQ ?_
     exact af rfl rfl
end
theorem Dj {α:Type} (lt:α → α → Bool) (x:α):∀ (l r:List α),(iU lt x l r).Perm (x :: (l ++ r)):=by
 intro l
 induction l with
 | nil=>intro r;exact List.Perm.refl _
 | cons y l ih=>
   intro r
   rw [iU]
   split
   · refine (ih (y :: r)).trans (List.Perm.cons x ?_)
     exact List.perm_middle
   · refine List.perm_middle.trans (List.Perm.cons x ?_)
     exact List.Perm.append_right r (List.reverse_perm _)
theorem zT {α:Type} (lt:α → α → Bool) (l:List α):(dc lt l).Perm l:=by
 have key:∀ (l p:List α),(l.foldl (gC lt) p).Perm (p ++ l):=by
   intro l
   induction l with
   | nil=>intro p;simp
   | cons x l ih=>
     intro p
     refine (ih _).trans ?_
     have h:(gC lt p x).Perm (x :: p):=by
       have:=Dj lt x p.reverse []
       rw [List.append_nil] at this
       exact this.trans (List.Perm.cons x (List.reverse_perm p))
     exact (List.Perm.append_right l h).trans List.perm_middle.symm
 have:=key l []
 rw [List.nil_append] at this
 exact this
theorem zU (R:List Rg) (hs:Int → Int → Bool) (l:List It):(fy R hs l).Perm l:=by rw [xm];exact zT _ l
def nK (l:List It):List Pc:=l.flatMap fun x=>dG x.key x.rep x.cnt
theorem L5 (X:List Pc) {n r:Nat} (h1:X.length ≤ n) (h2:((X.flatMap Pc.set).flatMap Kn.runs).length ≤ r):oJ (ki X) (1 + 2 * n) r:=by
 obtain ⟨k1,k2⟩:=fF X
 refine ⟨?_,fun p hp=>?_⟩
 · have q1:=nc (fh X) (fN X)
   have q2:=qy X
   unfold ki
   omega
 · obtain ⟨_,s,h3⟩:=ld k1 p hp
   rw [← h3,k2]
   have q1:=sF (X.flatMap (gH s))
   have q2:=eH Kn.runs (qw (qx s) X)
   exact ⟨xD _,by
     show ((em ofR (X.flatMap (gH s))).flatMap Kn.runs).length ≤ r
     have:(X.flatMap fun p=>p.set) = X.flatMap Pc.set:=rfl
     omega⟩
theorem xM:∀ (l:List It),(nK l).length ≤ l.length ∧ (((nK l).flatMap Pc.set).flatMap Kn.runs).length ≤ l.length:=by
 intro l
 induction l with
 | nil=>exact ⟨Nat.le_refl _,Nat.le_refl _⟩
 | cons x l ih=>
   have e:nK (x :: l) = dG x.key x.rep x.cnt ++ nK l:=rfl
   rw [e,List.length_append,List.flatMap_append,List.flatMap_append,List.length_append,List.length_cons]
   have:(dG x.key x.rep x.cnt).length ≤ 1 ∧ (((dG x.key x.rep x.cnt).flatMap Pc.set).flatMap Kn.runs).length ≤ 1:=by
     unfold dG;split <;> simp
   omega
theorem L6 {X:List Pc} {s:ByteArray} {r c:Int}:aZ (ki X) s r c = fw (fh X s) r c:=by
 obtain ⟨h1,h2⟩:=fF X
 rw [du h1,h2]
theorem Hn {l:List It} (hl:l.all itR = true) (s:ByteArray) (r c:Int):fw (fh (nK l) s) r c = l.any fun x=>Kb x s r c:=by
 induction l with
 | nil=>rw [show nK [] = [] from rfl,KT,jJ];rfl
 | cons x l ih=>
   rw [List.all_cons,Bool.and_eq_true] at hl
   have hx:=hl.1
   unfold itR at hx
   simp only [Bool.and_eq_true] at hx
   have e:nK (x :: l) = dG x.key x.rep x.cnt ++ nK l:=rfl
   have o:=sQ hx.1.1 hx.1.2 s r c
   have ok:=(lh hx.1.1 hx.1.2).1
   rw [du ok,← dA ok] at o
   rw [e,oy,Bool.eq_iff_iff,wG,List.any_cons,Bool.or_eq_true,o,ih hl.2]
   unfold Kb
   rfl
theorem Dk {l:List It} (hl:l.all itR = true):jN l = ki (nK l):=by
 obtain ⟨h1,h2⟩:=li hl
 exact qX h1 (fF _).1 fun s r c=>by rw [h2,L6,Hn hl]
theorem zV {l:List It} (hl:l.all itR = true):oJ (jN l) (1 + 2 * l.length) l.length:=by
 rw [Dk hl]
 exact L5 _ (xM l).1 (xM l).2
theorem Dl (l:List It) (x:It) (hx:itR x = true):jN (l ++ [x]) = ki (jN l ++ dG x.key x.rep x.cnt):=by
 unfold itR at hx
 simp only [Bool.and_eq_true] at hx
 unfold jN
 rw [List.foldl_append]
 simp only [List.foldl_cons,List.foldl_nil]
 rw [if_pos hx.1.2]
theorem oE.known {t g:Sta} {c:List It} (hI:oE t c g) (ht:aO t.know) (hc:c.all itR = true):g.know = ki (t.know ++ jN c):=by
 obtain ⟨o1,o2⟩:=li hc
 exact qX (kp hI.right).1 (fF _).1 fun s r n=>by rw [ew ht o1,hI.has,o2]
theorem oE.items {t g:Sta} {c:List It} (hI:oE t c g) (ht:t.its.all itR = true) (hc:c.all itR = true):g.its = aV [t.its ++ c]:=by
 refine Up.uniq (iI hI.right).2 (bw _).1 fun k=>?_
 rw [(bw _).2.2,hI.look]
 rw [show ([t.its ++ c]:List (List It)).flatten = t.its ++ c by simp,List.filter_append,b7 ht,b7 hc]
structure Kf (t:Sta) (c:List It):Prop where
 tb:Hu t
 tr:ef t = true
 cl:c.length ≤ 24
 cr:c.all itR = true
theorem Kf.B {t g:Sta} {c:List It} (h:Kf t c) (hI:oE t c g):Ds g ∧ g.its.length ≤ 48 ∧ g.flt.length ≤ 8 ∧ oJ g.know 150 280:=by
 obtain ⟨_,_,_,_,c5,c6,_⟩:=ei h.tr
 have hk:=hI.known c6 h.cr
 have hi:=hI.items (qW c5) h.cr
 have hw:=(h.tb.kw.join (zV h.cr) c6 (li h.cr).1)
 rw [← hk] at hw
 have hcl:=h.cl
 have il:=h.tb.il
 have fl:=h.tb.fl
 have hw2:=hw.le (c:=150) (d:=280) (by omega) (by omega)
 have hl:=lV [t.its ++ c]
 simp only [List.flatten_cons,List.flatten_nil,List.append_nil,List.length_append] at hl
 rw [← hi] at hl
 have hkl:=hw2.len
 have hkey:jG g.its:=fun x hx=>by
   have:=List.all_eq_true.1 (iI hI.right).1 x hx
   unfold itR eu at this
   simp only [Bool.and_eq_true,decide_eq_true_eq] at this
   omega
 exact ⟨⟨by rw [hI.flt];omega,hw2.mid (by decide) (by decide),by omega,by omega,hkey⟩,by omega,by rw [hI.flt];omega,hw2⟩
theorem Kf.tk {t g:Sta} {c b:List It} (h:Kf t c) (hI:oE t c g) (hb:b.length ≤ 24) (hr:b.all itR = true):Lj g (aV [b]) (jN b):=by
 obtain ⟨b1,b2,b3,b4⟩:=h.B hI
 obtain ⟨o1,_⟩:=li hr
 have w1:=(zV hr).le (c:=49) (d:=24) (by omega) hb
 have w2:=(w1.rest o1 g.flt).le (c:=120) (d:=24) (by omega) (Nat.le_refl _)
 have hl:=lV [b]
 simp only [List.flatten_cons,List.flatten_nil,List.append_nil] at hl
 have hk:jG (aV [b]):=fun x hx=>by
   have:=List.all_eq_true.1 (mG [b]) x hx
   unfold itR eu at this
   simp only [Bool.and_eq_true,decide_eq_true_eq] at this
   omega
 exact ⟨b1,by omega,by omega,hk,by omega,w1.mid (by decide) (by decide),by have:=w1.len;omega,fun _=>w2.mid (by decide) (by decide),fun _=>by have:=w2.len;omega,fun _ _=>(b4.app w2).mid (by decide) (by decide)⟩
theorem Kf.tkE {s t g:Sta} {c:List It} (h:Kf t c) (hI:oE t c g) (hs:Hu s) (hsr:ef s = true):Lj g [] (aR s.know t.flt):=by
 obtain ⟨b1,b2,b3,b4⟩:=h.B hI
 obtain ⟨_,_,_,_,_,c6,_⟩:=ei hsr
 have fl:=h.tb.fl
 have w1:=(hs.kw.rest c6 t.flt).le (c:=65) (d:=256) (by omega) (Nat.le_refl _)
 have w2:=(w1.rest (dp _ _).1 g.flt).le (c:=150) (d:=256) (by omega) (Nat.le_refl _)
 exact ⟨b1,by omega,by simp,(fun x hx=>by cases hx),by omega,w1.mid (by decide) (by decide),by have:=w1.len;omega,fun _=>w2.mid (by decide) (by decide),fun _=>by have:=w2.len;omega,fun _ _=>(b4.app w2).mid (by decide) (by decide)⟩
theorem pD {α:Type} (D:List (List α)) (i:Nat):(D.take i).flatten.length ≤ D.flatten.length ∧ ∀ x ∈ (D.take i).flatten,x ∈ D.flatten:=by
 have e:D.flatten = (D.take i).flatten ++ (D.drop i).flatten:=by rw [← List.flatten_append,List.take_append_drop]
 constructor
 · rw [e,List.length_append];omega
 · intro x hx;rw [e];exact List.mem_append_left _ hx
theorem JV {α:Type} {D:List (List α)} {i:Nat} {b:List α} (h:D[i]? = some b):(D.take (i + 1)).flatten = (D.take i).flatten ++ b:=by
 obtain ⟨h1,rfl⟩:=List.getElem?_eq_some_iff.1 h
 rw [List.take_succ_eq_append_getElem h1,List.flatten_append];simp
section
theorem JW (l:List It) (hl:l.length ≤ 100) (hr:l.all itR = true):Fn Tryz.prog 30 [di l] (.per (ff (jN l))):=by
 have hall:∀ i,(l.take i).all itR = true:=fun i=>List.all_eq_true.2 fun x hx=>List.all_eq_true.1 hr x (List.mem_of_mem_take hx)
 refine fi Tryz.func30 Tryz.ntmps30 ?_
 (refine w0 ?_;(repeat' first|refine W2.mk ?_ ?_|refine W1.mk fun hc=>?_))
 refine ck (bz 3 600 110 4 rfl rfl) (ck (iv 600 _ 110 4 rfl rfl) ?_)
 refine ah (X:=Nat) (fun i=>i ≤ l.length) (fun i=>aN [(0,di l),(3,gM (jN (l.take i))),(4,iC .i64 (i:Nat))] []) (fun i=>l.length - i) 0 (Nat.zero_le _) ?_ ?_
 · exact ab
 · rintro i hi
   by_cases hlt:i < l.length
   · have hx:=List.all_eq_true.1 hr _ (List.getElem_mem hlt)
     have hx':=hx
     unfold itR at hx'
     simp only [Bool.and_eq_true] at hx'
     have c1:=JT l[i].key l[i].rep l[i].cnt hx'.1.1 hx'.1.2
     have w:=zV (hall i)
     have hti:(l.take i).length ≤ 100:=by rw [List.length_take];omega
     have w1:=w.le (c:=201) (d:=100) (by omega) hti
     have w2:oJ (dG l[i].key l[i].rep l[i].cnt) 1 1:=by
       unfold dG
       rw [hx'.1.1,hx'.1.2,if_pos (by rfl)]
       exact ⟨by simp,fun p hp=>by rw [List.mem_singleton.1 hp];simp⟩
     have c2:=(xx (jN (l.take i)) (dG l[i].key l[i].rep l[i].cnt) (w1.mid (by decide) (by decide)) (w2.mid (by decide) (by decide)) ((w1.app w2).mid (by decide) (by decide)) (by have:=w1.len;omega) (by have:=w2.len;omega)).frz
     rw [← Dl _ _ hx,← aJ l i hlt] at c2
     clear hall hx hx' w w1 w2 hr
     generalize jN (l.take i) = A at *
     generalize hA2:jN (l.take (i + 1)) = A2 at *
     generalize dG l[i].key l[i].rep l[i].cnt = O at *
     (have kc1:=c1;have kc2:=c2;refine w0 ?_;(repeat' (first|refine W2.mk ?_ ?_|refine W1.mk fun hc=>?_|((first|apply aD rfl|apply aF rfl|apply aG rfl|apply aH rfl);(focus (first|((apply az 5;(focus rfl);first|exact ar ⟨rfl,rfl,rfl⟩ rfl inferInstance inferInstance rfl rfl rfl rfl|exact au ⟨rfl,rfl,rfl⟩ rfl inferInstance inferInstance rfl rfl rfl rfl))|(apply bx;(focus rfl);apply ag rfl rfl rfl rfl rfl;first|((apply az 5;(focus rfl);first|exact ar ⟨rfl,rfl,rfl⟩ rfl inferInstance inferInstance rfl rfl rfl rfl|exact au ⟨rfl,rfl,rfl⟩ rfl inferInstance inferInstance rfl rfl rfl rfl)))));refine w0 ?_)));all_goals clear kc2 kc1)
     refine ⟨i + 1,by omega,by omega,?_⟩
     rw [hA2]
     exact ab
   · rw [List.take_of_length_le (by omega)]
     generalize jN l = A at *
     clear hall
     (refine w0 ?_;(repeat' first|refine W2.mk ?_ ?_|refine W1.mk fun hc=>?_))
     refine aQ ?_
     exact cu rfl
theorem rP (s t:Sta) (F:List Rg) (K:List Pc) (lim:Int) (R:List Rg) (b:List UInt8) (h:ji s = true ∨ ji t = true ∨ nI t.flt t.know R b = true):Fn Tryz.prog 6 [cY s,cY t,jT F K lim R b] (bO true):=by
 have a0:=pC
 have a1:=nH s
 have a2:=nH t
 have a3:=xK t.flt t.know lim R b
 cases h1:ji s <;> cases h2:ji t <;> cases h3:nI t.flt t.know R b
 case false.false.false=>rw [h1,h2,h3] at h;simp at h
 all_goals
   rw [h1] at a1
   rw [h2] at a2
   rw [h3] at a3
   clear h h1 h2 h3
   refine fi Tryz.func6 Tryz.ntmps6 ?_
   (have kc1:=a0;have kf1:=a1;have kf2:=a2;have kc2:=a3;refine w0 ?_;(repeat' first|refine W2.mk ?_ ?_|refine W1.mk fun hc=>?_);all_goals clear kc2 kf2 kf1 kc1)
   refine aQ ?_
   exact af rfl rfl
theorem uI (s t:Sta) (F:List Rg) (K:List Pc) (lim:Int) (R:List Rg) (b:List UInt8) (r1 r2 so:Bool) (h:(r1 && (r2 && so)) = false) (a1:Fn Tryz.prog 8 [cY s] (bO false)) (a2:Fn Tryz.prog 8 [cY t] (bO false)) (a3:Fn Tryz.prog 14 [jT t.flt t.know lim R b] (bO false))
   (a4:Fn Tryz.prog 9 [cY s] (bO r1)) (a5:Fn Tryz.prog 9 [cY t] (bO r2)) (a6:Fn Tryz.prog 27 [cY t,.per (cG s.its)] (bO so)):Fn Tryz.prog 6 [cY s,cY t,jT F K lim R b] (bO true):=by
 have a0:=pC
 cases r1 <;> cases r2 <;> cases so
 case true.true.true=>cases h
 all_goals
   clear h
   refine fi Tryz.func6 Tryz.ntmps6 ?_
   (have kc1:=a0;have kf1:=a1;have kf2:=a2;have kc2:=a3;have kf3:=a4;have kf4:=a5;have kc3:=a6;refine w0 ?_;(repeat' first|refine W2.mk ?_ ?_|refine W1.mk fun hc=>?_);all_goals clear kc3 kf4 kf3 kc2 kf2 kf1 kc1)
   refine aQ ?_
   exact af rfl rfl
theorem uJ (s t u:Sta) (F:List Rg) (K:List Pc) (lim:Int) (R:List Rg) (b:List UInt8) (e f:Int) (h:e ≠ 0 ∨ f ≠ 0) (a1:Fn Tryz.prog 8 [cY s] (bO false)) (a2:Fn Tryz.prog 8 [cY t] (bO false)) (a3:Fn Tryz.prog 14 [jT t.flt t.know lim R b] (bO false))
   (a4:Fn Tryz.prog 9 [cY s] (bO true)) (a5:Fn Tryz.prog 9 [cY t] (bO true)) (a6:Fn Tryz.prog 27 [cY t,.per (cG s.its)] (bO true)) (th:PV) (bs:List Bool) (pr sd:Int)
   (a7:Fn Tryz.prog 10 [cY s,cY t] (.tup2 (.per (sL u)) (fL e))) (a8:Fn Tryz.prog 15 [jT t.flt t.know lim R b] (.tup2 (.per (bP (xt t.flt t.know lim R th))) (.per (bP (zP t.flt t.know lim R bs pr sd))))) (B:List (List It)) (J:List Pc)
   (a9:Fn Tryz.prog 11 [cY s,mF t.flt t.know lim R th] (.tup2 (.per (sY B J)) (fL f))):Fn Tryz.prog 6 [cY s,cY t,jT F K lim R b] (bO true):=by
 have a0:=pC
 refine fi Tryz.func6 Tryz.ntmps6 ?_
 (have kc1:=a0;have kf1:=a1;have kf2:=a2;have kc2:=a3;have kf3:=a4;have kf4:=a5;have kc3:=a6;have kc4:=a7;have kc5:=a8;have kc6:=a9;refine w0 ?_;(repeat' first|refine W2.mk ?_ ?_|refine W1.mk fun hc=>?_);all_goals clear kc6 kc5 kc4 kc3 kf4 kf3 kc2 kf2 kf1 kc1)
 all_goals first|(exfalso;rcases h with h|h <;> contradiction)|skip
 all_goals
   refine aQ ?_
   exact af rfl rfl
theorem rQ (s t u:Sta) (F:List Rg) (K:List Pc) (lim:Int) (R:List Rg) (b:List UInt8) (a1:Fn Tryz.prog 8 [cY s] (bO false)) (a2:Fn Tryz.prog 8 [cY t] (bO false)) (a3:Fn Tryz.prog 14 [jT t.flt t.know lim R b] (bO false))
   (a4:Fn Tryz.prog 9 [cY s] (bO true)) (a5:Fn Tryz.prog 9 [cY t] (bO true)) (a6:Fn Tryz.prog 27 [cY t,.per (cG s.its)] (bO true)) (th:PV) (bs:List Bool) (pr sd:Int)
   (a7:Fn Tryz.prog 10 [cY s,cY t] (.tup2 (.per (sL u)) (fL 0))) (a8:Fn Tryz.prog 15 [jT t.flt t.know lim R b] (.tup2 (.per (bP (xt t.flt t.know lim R th))) (.per (bP (zP t.flt t.know lim R bs pr sd))))) (B D:List (List It)) (J:List Pc)
   (a9:Fn Tryz.prog 11 [cY s,mF t.flt t.know lim R th] (.tup2 (.per (sY B J)) (fL 0))) (hB:B.length ≤ 1000) (hbl:b.length ≤ 1000)
   (hD:(b.length % 2 = 1 ∧ D = B.reverse) ∨ (b.length % 2 = 0 ∧ D = B)) (hDf:D.flatten.length ≤ 24) (hDr:∀ x ∈ D.flatten,itR x = true ∧ bg t.flt x.key = true) (ht:Hu t) (htr:ef t = true)
   (hend:∀ g,oE t D.flatten g → Fn Tryz.prog 28 [cY g,.per Lu,gM J] (.tup2 (.per (sL u)) (fL 0))) (a10:Fn Tryz.prog 32 [cY u,cY u] (bO true)) :
   Fn Tryz.prog 6 [cY s,cY t,jT F K lim R b] (bO true):=by
 have a0:=pC
 have hDl:D.length = B.length:=by rcases hD with ⟨_,rfl⟩|⟨_,rfl⟩ <;> simp
 have gtb:∀ i,Kf t (D.take i).flatten:=fun i=>⟨ht,htr,by have:=(pD D i).1;omega,List.all_eq_true.2 fun x hx=>(hDr x ((pD D i).2 x hx)).1⟩
 refine fi Tryz.func6 Tryz.ntmps6 ?_
 (have kc1:=a0;have kf1:=a1;have kf2:=a2;have kc2:=a3;have kf3:=a4;have kf4:=a5;have kc3:=a6;have kc4:=a7;have kc5:=a8;have kc6:=a9;refine w0 ?_;(repeat' first|refine W2.mk ?_ ?_|refine W1.mk fun hc=>?_);all_goals clear kc6 kc5 kc4 kc3 kf4 kf3 kc2 kf2 kf1 kc1)
 clear a0 a1 a2 a3 a4 a5 a6 a7 a8 a9
 refine ah (X:=Nat × Sta) (fun x=>x.1 ≤ B.length ∧ oE t (D.take x.1).flatten x.2)
   (fun x=>aN [(5,.ptr 5 0 0),(7,.ptr 7 0 0),(11,.ptr 11 0 0),(13,.ptr 13 0 0),(14,iC .i64 (B.length:Nat)),(86,iC .i64 (B.length:Nat)),(87,iC .i64 (x.1:Nat))]
     [(5,.box 45 ((zQ t.flt t.know lim R b).map Cnt.per)),(7,.box 26 ((o6 u).map Cnt.per)),(11,.box 33 [.per (ct 1 (B.map fun c=>[cG c])),gM J]),(13,.box 26 ((o6 x.2).map Cnt.per))]) (fun x=>B.length - x.1) (0,t) ⟨Nat.zero_le _,CO htr⟩ ?_ ?_
 · exact ab
 · rintro ⟨i,g⟩ ⟨h1,h2⟩
   simp only at h1 h2 ⊢
   by_cases hi:i < B.length
   · obtain ⟨q,hq,hpar⟩:∃ q,q < B.length ∧ ((b.length % 2 = 1 ∧ q = B.length - 1 - i) ∨ (b.length % 2 = 0 ∧ q = i)):=by
       rcases hD with ⟨e,_⟩|⟨e,_⟩
       · exact ⟨B.length - 1 - i,by omega,.inl ⟨e,rfl⟩⟩
       · exact ⟨i,hi,.inr ⟨e,rfl⟩⟩
     have hDi:D[i]? = some B[q]:=by
       rcases hD with ⟨e,rfl⟩|⟨e,rfl⟩ <;> rcases hpar with ⟨e',rfl⟩|⟨e',rfl⟩
       · rw [List.getElem?_reverse hi,List.getElem?_eq_getElem (by omega)]
       · omega
       · omega
       · exact List.getElem?_eq_getElem hi
     have hsn:=JV hDi
     have hmem:∀ x ∈ B[q],x ∈ D.flatten:=fun x hx=>(pD D (i + 1)).2 x (by rw [hsn];exact List.mem_append_right _ hx)
     have hbr:B[q].all itR = true:=List.all_eq_true.2 fun x hx=>(hDr x (hmem x hx)).1
     have hbf:∀ x ∈ B[q],bg t.flt x.key = true:=fun x hx=>(hDr x (hmem x hx)).2
     have hbl2:B[q].length ≤ 24:=by
       have:=(pD D (i + 1)).1
       rw [hsn,List.length_append] at this
       omega
     have tk:=(gtb i).tk h2 hbl2 hbr
     have c1:=(s8 B[q] (Bm hbr) (by omega)).frz
     have c2:=JW B[q] (by omega) hbr
     have c3:=Bg g _ _ tk
     have c4:=xG g _ _ tk
     have hstep:=CP (b:=B[q]) h2 hbr hbf
     have HQ:(B.map fun c=>[cG c])[q]? = some [cG B[q]]:=by rw [List.getElem?_map,List.getElem?_eq_getElem hq];rfl
     clear tk hbr hbf hmem hDi hend a10 gtb hDr ht htr hDf h2
     generalize aV [B[q]] = MB at *
     generalize jN B[q] = OB at *
     generalize dS g MB OB = W at *
     obtain ⟨g',e⟩:=W
     dsimp only at c3 c4 hstep
     by_cases he:e = 0
     · subst he
       rw [← hsn] at hstep
       have hstep:=hstep rfl
       clear c4 hsn
       rcases hpar with ⟨p1,p2⟩|⟨p1,p2⟩
       · have hm1:((B.length:Nat):Int) - 1 = ((B.length - 1:Nat):Int):=by omega
         have hm2:((B.length - 1:Nat):Int) - (i:Int) = ((q:Nat):Int):=by omega
         (have kc1:=c1;have kc2:=c2;have kc3:=c3;have ke1:=Lib.hid (hm1);have ke2:=Lib.hid (hm2);refine bq ?_;(repeat' first|refine W2.mk ?_ ?_|refine W1.mk fun hc=>?_);all_goals clear ke2 ke1 kc3 kc2 kc1)
         refine ⟨(i + 1,g'),⟨by simp only;omega,hstep⟩,by simp only;omega,?_⟩
         exact ab
       · subst p2
         (have kc1:=c1;have kc2:=c2;have kc3:=c3;refine w0 ?_;(repeat' first|refine W2.mk ?_ ?_|refine W1.mk fun hc=>?_);all_goals clear kc3 kc2 kc1)
         refine ⟨(q + 1,g'),⟨by simp only;omega,hstep⟩,by simp only;omega,?_⟩
         exact ab
     · clear hstep hsn
       rcases hpar with ⟨p1,p2⟩|⟨p1,p2⟩
       · have hm1:((B.length:Nat):Int) - 1 = ((B.length - 1:Nat):Int):=by omega
         have hm2:((B.length - 1:Nat):Int) - (i:Int) = ((q:Nat):Int):=by omega
         (have kc1:=c1;have kc2:=c2;have kc3:=c3;have kc4:=c4;have ke1:=Lib.hid (hm1);have ke2:=Lib.hid (hm2);refine bq ?_;(repeat' first|refine W2.mk ?_ ?_|refine W1.mk fun hc=>?_);all_goals clear ke2 ke1 kc4 kc3 kc2 kc1)
         refine aQ ?_
         exact af rfl (by simp)
       · subst p2
         (have kc1:=c1;have kc2:=c2;have kc3:=c3;have kc4:=c4;refine w0 ?_;(repeat' first|refine W2.mk ?_ ?_|refine W1.mk fun hc=>?_);all_goals clear kc4 kc3 kc2 kc1)
         refine aQ ?_
         exact af rfl (by simp)
   · have hiB:i = B.length:=by omega
     rw [hiB,← hDl,List.take_length] at h2
     have c5:=hend g h2
     clear hend gtb hDr ht htr h2
     (have kc1:=c5;have kc2:=a10;refine w0 ?_;(repeat' first|refine W2.mk ?_ ?_|refine W1.mk fun hc=>?_);all_goals clear kc2 kc1)
     refine aQ ?_
     exact af rfl rfl
end
theorem Ho (s t:Sta) (F:List Rg) (K:List Pc) (lim:Int) (R:List Rg) (b:List UInt8) (l1:-9223372036854775808 ≤ lim) (l2:lim ≤ 9223372036854775807):Fn Tryz.prog 6 [cY s,cY t,jT F K lim R b] (bO true):=by
 by_cases hlg:ji s = true ∨ ji t = true ∨ nI t.flt t.know R b = true
 · exact rP s t F K lim R b hlg
 have h1:ji s = false:=by cases h:ji s;rfl;exact absurd (.inl h) hlg
 have h2:ji t = false:=by cases h:ji t;rfl;exact absurd (.inr (.inl h)) hlg
 have h3:nI t.flt t.know R b = false:=by cases h:nI t.flt t.know R b;rfl;exact absurd (.inr (.inr h)) hlg
 have a1:=nH s
 have a2:=nH t
 have a3:=xK t.flt t.know lim R b
 rw [h1] at a1
 rw [h2] at a2
 rw [h3] at a3
 have hs:=xJ h1
 have ht:=xJ h2
 obtain ⟨f1,f2,f3,f4⟩:=JR h3
 have a4:=jS s hs.st
 have a5:=jS t ht.st
 have il:=hs.il
 have a6:=Di t s.its (by omega) itR (fun x=>bg t.flt x.key) (fun x=>aZ t.know x.key x.rep x.cnt) (JU t) (fun x _=>ja x) (fun x hx=>k4 t.flt x.key (by omega) (hs.ik x hx)) (fun x hx=>nl t.know x.key x.rep x.cnt (bM ht.st.kmid) (hs.ik x hx)) (fun x _=>zS t x ht.st.its)
 generalize (!s.its.any fun x=>itR x && bg t.flt x.key && aZ t.know x.key x.rep x.cnt && !JU t x) = so at *
 by_cases hbad:(ef s && (ef t && so)) = false
 · exact uI s t F K lim R b _ _ _ hbad a1 a2 a3 a4 a5 a6
 have hgood:ef s = true ∧ ef t = true ∧ so = true:=by simpa using hbad
 obtain ⟨r1,r2,rfl⟩:=hgood
 rw [r1] at a4
 rw [r2] at a5
 obtain ⟨th,bs,pr,sd,hsf,a8,hP,hQ,hZ⟩:=Hj t.flt t.know lim R b (by omega)
 have hA:L4 s t.flt t.know lim R th hsf:=⟨hs.st,by omega,by omega,by omega,ht.st.kmid,l1,l2,hP⟩
 have a9:=uF hA
 have a7:=He s t hs.st ht.st (fun _ _=>JQ hs ht r1 r2)
 by_cases he:(ej s t).2 ≠ 0 ∨ (iL s t.flt t.know lim R hsf).2.2 ≠ 0
 · exact uJ s t _ F K lim R b _ _ he a1 a2 a3 a4 a5 a6 th bs pr sd a7 a8 _ _ a9
 have e1:(ej s t).2 = 0:=by
   by_cases q:(ej s t).2 = 0
   · exact q
   · exact absurd (.inl q) he
 have e2:(iL s t.flt t.know lim R hsf).2.2 = 0:=by
   by_cases q:(iL s t.flt t.know lim R hsf).2.2 = 0
   · exact q
   · exact absurd (.inr q) he
 rw [e1] at a7
 rw [e2] at a9
 obtain ⟨m1,m2,m3,m4⟩:=Hk e2
 rw [m3,m4] at a9
 have hfl:=Dg l2 m2
 have hln:=(Hg l2 m2).1
 have hpm:=zU R hsf (dh s.its t.flt t.know)
 have hul:=nG s.its t.flt t.know
 have hsl:=sX R hsf (dh s.its t.flt t.know)
 obtain ⟨g1,g2⟩:=Lq hs ht e1
 have a10:=Hh (ej s t).1 (ej s t).1 (by have:=g1.flt;omega) (bM g1.kmid) (by omega) rfl
 generalize o7 lim (fy R hsf (dh s.its t.flt t.know)) = B at *
 obtain ⟨D,hD⟩:∃ D,(b.length % 2 = 1 ∧ D = B.reverse) ∨ (b.length % 2 = 0 ∧ D = B):=by
   rcases Nat.mod_two_eq_zero_or_one b.length with q|q
   · exact ⟨B,.inr ⟨q,rfl⟩⟩
   · exact ⟨B.reverse,.inl ⟨q,rfl⟩⟩
 have hDp:D.flatten.Perm (dh s.its t.flt t.know):=by
   refine List.Perm.trans ?_ (hfl ▸ hpm)
   rcases hD with ⟨_,rfl⟩|⟨_,rfl⟩
   · exact (List.reverse_perm B).flatten
   · exact List.Perm.refl _
 have hDl:=hDp.length_eq
 refine rQ s t _ F K lim R b a1 a2 a3 a4 a5 a6 th bs pr sd a7 a8 B D _ a9 (by omega) (by omega) hD (by omega) (fun x hx=>?_) ht r2 (fun g hg=>?_) a10
 · obtain ⟨q1,q2⟩:=List.mem_filter.1 (hDp.mem_iff.1 hx)
   rw [Bool.and_eq_true] at q2
   exact ⟨List.all_eq_true.1 (iI r1).1 x q1,q2.1⟩
 · have tk:=Kf.tkE (s:=s) (t:=t) ⟨ht,r2,by omega,List.all_eq_true.2 fun x hx=>by
     obtain ⟨q1,_⟩:=List.mem_filter.1 (hDp.mem_iff.1 hx)
     exact List.all_eq_true.1 (iI r1).1 x q1⟩ hg hs r1
   have:=Bg g [] (aR s.know t.flt) tk
   rw [Gv hg r1 e1 hDp] at this
   exact this.argsW (.same (.per uv (.same .nil)))
abbrev MU (w:World):BP:=g0.N (cx w)
def Wr {β:Type} (w:World) (k:Nat) (f:β → List PV) (cs:List Value) (y:β):Prop:=
 cs.length = k ∧ (f y).length = k ∧ ∀ (j:Nat) (A:PV) (u:Value),(f y)[j]? = some A → cs[j]? = some u → u.oneCell' = true ∧ A.p (MU w) w u
def Dm {β:Type} (P:Program) (w:World) (t:TypeId) (k:Nat) (f:β → List PV) (Q:β → Prop):Prop:=Rd P w t (fun cs=>∃ y:β,Q y ∧ Wr w k f cs y)
section
variable {P:Program} {w:World} {t e:TypeId} {β:Type} {k:Nat} {f:β → List PV} {Q:β → Prop}
theorem Wr.ones {cs:List Value} {y:β} (h:Wr w k f cs y):∀ u ∈ cs,u.oneCell' = true:=fun u hu=>by
 obtain ⟨j,hj,rfl⟩:=List.getElem_of_mem hu
 have hj':j < (f y).length:=by have:=h.1;have:=h.2.1;omega
 exact (h.2.2 j _ _ (List.getElem?_eq_getElem hj') (List.getElem?_eq_getElem hj)).1
theorem Dm.slice (h:Dm P w e k f Q) (ht:P.underlying t = some (.slice e)) (hk:P.cellsOf e = k) (hk0:0 < k) :
   Rd P w t (fun cs=>∃ (v:Value) (l:List β),cs = [v] ∧ (ct k (l.map f)).p (MU w) w v ∧ ∀ y ∈ l,Q y):=by
 refine (Rd.slice (α:={ cs:List Value // cs.length = k ∧ ∀ u ∈ cs,u.oneCell' = true }) (enc:=fun x=>x.1) (G:=fun x=>∃ y:β,Q y ∧ Wr w k f x.1 y) ht hk hk0 h fun cs ⟨y,h1,h2⟩=>⟨⟨cs,h2.1,h2.ones⟩,rfl,y,h1,h2⟩).mono ?_
 rintro cs ⟨v,lv,rfl,⟨a,c,b,o,rfl,h1,h2,h3,h0,h4⟩,hG⟩
 obtain ⟨l,hl,hg⟩:=nm (G:=fun i y=>∀ (h:i < lv.length),Q y ∧ Wr w k f lv[i].1 y) lv.length (fun i hi=>by
   obtain ⟨y,q1,q2⟩:=hG lv[i] (List.getElem_mem hi)
   exact ⟨y,fun _=>⟨q1,q2⟩⟩)
 refine ⟨_,l,rfl,⟨a,c,b,o,by rw [List.length_map,hl],by rw [List.length_map,hl];exact h1,h2,h0,fun hn=>?_,fun i cs hi=>?_⟩,fun y hy=>?_⟩
 · rw [List.length_map,hl] at hn
   refine ⟨h3 hn,?_,fun hb=>hb.elim id (fun h=>h rfl)⟩
   have hp:=lv[0].2.1
   have:=h4 0 lv[0] (by simp [hn]) 0 (lv[0].1[0]'(by omega)) (by simp)
   rcases Nat.lt_or_ge b w.heap.size with hb|hb
   · exact hb
   · simp [World.cell?,Array.getElem?_eq_none hb] at this
 · rw [List.getElem?_map] at hi
   cases hx:l[i]? with
   | none=>rw [hx] at hi;cases hi
   | some y=>
     rw [hx] at hi;cases hi
     have hil:i < lv.length:=by
       have:=(List.getElem?_eq_some_iff.1 hx).1;omega
     obtain ⟨_,q1,q2,q3⟩:=hg i y hx hil
     refine ⟨q2,fun j A hj=>?_⟩
     have hjk:j < lv[i].1.length:=by
       have:=(List.getElem?_eq_some_iff.1 hj).1;omega
     obtain ⟨r1,r2⟩:=q3 j A _ hj (List.getElem?_eq_getElem hjk)
     exact ⟨_,h4 i lv[i] (List.getElem?_eq_getElem hil) j _ (List.getElem?_eq_getElem hjk),r1,r2⟩
 · obtain ⟨i,hi,rfl⟩:=List.getElem_of_mem hy
   exact (hg i _ (List.getElem?_eq_getElem hi) (by omega)).1
theorem Dm.flat {enc:β → List Value} (hE:Dn k enc) (h:Rd P w e (fun cs=>∃ y,cs = enc y ∧ Q y)):Dm P w e k (dI enc) Q:=
 h.mono fun cs ⟨y,h1,h2⟩=>⟨y,h2,by rw [h1,hE.len],by unfold dI;rw [List.length_map,hE.len],fun j A u hj hu=>by
   unfold dI at hj
   rw [List.getElem?_map] at hj
   rw [h1] at hu
   rw [hu] at hj;cases hj
   exact ⟨hE.one y u (List.mem_of_getElem? hu),rfl⟩⟩
end
end Go.Proofs.YtembiemaiacdfaaGreat
