/- Texts joined: PlA SwX PlB SxW SwB EdK. -/
import Derived.Test.YtliiahjpiagdkaaGreatJ20
import Derived.Test.YtliiahjpiagdkaaGreatJ30
import Derived.Test.YtliiahjpiagdkaaGreatJ05
import Derived.Test.YtliiahjpiagdkaaGreatJ31
import Derived.Test.YtliiahjpiagdkaaGreatJ25
import Derived.Test.YtliiahjpiagdkaaGreatJ19
import Derived.Test.YtliiahjpiagdkaaGreatJ17
set_option maxRecDepth 10000
set_option maxHeartbeats 8000000
namespace Go.Proofs.YtliiahjpiagdkaaGreat
open Go.RowKit
theorem wR {c:Int} (h:1 ≤ c ∧ c ≤ 1099511627776):cu [⟨c,c⟩]:=fun i hi=>by
 intro hi'
 have:i = 0:=by simp at hi;omega
 subst this
 exact ⟨(bK _).2 ⟨by simp;omega,by simp,by simp;omega⟩,fun q=>by omega⟩
theorem BX {r c:Int} (h:cC r c = true):1 ≤ r ∧ r ≤ 16 ∧ 1 ≤ c ∧ c ≤ 1099511627776:=by
 unfold cC at h
 simp at h
 omega
theorem My {r c:Int} (h:cC r c = true) {q:Nat} (hq:r - 1 = (q:Int)):bj ofR 0 ((b6 []).set q [⟨c,c⟩]) = [⟨r,[⟨c,c⟩]⟩]:=by
 have hv:=BX h
 have h1:=sa [] ⟨r,[⟨c,c⟩]⟩ (r:=q) (by omega) (by simp only;omega)
 rw [show aK [] q ++ [(⟨c,c⟩:Rn)] = [⟨c,c⟩] from rfl,List.nil_append] at h1
 rw [← h1]
 exact kO ((kN _ _).2 ⟨⟨hv.1,hv.2.1,by simp,wR hv.2.2⟩,fun q hq=>by simp at hq,gd⟩)
section
theorem JZ (c:Int) (h:1 ≤ c ∧ c ≤ 1099511627776):Fn Tryz.prog 217 [.per (jH []),MY [c]] (yw [⟨c,c⟩]):=by
 have h1:=(nF [] (by simp))
 have h2:=vU [⟨c,c⟩] (by simp)
 rw [AQ (wR h)] at h2
 refine fi Tryz.func217 Tryz.ntmps217 ?_
 (refine az h1 ?_;repeat' first|apply ai|refine aj fun hc=>?_)
 refine bZ (aN 9 700) ?_
 refine an (X:=Nat) (fun i=>i ≤ 1) (fun i=>ba [(5,.row 700 0),(10,MY [c]),(11,iC .i64 1),(12,iC .i64 (i:Nat))] [(700,.row 147 2 (([⟨c,c⟩]:List Rn).take i |>.map rnP))]) (fun i=>1 - i) 0 (Nat.zero_le _) ?_ ?_
 ·exact ae
 ·rintro i hi
  by_cases h0:i = 0
  ·subst h0
   clear h1 h2
   (refine w0 ?_;repeat' first|apply ai|refine aj fun hc=>?_)
   refine ⟨1,by omega,by omega,ay (aN 700 701) (ay (aN 701 700) ?_)⟩
   exact ae
  ·obtain rfl:i = 1:=by omega
   clear h1
   (refine az h2 ?_;repeat' first|apply ai|refine aj fun hc=>?_)
   refine aU ?_
   exact cI rfl rfl rfl
theorem Mz (l:List Vn) (hl:l.length = 1) (r c:Int) (hr:l[0].1 = r) (hc0:l[0].2 = c) (h:cC r c = true):Fn Tryz.prog 190 [.per (av (.slice none 0 0)),wN l] (k9 [⟨r,[⟨c,c⟩]⟩]):=by
 have hv:=BX h
 have h1:=vT [] ⟨by simp,by simp⟩
 have h2:=eH l[0].1 l[0].2
 rw [hr,hc0,h] at h2
 obtain ⟨q,hq⟩:∃ q:Nat,l[0].1 - 1 = (q:Nat):=⟨(r - 1).toNat,by omega⟩
 have h3:=JZ c hv.2.2
 have hT:=bG []
 have hset:=My h (hr ▸ hq)
 have hT2:((b6 []).set q [⟨c,c⟩]).length = 16:=by rw [List.length_set];exact hT
 have h4:=CC ofR ((b6 []).set q [⟨c,c⟩]) hT2 (fun l hl=>vU l (by
  rcases List.mem_or_eq_of_mem_set hl with q|q
  ·unfold b6 at q
   obtain ⟨j,_,rfl⟩:=List.mem_map.1 q
   simp [aK]
  ·rw [q];simp))
 rw [hset] at h4
 have hg:(b6 [])[q]? = some []:=by rw [b9 [] (by omega)];rfl
 generalize b6 [] = T at *
 have HJ:(iI T)[0 + q * 1]? = some (.per (jH [])):=by
  rw [Nat.zero_add,Nat.mul_one,List.getElem?_map,hg];rfl
 have HB:Nat.ble (0 + q * 1 + 1) (iI T).length = true:=Nat.ble_eq_true_of_le (by simp;omega)
 have HF:∀ (F:Cnt → Cnt) (d:Cnt),(∀ A,F (.per A) = .per A) → F d = .per (cD 2 ([⟨c,c⟩].map rnP)) → (iM (iI T) (0 + q * 1) [d]).map F = iI (T.set q [⟨c,c⟩]):=fun F d e1 e2=>by
  rw [Nat.zero_add,Nat.mul_one,x7 _ _ _ (by simp;omega),List.map_set,e2,yy e1]
  unfold iI
  rw [List.map_set]
 refine fi Tryz.func190 Tryz.ntmps190 ?_
 (refine az h1 ?_;repeat' first|apply ai|refine aj fun hc=>?_|((first|apply aO rfl|apply aP rfl|apply aQ rfl|apply aR rfl);(focus ((try (apply b8;(focus rfl);apply ah rfl rfl rfl rfl rfl));first|((apply bn 6;(focus rfl);exact oh ⟨rfl,rfl⟩ rfl inferInstance rfl rfl rfl rfl rfl rfl (by simp [hT])))));refine az h1 ?_))
 clear h1
 refine an (X:=Nat) (fun i=>i ≤ 1) (fun i=>ba [(5,.ptr 5 0 0),(10,wN l),(11,iC .i64 1),(12,iC .i64 (i:Nat))] [(5,.box 212 (iI (if i = 0 then T else T.set q [⟨c,c⟩])))]) (fun i=>1 - i) 0 (Nat.zero_le _) ?_ ?_
 ·(refine og ?_ ?_;(focus ((repeat (first|exact iO.nil|(refine iO.cons ?_ ?_;rotate_left)));(all_goals try (first|rfl|(refine KO ?_;first|omega|(simp;done)|(simp;omega))|(refine vz ?_;first|(simp;done)|(simp [*];done))))));(focus ((repeat (first|exact iP.nil|(refine iP.cons ?_ ?_;rotate_left)));(all_goals try (first|rfl|(refine vA ?_;(rw [List.map_append] <;> rfl);done)|(refine oq ?_;(rw [List.map_append] <;> rfl);done))))))
  rw [if_pos rfl]
  show Blk.box _ (List.map _ (iM _ 0 ((T.map jH).map .per))) = _
  rw [uE (by rw [List.length_map,List.length_map,hT];rfl),se]
  exact congrArg _ (yy (fun _=>rfl))
 ·rintro i hi
  by_cases h0:i = 0
  ·subst h0
   rw [if_pos rfl]
   clear h4 hset
   subst hr;subst hc0
   (have kc1:=h2;have ko1:=h3;have ke1:=Lib.hid (hq);refine qp ?_;(repeat' first|apply ai|refine aj fun hc=>?_|((first|apply aO rfl|apply aP rfl|apply aQ rfl|apply aR rfl);(focus ((try (apply b8;(focus rfl);apply ah rfl rfl rfl rfl rfl));first|((apply bn 5;(focus rfl);exact mH ⟨rfl,rfl,rfl⟩ rfl inferInstance rfl rfl rfl HJ))|((apply bn 6;(focus rfl);exact jV (c:=.row _ _) ⟨rfl,rfl⟩ rfl inferInstance rfl rfl rfl HB rfl (by first|exact dI (by first|exact cn rfl rfl|exact cE|exact dB)|exact dJ rfl|exact dK rfl rfl|exact dL rfl rfl|exact dg|exact dh|exact di)))));refine qp ?_));all_goals clear ke1 ko1 kc1)
   refine ⟨1,by omega,by omega,ay (je 29 _ 147 2 rfl rfl) ?_⟩
   (refine og ?_ ?_;(focus ((repeat (first|exact iO.nil|(refine iO.cons ?_ ?_;rotate_left)));(all_goals try (first|rfl|(refine KO ?_;first|omega|(simp;done)|(simp;omega))|(refine vz ?_;first|(simp;done)|(simp [*];done))))));(focus ((repeat (first|exact iP.nil|(refine iP.cons ?_ ?_;rotate_left)));(all_goals try (first|rfl|(refine vA ?_;(rw [List.map_append] <;> rfl);done)|(refine oq ?_;(rw [List.map_append] <;> rfl);done))))))
   rw [if_neg (by omega)]
   show Blk.box _ (List.map _ (List.map _ _)) = _
   rw [List.map_map]
   exact congrArg (Blk.box _) (HF _ _ (fun _=>rfl) rfl)
  ·obtain rfl:i = 1:=by omega
   rw [if_neg (by omega)]
   clear h2 h3
   have HP:=pH hT2
   have HB':=sf hT2
   generalize T.set q [⟨c,c⟩] = T2 at *
   (refine az h4 ?_;repeat' first|apply ai|refine aj fun hc=>?_|((first|apply aO rfl|apply aP rfl|apply aQ rfl|apply aR rfl);(focus ((try (apply b8;(focus rfl);apply ah rfl rfl rfl rfl rfl));first|((apply bn 5;(focus rfl);exact kq ⟨rfl,rfl,rfl⟩ rfl inferInstance inferInstance rfl rfl rfl rfl HB' HP))));refine az h4 ?_))
   refine aU ?_
   exact cI rfl rfl rfl
theorem J0 (s:ByteArray) (hs:s.size ≤ 1000):Fn Tryz.prog 218 [sC s] (.per (av (.string (s ++ ⟨#[0]⟩)))):=by
 have hz:(⟨#[0]⟩:ByteArray).size = 1:=rfl
 refine fi Tryz.func218 Tryz.ntmps218 ?_
 (refine w0 ?_;repeat' first|apply ai|refine aj fun hc=>?_)
 refine aU ?_
 exact ct rfl
theorem MA (s:ByteArray) (hs:s.size ≤ 16):Fn Tryz.prog 191 [sC s] (.per (bX (rgP ⟨s,s ++ ⟨#[0]⟩,false⟩))):=by
 have h1:=J0 s (by omega)
 refine fi Tryz.func191 Tryz.ntmps191 ?_
 (refine az h1 ?_;repeat' first|apply ai|refine aj fun hc=>?_)
 refine aU ?_
 exact bL inferInstance inferInstance rfl rfl rfl rfl rfl rfl
theorem J1 (k:List Pc) (s:ByteArray) (r c:Int) (hs:cY s = true) (h:cC r c = true) (hk:bS (k ++ ee s r c)):Fn Tryz.prog 143 [gr k,sC s,wN [(r,c)]] (.per (iq (qu (k ++ ee s r c)))):=by
 have h1:=tw [(r,c)] (by simp)
 have e1:jB (kd ([(r,c)].filter Oo)) = [(r,c)]:=by
  have:Oo (r,c) = true:=h
  simp only [List.filter_cons,this,List.filter_nil,if_true]
  rw [List.perm_singleton.1 (tv [(r,c)])];rfl
 rw [e1] at h1
 have h2:=(Mz [(r,c)] rfl r c rfl rfl h).frz
 have h3:=gb s
 rw [hs] at h3
 have hz:s.size ≤ 16:=by unfold cY at hs;simp at hs;omega
 have h4:=MA s hz
 have h5:=(CT [k,ee s r c] (by simp) (by simpa using hk)).frz
 rw [show ([k,ee s r c]:List (List Pc)).flatten = k ++ ee s r c by simp] at h5
 generalize qu (k ++ ee s r c) = R at *
 unfold ee at h5
 rw [hs,h,if_pos (by rfl)] at h5
 clear hk e1
 refine fi Tryz.func143 Tryz.ntmps143 ?_
 (refine rR h1 h2 h3 h4 ?_;repeat' first|apply ai|refine aj fun hc=>?_)
 refine jx (b7 19 700 66 4 rfl rfl) ?_
 (refine w0 ?_;repeat' first|apply ai|refine aj fun hc=>?_)
 refine jx (je 700 _ 66 4 rfl rfl) ?_
 (refine az h5 ?_;repeat' first|apply ai|refine aj fun hc=>?_)
 refine aU ?_
 exact ct rfl
end
theorem m7 {l:List It} (h:l.all itR = true) (k:ByteArray):0 ≤ ec l k ∧ ec l k ≤ 1099511627776:=by
 unfold ec
 cases hg:bW l k with
 | none=>simp
 | some y=>
  have:=List.all_eq_true.1 h y (m6 hg).1
  unfold itR at this
  simp only [Bool.and_eq_true,decide_eq_true_eq] at this
  simp only
  omega
theorem zz {l:List It} {y:It} (hu:Up l) (hy:y ∈ l):ec l y.key = y.rank:=by
 have h1:=hu.filter y.key
 have hm:y ∈ l.filter (fun x=>x.key == y.key):=List.mem_filter.2 ⟨hy,by rw [io]⟩
 have hone:∀ z ∈ l,z.key = y.key → z = y:=fun z hz e=>by
  have hm2:z ∈ l.filter (fun x=>x.key == y.key):=List.mem_filter.2 ⟨hz,by rw [io];exact e⟩
  rw [h1] at hm hm2
  cases h3:cj y.key l with
  | none=>rw [h3] at hm;simp at hm
  | some w=>rw [h3] at hm hm2;simp at hm hm2;rw [hm,hm2]
 unfold ec
 cases hg:bW l y.key with
 | none=>exact absurd rfl (Fa hg y hy)
 | some z=>
  obtain ⟨q1,q2⟩:=m6 hg
  simp only
  rw [hone z q1 q2]
theorem kX {s:Sta} {k:ByteArray} {prio:Int} {dead:Bool} {body:ByteArray} (h:f0 s = true) (hk:cY k = true) (hp:0 ≤ prio ∧ prio ≤ 255) (hb:body.size ≤ 64) (hd:dead = true → body.size = 0) (hc:s.cnt ≠ 1099511627776) (hr:ec s.its k ≠ 1099511627776):itR (fL s k prio dead body) = true:=by
 obtain ⟨c1,c2,_⟩:=gx h
 have hq:=m7 (dn h).1 k
 unfold itR fL cC
 simp only [Bool.and_eq_true,decide_eq_true_eq]
 refine ⟨⟨hk,?_⟩,by omega,by omega,by omega,by omega,hb,hd⟩
 first|omega|(simp;omega)
theorem u6 {s:Sta} {k:ByteArray} {prio:Int} {dead:Bool} {body:ByteArray} (h:f0 s = true) (hx:itR (fL s k prio dead body) = true):bN [[fL s k prio dead body],s.its] = gi (fL s k prio dead body) s.its:=by
 obtain ⟨h1,h2⟩:=dn h
 refine EC hx h1 h2 fun y hy e=>?_
 have e:y.key = k:=e
 have:=zz h2 hy
 rw [e] at this
 show y.rank < ec s.its k + 1
 omega
theorem pb {s:Sta} {k:ByteArray} {prio:Int} {body:ByteArray} (h:(gS s k prio body).2 = 0):f0 (gS s k prio body).1 = true ∧ (gS s k prio body).1 = nb s (fL s k prio false body) ∧ itR (fL s k prio false body) = true ∧ f0 s = true:=by
 unfold gS at h ⊢
 by_cases c1:f0 s = false
 ·rw [if_pos c1] at h;simp at h
 rw [if_neg c1] at h ⊢
 by_cases c2:cY k = false ∨ prio < 0 ∨ prio > 255 ∨ body.size > 64
 ·rw [if_pos c2] at h;simp at h
 rw [if_neg c2] at h ⊢
 by_cases c3:bA s.flt k = false
 ·rw [if_pos c3] at h;simp at h
 rw [if_neg c3] at h ⊢
 by_cases c4:s.cnt = 1099511627776 ∨ ec s.its k = 1099511627776
 ·rw [if_pos c4] at h;simp at h
 rw [if_neg c4] at h ⊢
 by_cases c5:bW s.its k = none ∧ s.its.length = 4096
 ·rw [if_pos c5] at h;simp at h
 rw [if_neg c5]
 have hs:f0 s = true:=by simpa using c1
 have hk:cY k = true:=by
  cases q:cY k with
  | true=>rfl
  | false=>exact absurd (.inl q) c2
 have hx:itR (fL s k prio false body) = true:=kX hs hk ⟨by have:=fun q=>c2 (.inr (.inl q));omega,by have:=fun q=>c2 (.inr (.inr (.inl q)));omega⟩ (by have:=fun q=>c2 (.inr (.inr (.inr q)));omega) (fun q=>by cases q) (fun q=>c4 (.inl q)) (fun q=>c4 (.inr q))
 refine ⟨?_,rfl,hx,hs⟩
 obtain ⟨_,_,l3,_⟩:=gx hs
 refine tz hs (fun q=>c4 (.inl q)) hx rfl rfl (by show bA s.flt k = true;simpa using c3) ?_
 cases hg:bW s.its k with
 | none=>
  have:=zv s.its (fL s k prio false body)
  have:s.its.length ≠ 4096:=fun q=>c5 ⟨hg,q⟩
  omega
 | some y=>
  obtain ⟨q1,q2⟩:=m6 hg
  have:=u5 s.its (fL s k prio false body) ⟨y,q1,q2⟩
  omega
theorem np {s:Sta} {k:ByteArray} (h:(fO s k).2 = 0):f0 (fO s k).1 = true ∧ f0 s = true ∧ ∃ y,bW s.its k = some y ∧ (fO s k).1 = nb s (fL s k y.prio true ⟨#[]⟩) ∧ itR (fL s k y.prio true ⟨#[]⟩) = true:=by
 unfold fO at h ⊢
 by_cases c1:f0 s = false
 ·rw [if_pos c1] at h;simp at h
 rw [if_neg c1] at h ⊢
 have hs:f0 s = true:=by simpa using c1
 cases hg:bW s.its k with
 | none=>rw [hg] at h;simp at h
 | some y=>
  rw [hg] at h
  simp only at h ⊢
  by_cases c2:y.dead = true
  ·rw [if_pos c2] at h;simp at h
  rw [if_neg c2] at h ⊢
  by_cases c3:s.cnt = 1099511627776 ∨ y.rank = 1099511627776
  ·rw [if_pos c3] at h;simp at h
  rw [if_neg c3]
  obtain ⟨q1,q2⟩:=m6 hg
  obtain ⟨_,_,l3,_,_,_,_,_,_,c10⟩:=gx hs
  have hy:=List.all_eq_true.1 (dn hs).1 y q1
  have hrk:ec s.its k = y.rank:=by rw [← q2];exact zz (dn hs).2 q1
  have hyk:cY k = true:=by unfold itR at hy;simp only [Bool.and_eq_true] at hy;rw [← q2];exact hy.1.1
  have hyp:0 ≤ y.prio ∧ y.prio ≤ 255:=by unfold itR at hy;simp only [Bool.and_eq_true,decide_eq_true_eq] at hy;omega
  have hx:itR (fL s k y.prio true ⟨#[]⟩) = true:=kX hs hyk hyp (by decide) (fun _=>rfl) (fun q=>c3 (.inl q)) (fun q=>c3 (.inr (hrk ▸ q)))
  refine ⟨?_,hs,y,rfl,rfl,hx⟩
  refine tz hs (fun q=>c3 (.inl q)) hx rfl rfl ?_ ?_
  ·show bA s.flt k = true
   rw [← q2];exact (c10 y q1).1
  ·have:=u5 s.its (fL s k y.prio true ⟨#[]⟩) ⟨y,q1,q2⟩
   omega
def zi:Option It → It
 | none=>Qy
 | some x=>x
theorem Ff {l:List It} {k:ByteArray} {i:Nat} (hi:i < l.length) (h:bW (l.take i) k = none) (hk:l[i].key ≠ k):bW (l.take (i + 1)) k = none:=by
 unfold bW at *
 rw [aJ _ i hi,List.find?_append,h]
 simp [hk]
theorem zA {l:List It} {k:ByteArray} {i:Nat} (hi:i < l.length) (h:bW (l.take i) k = none) (hk:l[i].key = k):bW l k = some l[i]:=by
 unfold bW at *
 have e:l = l.take i ++ l[i] :: l.drop (i + 1):=by rw [← List.drop_eq_getElem_cons hi,List.take_append_drop]
 have e2:(l.take i ++ l[i] :: l.drop (i + 1)).find? (fun x=>decide (x.key = k)) = some l[i]:=by
  rw [List.find?_append,h,List.find?_cons]
  simp [hk]
 rw [← e] at e2
 exact e2
section
theorem n5 (l:List Rg) (hl:l.length ≤ 1000000000):Fn Tryz.prog 86 [dS l] (ze l):=by
 by_cases h0:0 < l.length
 ·refine fi Tryz.func86 Tryz.ntmps86 ?_
  (refine w0 ?_;repeat' first|apply ai|refine aj fun hc=>?_)
  refine aU ?_
  exact cI rfl rfl rfl
 ·obtain rfl:l = []:=List.eq_nil_of_length_eq_zero (by omega)
  refine fi Tryz.func86 Tryz.ntmps86 ?_
  (refine w0 ?_;repeat' first|apply ai|refine aj fun hc=>?_)
  ·refine aU ?_
   exact Ag rfl
  ·refine aU ?_
   exact cI rfl rfl rfl
theorem J2 (s:Sta) (k:ByteArray) (hl:s.its.length ≤ 1000000):Fn Tryz.prog 90 [dX s,sC k] (.tup2 (.per (bX (itP (zi (bW s.its k))))) (cw (bW s.its k).isSome)):=by
 refine fi Tryz.func90 Tryz.ntmps90 ?_
 (refine w0 ?_;repeat' first|apply ai|refine aj fun hc=>?_)
 refine an (X:=Nat) (fun i=>i ≤ s.its.length ∧ bW (s.its.take i) k = none) (fun i=>ba [(1,sC k),(4,.ptr 4 0 0),(9,.per (dC s.its)),(10,iC .i64 (s.its.length:Nat)),(11,iC .i64 (i:Nat))] [(4,.box 41 ((itP Qy).map .per))]) (fun i=>s.its.length - i) 0 ⟨Nat.zero_le _,rfl⟩ ?_ ?_
 ·exact ae
 ·rintro i ⟨h1,h2⟩
  by_cases hi:i < s.its.length
  ·have hS:=Ff hi h2
   have hH:=zA hi h2
   clear h2
   (refine w0 ?_;repeat' first|apply ai|refine aj fun hc=>?_)
   ·rw [hH ((mY _ _).1 (by assumption))]
    refine im ?_ ?_
    ·exact bL inferInstance inferInstance rfl rfl rfl rfl rfl rfl
    ·exact af rfl rfl
   ·refine ⟨i + 1,⟨by omega,hS (fun q=>(by assumption:¬ s.its[i].key.toList = k.toList) ((mY _ _).2 q))⟩,by omega,?_⟩
    exact ae
  ·rw [List.take_of_length_le (by omega)] at h2
   rw [h2]
   (refine w0 ?_;repeat' first|apply ai|refine aj fun hc=>?_)
   refine im ?_ ?_
   ·exact bL inferInstance inferInstance rfl rfl rfl rfl rfl rfl
   ·exact af rfl rfl
theorem J3 (s:Sta) (x:It) (K:List Pc) (M:List It) (hc:-9223372036854775808 ≤ s.cnt ∧ s.cnt ≤ 1099511627776) (a1:Fn Tryz.prog 143 [gr s.know,sC x.key,wN [(s.id,s.cnt + 1)]] (.per (iq K)))
 (a2:Fn Tryz.prog 84 [.bor 1 [[dC [⟨x.key,s.id,s.cnt + 1,x.rank,x.prio,x.dead,x.body⟩]],[dC s.its]]] (.per (dC M))) (a3:Fn Tryz.prog 86 [dS s.flt] (.per (fC s.flt))) :
 Fn Tryz.prog 92 [dX s,wV x] (.per (m5 ⟨s.id,s.flt,M,K,s.cnt + 1⟩)):=by
 refine fi Tryz.func92 Tryz.ntmps92 ?_
 (refine eX a1 a2 a3 ?_;repeat' first|apply ai|refine aj fun hc=>?_)
 refine aU ?_
 exact bL inferInstance inferInstance rfl rfl rfl rfl rfl rfl
def Ow (s:Sta) (prio:Int) (body:ByteArray) (o:Option It) (rk:Int) (r kr hf:Bool) (S':Sta):Sta × Int:=
 if r = false then ({},41)
 else if kr = false ∨ prio < 0 ∨ prio > 255 ∨ body.size > 64 then ({},2)
 else if hf = false then ({},30)
 else if s.cnt = 1099511627776 ∨ rk = 1099511627776 then ({},33)
 else if o = none ∧ s.its.length = 4096 then ({},32)
 else (S',0)
theorem Fg (s:Sta) (k:ByteArray) (prio:Int) (body:ByteArray) (o:Option It) (r kr hf:Bool) (S':Sta) (_hl:s.its.length ≤ 1000000) (hb:body.size ≤ 1000000000)
 (a0:Fn Tryz.prog 90 [dX s,sC k] (.tup2 (.per (bX (itP (zi o)))) (cw o.isSome))) (a1:Fn Tryz.prog 40 [dX s] (cw r)) (a2:Fn Tryz.prog 91 [sC k] (cw kr)) (a3':r = true → Fn Tryz.prog 82 [.per (fC s.flt),sC k] (cw hf))
 (hrk':r = true → 0 ≤ (zi o).rank ∧ (zi o).rank ≤ 1099511627776)
 (a4':r = true → ¬ (kr = false ∨ prio < 0 ∨ prio > 255 ∨ body.size > 64) → s.cnt ≠ 1099511627776 → (zi o).rank ≠ 1099511627776 → Fn Tryz.prog 92 [dX s,wV ⟨k,0,0,(zi o).rank + 1,prio,false,body⟩] (.per (m5 S'))) :
 Fn Tryz.prog 45 [dX s,sC k,iC .i64 prio,sC body] (.tup2 (.per (m5 (Ow s prio body o (zi o).rank r kr hf S').1)) (gy (Ow s prio body o (zi o).rank r kr hf S').2)):=by
 unfold Ow
 cases r with
 | false=>
  rw [if_pos rfl]
  clear a2 a3' a4' hrk'
  refine fi Tryz.func45 Tryz.ntmps45 ?_
  (refine aL a0 a1 ?_;repeat' first|apply ai|refine aj fun hc=>?_)
  refine im ?_ ?_
  ·exact dE (bL inferInstance inferInstance rfl rfl rfl rfl rfl rfl) aI
  ·exact aH rfl rfl
 | true=>
 have a3:=a3' rfl
 have hrk:=hrk' rfl
 have a5:=a4' rfl
 clear a3' hrk' a4'
 rw [if_neg (show ¬ true = false by simp)]
 by_cases c2:kr = false ∨ prio < 0 ∨ prio > 255 ∨ body.size > 64
 ·rw [if_pos c2]
  clear a3 a5 hrk
  cases kr
  all_goals
   refine fi Tryz.func45 Tryz.ntmps45 ?_
   (refine eX a0 a1 a2 ?_;repeat' first|apply ai|refine aj fun hc=>?_)
   all_goals first|(exfalso;rcases c2 with h|h|h|h <;> first|cases h|omega)|skip
   all_goals
    refine im ?_ ?_
    ·exact dE (bL inferInstance inferInstance rfl rfl rfl rfl rfl rfl) aI
    ·exact aH rfl rfl
 have a6:=a5 c2
 clear a5
 rw [if_neg c2]
 obtain ⟨rfl,d1,d2,d3⟩:kr = true ∧ 0 ≤ prio ∧ prio ≤ 255 ∧ body.size ≤ 64:=by
  cases kr with
  | false=>exact absurd (.inl rfl) c2
  | true=>
   have e1:¬ prio < 0:=fun q=>c2 (.inr (.inl q))
   have e2:¬ prio > 255:=fun q=>c2 (.inr (.inr (.inl q)))
   have e3:¬ body.size > 64:=fun q=>c2 (.inr (.inr (.inr q)))
   exact ⟨rfl,by omega,by omega,by omega⟩
 clear c2
 cases hf with
 | false=>
  rw [if_pos rfl]
  clear a6 hrk
  refine fi Tryz.func45 Tryz.ntmps45 ?_
  (refine rR a0 a1 a2 a3 ?_;repeat' first|apply ai|refine aj fun hc=>?_)
  refine im ?_ ?_
  ·exact dE (bL inferInstance inferInstance rfl rfl rfl rfl rfl rfl) aI
  ·exact aH rfl rfl
 | true=>
 rw [if_neg (show ¬ true = false by simp)]
 by_cases c4:s.cnt = 1099511627776 ∨ (zi o).rank = 1099511627776
 ·rw [if_pos c4]
  clear a6 hrk
  refine fi Tryz.func45 Tryz.ntmps45 ?_
  (refine rR a0 a1 a2 a3 ?_;repeat' first|apply ai|refine aj fun hc=>?_)
  all_goals first|(exfalso;rcases c4 with h|h <;> omega)|skip
  all_goals
   refine im ?_ ?_
   ·exact dE (bL inferInstance inferInstance rfl rfl rfl rfl rfl rfl) aI
   ·exact aH rfl rfl
 have d4:s.cnt ≠ 1099511627776:=fun q=>c4 (.inl q)
 have d5:(zi o).rank ≠ 1099511627776:=fun q=>c4 (.inr q)
 have a4:=a6 d4 d5
 clear a6
 rw [if_neg c4]
 clear c4
 by_cases c5:o = none ∧ s.its.length = 4096
 ·rw [if_pos c5]
  clear a4
  obtain ⟨rfl,c5⟩:=c5
  refine fi Tryz.func45 Tryz.ntmps45 ?_
  (refine rR a0 a1 a2 a3 ?_;repeat' first|apply ai|refine aj fun hc=>?_)
  refine im ?_ ?_
  ·exact dE (bL inferInstance inferInstance rfl rfl rfl rfl rfl rfl) aI
  ·exact aH rfl rfl
 ·rw [if_neg c5]
  cases o with
  | none=>
   have c5:s.its.length ≠ 4096:=fun q=>c5 ⟨rfl,q⟩
   refine fi Tryz.func45 Tryz.ntmps45 ?_
   (refine oB a0 a1 a2 a3 a4 ?_;repeat' first|apply ai|refine aj fun hc=>?_)
   refine im ?_ ?_
   ·exact bL inferInstance inferInstance rfl rfl rfl rfl rfl rfl
   ·exact aH rfl rfl
  | some y=>
   clear c5
   refine fi Tryz.func45 Tryz.ntmps45 ?_
   (refine oB a0 a1 a2 a3 a4 ?_;repeat' first|apply ai|refine aj fun hc=>?_)
   refine im ?_ ?_
   ·exact bL inferInstance inferInstance rfl rfl rfl rfl rfl rfl
   ·exact aH rfl rfl
end
theorem Df (l:List It) (k:ByteArray):(zi (bW l k)).rank = ec l k:=by unfold ec;cases bW l k <;> rfl
theorem zC (s:Sta) (k:ByteArray) (prio:Int) (body:ByteArray) (hB:FH s) (hl:s.its.length ≤ 100000) (hb:body.size ≤ 1000000000) (hks:k.size ≤ 1000000000) (hj:f0 s = true → cY k = true → bS (s.know ++ ee k s.id (s.cnt + 1))) :
 Fn Tryz.prog 45 [dX s,sC k,iC .i64 prio,sC body] (.tup2 (.per (m5 (gS s k prio body).1)) (gy (gS s k prio body).2)):=by
 have hG:=Fg s k prio body (bW s.its k) (f0 s) (cY k) (bA s.flt k) (nb s (fL s k prio false body)) (by omega) hb (J2 s k (by omega)) (ke s hB) (gb k)
 rw [Df] at hG
 have e:Ow s prio body (bW s.its k) (ec s.its k) (f0 s) (cY k) (bA s.flt k) (nb s (fL s k prio false body)) = gS s k prio body:=rfl
 rw [e] at hG
 refine hG (fun hr=>?_) (fun hr=>m7 (dn hr).1 k) fun hr h1 h2 h3=>?_
 ·obtain ⟨_,_,_,c4,_⟩:=gx hr
  exact tf s.flt k c4 (by have:=hB.flt;omega) hks
 ·have hk:cY k = true:=by
   cases q:cY k with
   | true=>rfl
   | false=>exact absurd (.inl q) h1
  have e1:¬ prio < 0:=fun q=>h1 (.inr (.inl q))
  have e2:¬ prio > 255:=fun q=>h1 (.inr (.inr (.inl q)))
  have e3:¬ body.size > 64:=fun q=>h1 (.inr (.inr (.inr q)))
  have hx:itR (fL s k prio false body) = true:=kX hr hk ⟨by omega,by omega⟩ (by omega) (fun q=>by cases q) h2 h3
  obtain ⟨c1,c2,_⟩:=gx hr
  have hv:cC s.id (s.cnt + 1) = true:=by unfold cC;simp;omega
  have b1:=J1 s.know k s.id (s.cnt + 1) hk hv (hj hr hk)
  have b2:=(nR [[fL s k prio false body],s.its] (by
   refine Nat.le_trans (List.length_filter_le _ _) ?_
   simp;omega) (by simp) (fun m hm=>by
   simp at hm
   rcases hm with rfl|rfl
   ·simp
   ·omega)).frz
  rw [u6 hr hx] at b2
  exact J3 s ⟨k,0,0,ec s.its k + 1,prio,false,body⟩ _ _ ⟨by omega,by omega⟩ b1 b2 (n5 s.flt (by have:=hB.flt;omega)).frz
abbrev bH (T:Tr × Ix) (s:Sta) (sd b:Int):List (Nat × Blk):=[(1000,.box 76 (.ptr 1001 0 0 :: .ptr 1002 0 0 :: (nc s).map .per)),(1001,.box 121 [.row 2100 0,iC .u64 sd,iC .i64 b]),(2100,.obj (nm T.1)),(1002,Qz T.2.many),(2000,bt (T.2.rows 0)),(2001,bt (T.2.rows 1)),(2002,bt (T.2.rows 2)),(2003,bt (T.2.rows 3)),(2004,bt (T.2.rows 4)),(2005,bt (T.2.rows 5)),(2006,bt (T.2.rows 6)),(2007,bt (T.2.rows 7)),(2008,bt (T.2.rows 8)),(2009,bt (T.2.rows 9)),(2010,bt (T.2.rows 10)),(2011,bt (T.2.rows 11)),(2012,bt (T.2.rows 12)),(2013,bt (T.2.rows 13)),(2014,bt (T.2.rows 14)),(2015,bt (T.2.rows 15))]
abbrev QA:List (Nat × Nat):=[(2000,2000),(2001,2001),(2002,2002),(2003,2003),(2004,2004),(2005,2005),(2006,2006),(2007,2007),(2008,2008),(2009,2009),(2010,2010),(2011,2011),(2012,2012),(2013,2013),(2014,2014),(2015,2015)]
abbrev jN:List (Nat × Nat):=(1000,1000) :: (1001,1001) :: (1002,1002) :: (2100,2100) :: QA
abbrev QB:List (Nat × Nat):=[(1000,1001),(2000,2100)]
abbrev PT:List (Nat × Nat):=(1000,1002) :: QA
section
theorem wS (T:Tr × Ix) (s:Sta) (sd b:Int) (k:ByteArray) (hk:k.size ≤ 1000000000) :
 de Tryz.prog 10 [.ptr 1000 0 0,sC k] (bH T s sd b) (.tup2 (.per (bX (itP ((jM T.1 k).getD BA)))) (.per (av (.bool (jM T.1 k).isSome)))) (bH T s sd b):=by
 have c1:=Jj T.1 sd b k hk
 refine eR Tryz.func10 Tryz.ntmps10 ?_
 (refine w0 ?_;repeat' first|apply ai|refine aj fun hc=>?_|((first|apply aO rfl|apply aP rfl|apply aQ rfl|apply aR rfl);(focus ((try (apply b8;(focus rfl);apply ah rfl rfl rfl rfl rfl));first|((refine nT (ids:=[1001,2100]) (c1) (hg:=?_);((repeat (first|exact fm.nil|(refine fm.cons ?_ ?_;focus (first|exact bP rfl|exact kV rfl|exact bR rfl rfl rfl (aC _) rfl|(refine bQ rfl rfl rfl rfl ?_;(focus (repeat (first|exact bp.nil|(refine bp.cons ?_ ?_;(focus (first|exact br.per|exact br.obj rfl rfl (aC _) rfl|exact br.row rfl rfl rfl)))))))))));done)))));refine w0 ?_))
 (refine ⟨(by first|exact .inl rfl|exact .inr rfl),oy (jN) rfl rfl ?_ ?_ ?_⟩;(focus (repeat (first|exact aW.nil|(refine aW.cons rfl ?_ ?_;(focus first|rfl|skip))))))
 ·exact pC inferInstance inferInstance rfl rfl rfl rfl rfl rfl
 ·exact b0 rfl rfl
theorem J4 (T:Tr × Ix) (s:Sta) (sd b:Int):de Tryz.prog 12 [.ptr 1000 0 0] (bH T s sd b) (iC .i64 ((T.1.siz:Nat):Int)) (bH T s sd b):=by
 have c1:=Jh T.1 sd b
 refine eR Tryz.func12 Tryz.ntmps12 ?_
 (refine w0 ?_;repeat' first|apply ai|refine aj fun hc=>?_|((first|apply aO rfl|apply aP rfl|apply aQ rfl|apply aR rfl);(focus ((try (apply b8;(focus rfl);apply ah rfl rfl rfl rfl rfl));first|((refine nT (ids:=[1001,2100]) (c1) (hg:=?_);((repeat (first|exact fm.nil|(refine fm.cons ?_ ?_;focus (first|exact bP rfl|exact kV rfl|exact bR rfl rfl rfl (aC _) rfl|(refine bQ rfl rfl rfl rfl ?_;(focus (repeat (first|exact bp.nil|(refine bp.cons ?_ ?_;(focus (first|exact br.per|exact br.obj rfl rfl (aC _) rfl|exact br.row rfl rfl rfl)))))))))));done)))));refine w0 ?_))
 (refine ⟨(by first|exact .inl rfl|exact .inr rfl),cc (jN) rfl rfl ?_ ?_⟩;(focus (repeat (first|exact aW.nil|(refine aW.cons rfl ?_ ?_;(focus first|rfl|skip))))))
 exact cL rfl rfl
theorem Ox (T:Tr × Ix) (s:Sta) (sd b:Int) (r:Rg) (hs:T.1.siz ≤ 1000000) (hw:∀ x ∈ T.1.lst,x.key.size ≤ 1000000000) :
 de Tryz.prog 16 [.ptr 1000 0 0,uy r] (bH T s sd b) (.per (av (.int .u64 (cut (y9 T.1 r).2 b)))) (bH T s sd b):=by
 have c1:=Jk T.1 sd b r hs hw
 generalize cut (y9 T.1 r).2 b = z at c1 ⊢
 refine eR Tryz.func16 Tryz.ntmps16 ?_
 (refine w0 ?_;repeat' first|apply ai|refine aj fun hc=>?_|((first|apply aO rfl|apply aP rfl|apply aQ rfl|apply aR rfl);(focus ((try (apply b8;(focus rfl);apply ah rfl rfl rfl rfl rfl));first|((refine nT (ids:=[1001,2100]) (c1) (hg:=?_);((repeat (first|exact fm.nil|(refine fm.cons ?_ ?_;focus (first|exact bP rfl|exact kV rfl|exact bR rfl rfl rfl (aC _) rfl|(refine bQ rfl rfl rfl rfl ?_;(focus (repeat (first|exact bp.nil|(refine bp.cons ?_ ?_;(focus (first|exact br.per|exact br.obj rfl rfl (aC _) rfl|exact br.row rfl rfl rfl)))))))))));done)))));refine w0 ?_))
 (refine ⟨(by first|exact .inl rfl|exact .inr rfl),cc (jN) rfl rfl ?_ ?_⟩;(focus (repeat (first|exact aW.nil|(refine aW.cons rfl ?_ ?_;(focus first|rfl|skip))))))
 exact cL rfl rfl
theorem zD (T:Tr × Ix) (s:Sta) (sd b:Int):de Tryz.prog 28 [.ptr 1000 0 0] (bH T s sd b) (.per (av (.bool true))) (bH T s sd b):=by
 refine eR Tryz.func28 Tryz.ntmps28 ?_
 (refine w0 ?_;repeat' first|apply ai|refine aj fun hc=>?_)
 (refine ⟨(by first|exact .inl rfl|exact .inr rfl),cc (jN) rfl rfl ?_ ?_⟩;(focus (repeat (first|exact aW.nil|(refine aW.cons rfl ?_ ?_;(focus first|rfl|skip))))))
 exact b0 rfl rfl
theorem J5 (T:Tr × Ix) (s:Sta) (sd b:Int) (y:It) (hy:itR y = true) (hs:T.1.siz ≤ 900000) (hk:y.key.size ≤ 1000000000) (hB:pW T.2 900000) :
 de Tryz.prog 44 [.ptr 1000 0 0,wV y] (bH T s sd b) .any (bH (iA sd T y) s sd b):=by
 have c1:=wS T s sd b y.key hk
 have c2:=EO T.1 sd b y hy hs hk
 unfold iA
 cases hg:jM T.1 y.key with
 | none=>
  rw [hg] at c1
  have c3:=I5 T.2 y.rep y.cnt y.key (hB.up (by omega))
  simp only
  generalize mc T.2 y.rep y.cnt y.key = X at c3 ⊢
  generalize j6 T.1 y (dp sd y) = t at c2 ⊢
  refine eR Tryz.func44 Tryz.ntmps44 ?_
  (have km1:=(show fv jN _ _ _ _ _ _ from c1);have km2:=(show fv QB _ _ _ _ _ _ from c2);have km3:=(show fv PT _ _ _ _ _ _ from c3);refine w0 ?_;(repeat' first|apply ai|refine aj fun hc=>?_);all_goals clear km3 km2 km1)
  (refine ⟨(by first|exact .inl rfl|exact .inr rfl),Cp (jN) rfl rfl ?_⟩;(focus (repeat (first|exact aW.nil|(refine aW.cons rfl ?_ ?_;(focus first|rfl|skip))))))
 | some o=>
  rw [hg] at c1
  have c4:=L6 T.2 o.rep o.cnt (hB.up (by omega))
  have c3:=I5 (jk T.2 o.rep o.cnt) y.rep y.cnt y.key ((sI hB _ _).up (by omega))
  simp only
  generalize mc (jk T.2 o.rep o.cnt) y.rep y.cnt y.key = X at c3 ⊢
  generalize jk T.2 o.rep o.cnt = X' at c3 c4
  generalize j6 T.1 y (dp sd y) = t at c2 ⊢
  refine eR Tryz.func44 Tryz.ntmps44 ?_
  (have km1:=(show fv jN _ _ _ _ _ _ from c1);have km2:=(show fv QB _ _ _ _ _ _ from c2);have km3:=(show fv PT _ _ _ _ _ _ from c3);have km4:=(show fv PT _ _ _ _ _ _ from c4);refine w0 ?_;(repeat' first|apply ai|refine aj fun hc=>?_);all_goals clear km4 km3 km2 km1)
  (refine ⟨(by first|exact .inl rfl|exact .inr rfl),Cp (jN) rfl rfl ?_⟩;(focus (repeat (first|exact aW.nil|(refine aW.cons rfl ?_ ?_;(focus first|rfl|skip))))))
end
structure qi (k:List Pc) (a b:Nat):Prop where
 len:k.length ≤ a
 set:∀ p ∈ k,p.set.length ≤ 16 ∧ (p.set.flatMap Kn.runs).length ≤ b
theorem qi.mid {k:List Pc} {a b:Nat} (h:qi k a b) (ha:a * 16 ≤ 1000000) (hb:a * b ≤ 1000000):bS k:=by
 have key:∀ l:List Pc,(∀ p ∈ l,p.set.length ≤ 16 ∧ (p.set.flatMap Kn.runs).length ≤ b) → (l.flatMap Pc.set).length ≤ l.length * 16 ∧ ((l.flatMap Pc.set).flatMap Kn.runs).length ≤ l.length * b:=by
  intro l
  induction l with
  | nil=>intro _;simp
  | cons p l ih=>
   intro h
   obtain ⟨h1,h2⟩:=h p List.mem_cons_self
   obtain ⟨i1,i2⟩:=ih (fun q hq=>h q (List.mem_cons_of_mem _ hq))
   rw [List.flatMap_cons,List.flatMap_append,List.length_append,List.length_append,List.length_cons,Nat.succ_mul,Nat.succ_mul]
   constructor <;> omega
 obtain ⟨h1,h2⟩:=key k h.set
 have h3:k.length * 16 ≤ a * 16:=Nat.mul_le_mul_right _ h.len
 have h4:k.length * b ≤ a * b:=Nat.mul_le_mul_right _ h.len
 have h5:=h.len
 exact ⟨by omega,by omega,by omega⟩
theorem qi.le {k:List Pc} {a b c d:Nat} (h:qi k a b) (h1:a ≤ c) (h2:b ≤ d):qi k c d:=⟨by have:=h.len;omega,fun p hp=>by have:=h.set p hp;omega⟩
theorem qi.get {k:List Pc} {a b:Nat} (h:qi k a b) (s:ByteArray):(db k s).length ≤ 16 ∧ ((db k s).flatMap Kn.runs).length ≤ b:=by
 have key:∀ l:List Pc,(∀ p ∈ l,p.set.length ≤ 16 ∧ (p.set.flatMap Kn.runs).length ≤ b) → (db l s).length ≤ 16 ∧ ((db l s).flatMap Kn.runs).length ≤ b:=by
  intro l
  induction l with
  | nil=>intro _;rw [lX];simp
  | cons p l ih=>
   intro h
   by_cases q:aZ p.rg s = true
   ·rw [iV q];exact h p List.mem_cons_self
   ·rw [d7 q];exact ih (fun q hq=>h q (List.mem_cons_of_mem _ hq))
 exact key k h.set
theorem tC {k:List Pc} {m:Int} (h:eA k m = false):qi k m.toNat 256:=by
 obtain ⟨h1,h2⟩:=Bm h
 refine ⟨by omega,fun p hp=>?_⟩
 obtain ⟨_,_,h3⟩:=h2 p hp
 obtain ⟨g1,g2⟩:=AX h3
 have key:∀ s:List Kn,(∀ x ∈ s,(x.runs.length:Int) ≤ 16) → (s.flatMap Kn.runs).length ≤ 16 * s.length:=by
  intro s
  induction s with
  | nil=>intro _;simp
  | cons x s ih=>
   intro h
   have h1:=h x List.mem_cons_self
   have h2:=ih (fun y hy=>h y (List.mem_cons_of_mem _ hy))
   rw [List.flatMap_cons,List.length_append,List.length_cons];omega
 have:=key _ g2
 omega
theorem J6 (X:List Kn):(ff ofR X).length ≤ 16:=(q9 (X:=X) (Nat.le_refl _)).1
theorem qi.rest {k:List Pc} {a b:Nat} (h:qi k a b) (ok:aY k) (f:List Rg):qi (bz k f) (1 + 2 * (a + f.length)) b:=by
 obtain ⟨h1,h2⟩:=iy k f
 refine ⟨?_,fun p hp=>?_⟩
 ·have q1:=sv (jq k f) (jL k f)
  have q2:=jY (bB k ++ f) [emB]
  have q3:=h.len
  have q4:(bB k).length = k.length:=by unfold bB;simp
  rw [List.length_append,q4,List.length_singleton] at q2
  unfold bz
  have q5:(jL k f).length = (iw [emB] (bB k ++ f)).length:=rfl
  omega
 ·obtain ⟨_,s,h3⟩:=o9 h1 p hp
  rw [← h3,h2]
  unfold jq
  split
  ·rw [eP ok];exact h.get s
  ·simp
theorem qi.join {k l:List Pc} {a b c d:Nat} (h:qi k a b) (h':qi l c d) (ok:aY k) (ok':aY l):qi (qu (k ++ l)) (1 + 2 * (a + c)) (b + d):=by
 obtain ⟨h1,h2⟩:=nK (k ++ l)
 refine ⟨?_,fun p hp=>?_⟩
 ·have q1:=sv (iW (k ++ l)) (gP (k ++ l))
  have q2:=yL (k ++ l)
  have q3:=h.len
  have q4:=h'.len
  rw [List.length_append] at q2
  unfold qu
  omega
 ·obtain ⟨_,s,h3⟩:=o9 h1 p hp
  rw [← h3,h2,wa]
  refine ⟨J6 _,?_⟩
  have q1:=EA (iW k s ++ iW l s)
  rw [List.flatMap_append,List.length_append,eP ok,eP ok'] at q1
  rw [eP ok,eP ok']
  have q2:=(h.get s).2
  have q3:=(h'.get s).2
  omega
def pc (k:List Pc) (E:List ByteArray):Prop:=∀ p ∈ k,p.rg.lo ∈ E ∧ (p.rg.op = true ∨ p.rg.hi ∈ E)
theorem pc.mono {k:List Pc} {E F:List ByteArray} (h:pc k E) (hs:∀ m ∈ E,m ∈ F):pc k F:=fun p hp=>⟨hs _ (h p hp).1,(h p hp).2.imp id (hs _)⟩
theorem MB (f:ByteArray → List Kn):∀ E:List ByteArray,pc (dZ f E) E:=by
 intro E
 induction E with
 | nil=>intro p hp;cases hp
 | cons e E ih=>
  intro p hp
  rw [dZ] at hp
  rcases List.mem_append.1 hp with q|q
  ·have hp:p = ⟨lY e E,f e⟩:=by
    split at q
    ·cases q
    ·exact List.mem_singleton.1 q
   subst hp
   cases E with
   | nil=>exact ⟨List.mem_cons_self,.inl rfl⟩
   | cons t E=>exact ⟨List.mem_cons_self,.inr (List.mem_cons_of_mem _ List.mem_cons_self)⟩
  ·obtain ⟨a,b⟩:=ih p q
   exact ⟨List.mem_cons_of_mem _ a,b.imp id (List.mem_cons_of_mem _)⟩
theorem Oy {E:List ByteArray}:∀ (l:List Pc) (c:Pc),pc (c :: l) E → pc (sr c l) E:=by
 intro l
 induction l with
 | nil=>intro c h;exact h
 | cons p l ih=>
  intro c h
  have hc:=h c List.mem_cons_self
  have hp:=h p (List.mem_cons_of_mem _ List.mem_cons_self)
  have hl:∀ q ∈ l,q.rg.lo ∈ E ∧ (q.rg.op = true ∨ q.rg.hi ∈ E):=fun q hq=>h q (List.mem_cons_of_mem _ (List.mem_cons_of_mem _ hq))
  rw [sr]
  split
  ·refine ih _ fun q hq=>?_
   rcases List.mem_cons.1 hq with rfl|hq
   ·exact ⟨hc.1,hp.2⟩
   ·exact hl q hq
  ·intro q hq
   rcases List.mem_cons.1 hq with rfl|hq
   ·exact hc
   ·exact ih p (fun q hq=>by
     rcases List.mem_cons.1 hq with rfl|hq
     ·exact hp
     ·exact hl q hq) q hq
theorem Dg (f:ByteArray → List Kn) (E:List ByteArray):pc (kL f E) E:=by
 have h:=MB f E
 unfold kL gZ
 split
 ·intro p hp;cases hp
 ·rename_i p l e
  rw [e] at h
  exact Oy l p h
theorem Oz (X:List Pc):pc (qu X) (gP X):=Dg _ _
theorem J7 (k:List Pc) (f:List Rg):pc (bz k f) (jL k f):=Dg _ _
theorem Dh {k:List Pc} {E:List ByteArray} (h:pc k E):∀ m ∈ gP k,m = emB ∨ m ∈ E:=fun m hm=>by
 rcases (e8 _ _ _).1 hm with q|⟨r,hr,_,q⟩
 ·exact .inl (by simpa using q)
 ·obtain ⟨p,hp,rfl⟩:=List.mem_map.1 hr
  obtain ⟨a,b⟩:=h p hp
  rcases q with rfl|⟨q1,rfl⟩
  ·exact .inr a
  ·rcases b with b|b
   ·rw [q1] at b;cases b
   ·exact .inr b
def pd (f:List Rg):List ByteArray:=f.flatMap fun r=>[r.lo,r.hi]
theorem MC {k:List Pc} {E:List ByteArray} (h:pc k E) (f:List Rg):∀ m ∈ jL k f,m = emB ∨ m ∈ E ∨ m ∈ pd f:=fun m hm=>by
 rcases (e8 _ _ _).1 hm with q|⟨r,hr,q0,q⟩
 ·exact .inl (by simpa using q)
 ·rcases List.mem_append.1 hr with hr|hr
  ·have:=Dh h m ((e8 _ _ _).2 (.inr ⟨r,hr,q0,q⟩))
   exact this.imp id .inl
  ·refine .inr (.inr (List.mem_flatMap.2 ⟨r,hr,?_⟩))
   rcases q with rfl|⟨_,rfl⟩ <;> simp
theorem tD (f:List Rg):(pd f).length = 2 * f.length:=by
 unfold pd
 induction f with
 | nil=>rfl
 | cons r f ih=>rw [List.flatMap_cons,List.length_append,ih,List.length_cons];simp;omega
theorem u7 (k:List Pc):pc k (pd (bB k)):=fun p hp=>by
 have:p.rg ∈ bB k:=List.mem_map_of_mem hp
 exact ⟨List.mem_flatMap.2 ⟨_,this,by simp⟩,.inr (List.mem_flatMap.2 ⟨_,this,by simp⟩)⟩
theorem Fh {α:Type} [DecidableEq α]:∀ {l E:List α},l.Nodup → (∀ x ∈ l,x ∈ E) → l.length ≤ E.length:=by
 intro l
 induction l with
 | nil=>intro E _ _;exact Nat.zero_le _
 | cons x l ih=>
  intro E h hs
  rw [List.nodup_cons] at h
  have hx:=hs x List.mem_cons_self
  have:=ih (E:=E.erase x) h.2 fun y hy=>by
   have hne:y ≠ x:=fun e=>by rw [e] at hy;exact h.1 hy
   exact (List.mem_erase_of_ne hne).2 (hs y (List.mem_cons_of_mem _ hy))
  rw [List.length_erase_of_mem hx] at this
  have h0:0 < E.length:=List.length_pos_of_mem hx
  rw [List.length_cons];omega
theorem OA:∀ {k:List Pc},aY k → k.Pairwise fun a b=>a.rg.lo < b.rg.lo:=by
 intro k
 induction k with
 | nil=>intro _;exact List.Pairwise.nil
 | cons p k ih=>
  intro h
  have h':=(ci p k).1 h
  have hk:=ih h'.2.2
  refine List.pairwise_cons.2 ⟨fun q hq=>?_,hk⟩
  cases k with
  | nil=>cases hq
  | cons z k=>
   obtain ⟨e1,e2,_⟩:=h'.2.1 z rfl
   have hr:=fZ h'.1.1
   rw [e1] at hr
   have hr:p.rg.lo < p.rg.hi:=by simpa using hr
   have hz:p.rg.lo < z.rg.lo:=by grind
   rcases List.mem_cons.1 hq with rfl|hq
   ·exact hz
   ·have:=(List.pairwise_cons.1 hk).1 q hq;grind
structure BZ (k:List Pc) (E:List ByteArray) (b:Nat):Prop where
 ok:aY k
 ed:pc k E
 set:∀ p ∈ k,p.set.length ≤ 16 ∧ (p.set.flatMap Kn.runs).length ≤ b
theorem BZ.W {k:List Pc} {E:List ByteArray} {b:Nat} (h:BZ k E b):qi k E.length b:=by
 refine ⟨?_,h.set⟩
 have hp:=OA h.ok
 have hn:(k.map fun p=>p.rg.lo).Nodup:=by
  rw [List.nodup_iff_pairwise_ne,List.pairwise_map]
  exact hp.imp fun {a b} q e=>by rw [e] at q;grind
 have:=Fh (E:=E) hn fun m hm=>by
  obtain ⟨p,hp,rfl⟩:=List.mem_map.1 hm
  exact (h.ed p hp).1
 rwa [List.length_map] at this
theorem BZ.rest {k:List Pc} {E:List ByteArray} {b:Nat} (h:BZ k E b) (f:List Rg):BZ (bz k f) (emB :: (E ++ pd f)) b:=
 ⟨(iy k f).1,(J7 k f).mono fun m hm=>by
  rcases MC h.ed f m hm with q|q|q
  ·rw [q];exact List.mem_cons_self
  ·exact List.mem_cons_of_mem _ (List.mem_append_left _ q)
  ·exact List.mem_cons_of_mem _ (List.mem_append_right _ q),(h.W.rest h.ok f).set⟩
theorem BZ.join {k l:List Pc} {E F:List ByteArray} {b c:Nat} (h:BZ k E b) (h':BZ l F c):BZ (qu (k ++ l)) (emB :: (E ++ F)) (b + c):=
 ⟨(nK _).1,(Oz _).mono fun m hm=>by
  have hkl:pc (k ++ l) (E ++ F):=fun p hp=>by
   rcases List.mem_append.1 hp with q|q
   ·obtain ⟨a,b⟩:=h.ed p q
    exact ⟨List.mem_append_left _ a,b.imp id (List.mem_append_left _)⟩
   ·obtain ⟨a,b⟩:=h'.ed p q
    exact ⟨List.mem_append_right _ a,b.imp id (List.mem_append_right _)⟩
  rcases Dh hkl m hm with q|q
  ·rw [q];exact List.mem_cons_self
  ·exact List.mem_cons_of_mem _ q,(h.W.join h'.W h.ok h'.ok).set⟩
theorem BZ.sub {k:List Pc} {E F:List ByteArray} {b c:Nat} (h:BZ k E b) (hs:∀ m ∈ E,m ∈ F) (hc:b ≤ c):BZ k F c:=⟨h.ok,h.ed.mono hs,fun p hp=>by have:=h.set p hp;omega⟩
end Go.Proofs.YtliiahjpiagdkaaGreat
