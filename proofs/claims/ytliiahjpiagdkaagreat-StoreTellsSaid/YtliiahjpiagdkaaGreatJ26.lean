/- Texts joined: TuS SrtR RgW Rcn. -/
import Derived.Test.YtliiahjpiagdkaaGreatJ25
import Derived.Test.YtliiahjpiagdkaaGreatJ05
import Derived.Test.YtliiahjpiagdkaaGreatJ13
import Derived.Test.YtliiahjpiagdkaaGreatJ18
import Derived.Test.YtliiahjpiagdkaaGreatJ15
set_option maxRecDepth 10000
set_option maxHeartbeats 8000000
namespace Go.Proofs.YtliiahjpiagdkaaGreat
theorem Jr (s:Int) (l:List It):qK s l = (l.map (dp s)).sum % 18446744073709551616:=by
 rw [← List.reverse_reverse l]
 induction l.reverse with
 | nil=>rfl
 | cons x l ih=>
  rw [List.reverse_cons,qb,ih,ml,List.map_append,List.sum_append]
  simp only [List.map_cons,List.map_nil,List.sum_cons,List.sum_nil]
  omega
theorem zc (s:Int) (lo hi:ByteArray) (h:lo < hi):∀ l:List It,
 (l.filter (fun x=>decide (x.key < hi))).length = (l.filter (fun x=>decide (x.key < lo))).length + (l.filter (fun x=>decide (lo ≤ x.key) && decide (x.key < hi))).length ∧
 ((l.filter (fun x=>decide (x.key < hi))).map (dp s)).sum = ((l.filter (fun x=>decide (x.key < lo))).map (dp s)).sum + ((l.filter (fun x=>decide (lo ≤ x.key) && decide (x.key < hi))).map (dp s)).sum
 | []=>⟨rfl,rfl⟩
 | x :: l=>by
  obtain ⟨h1,h2⟩:=zc s lo hi h l
  by_cases c1:x.key < lo
  ·have c2:x.key < hi:=by grind
   have c3:¬ lo ≤ x.key:=by grind
   simp only [List.filter_cons,decide_eq_true c1,decide_eq_true c2,decide_eq_false c3,Bool.false_and,Bool.false_eq_true,if_true,if_false,List.length_cons,List.map_cons,List.sum_cons]
   constructor <;> omega
  ·have c3:lo ≤ x.key:=by grind
   by_cases c2:x.key < hi
   ·simp only [List.filter_cons,decide_eq_false c1,decide_eq_true c2,decide_eq_true c3,Bool.true_and,Bool.false_eq_true,if_true,if_false,List.length_cons,List.map_cons,List.sum_cons]
    constructor <;> omega
   ·simp only [List.filter_cons,decide_eq_false c1,decide_eq_false c2,decide_eq_true c3,Bool.true_and,Bool.false_eq_true,if_false]
    exact ⟨h1,h2⟩
theorem zd (s:Int) (lo:ByteArray):∀ l:List It,
 l.length = (l.filter (fun x=>decide (x.key < lo))).length + (l.filter (fun x=>decide (lo ≤ x.key))).length ∧
 (l.map (dp s)).sum = ((l.filter (fun x=>decide (x.key < lo))).map (dp s)).sum + ((l.filter (fun x=>decide (lo ≤ x.key))).map (dp s)).sum
 | []=>⟨rfl,rfl⟩
 | x :: l=>by
  obtain ⟨h1,h2⟩:=zd s lo l
  by_cases c1:x.key < lo
  ·have c3:¬ lo ≤ x.key:=by grind
   simp only [List.filter_cons,decide_eq_true c1,decide_eq_false c3,Bool.false_eq_true,if_true,if_false,List.length_cons,List.map_cons,List.sum_cons]
   constructor <;> omega
  ·have c3:lo ≤ x.key:=by grind
   simp only [List.filter_cons,decide_eq_false c1,decide_eq_true c3,Bool.false_eq_true,if_true,if_false,List.length_cons,List.map_cons,List.sum_cons]
   constructor <;> omega
theorem qe {s:Int} {t:Tr} (h:qL s t) (k:ByteArray):(cK t k).1 = (t.lst.filter (fun x=>decide (x.key < k))).length ∧ (cK t k).2 % 18446744073709551616 = ((t.lst.filter (fun x=>decide (x.key < k))).map (dp s)).sum % 18446744073709551616:=by
 obtain ⟨h1,h2⟩:=s9 t k h.1
 have e:t.pl.filter (fun p=>decide (p.1.key < k)) = (t.lst.filter (fun x=>decide (x.key < k))).map (fun x=>(x,dp s x)):=by
  rw [Jq h,List.filter_map]
  rfl
 rw [e] at h1 h2
 unfold ER at h2
 rw [List.map_map] at h2
 rw [List.length_map] at h1
 exact ⟨h1,h2⟩
theorem Mi {s:Int} {t:Tr} (h:qL s t):t.tot % 18446744073709551616 = (t.lst.map (dp s)).sum % 18446744073709551616:=by
 have h1:=(wC t).1
 rw [Jq h] at h1
 unfold ER at h1
 rw [List.map_map] at h1
 exact h1
theorem Js {s:Int} {t:Tr} (h:qL s t) (r:Rg):(y9 t r).1 = (((t.lst.filter (fun x=>aZ r x.key)).length:Nat):Int) ∧ (y9 t r).2 = qK s (t.lst.filter (fun x=>aZ r x.key)):=by
 obtain ⟨lo,hi,op⟩:=r
 have hR:=bT ⟨lo,hi,op⟩
 unfold y9 aZ
 simp only at hR ⊢
 cases hq:eO ⟨lo,hi,op⟩ with
 | false=>
  simp only [Bool.false_and,Bool.false_eq_true,if_false]
  rw [List.filter_eq_nil_iff.2 (fun x _=>by simp)]
  exact ⟨rfl,rfl⟩
 | true=>
  have hR1:=hR.1 hq
  have a:=qe h lo
  simp only [if_true,Bool.true_and]
  rw [Jr]
  cases op with
  | true=>
   have b:=zd s lo t.lst
   have c:=Mi h
   have d:t.lst.length = t.siz:=by rw [jn,List.length_map,qc]
   simp only [if_true,Bool.true_or,Bool.and_true,ml]
   constructor <;> omega
  | false=>
   have e:lo < hi:=(dz _ _).1 (by simpa using hR1.2.2)
   have b:=zc s lo hi e t.lst
   have c:=qe h hi
   simp only [Bool.false_eq_true,if_false,Bool.false_or,ml]
   constructor <;> omega
end Go.Proofs.YtliiahjpiagdkaaGreat
namespace Go.Proofs.YtliiahjpiagdkaaGreat
open Go.RowKit
def M9 (x y:Rg):Int:=bu x.lo y.lo
def Og (x:Rg):Prop:=x.lo.size ≤ 1000000000
section
theorem Qd (x y:Rg) (hx:Og x) (hy:Og y):de Tryz.prog 65 [uy x,uy y] [] (.per (av (.int .i64 (M9 x y)))) []:=by
 obtain ⟨xl,xh,xo⟩:=x
 obtain ⟨yl,yh,yo⟩:=y
 have h1:=eN xl yl (by have:xl.size ≤ 1000000000:=hx;omega)
 show de Tryz.prog _ [.per (bX [av (.string xl),av (.string xh),av (.bool xo)]),.per (bX [av (.string yl),av (.string yh),av (.bool yo)])] [] (.per (av (.int .i64 (bu xl yl)))) []
 refine eR Tryz.func65 Tryz.ntmps65 ?_
 (refine az h1 ?_;repeat' first|apply ai|refine aj fun hc=>?_)
 (refine ⟨(by first|exact .inl rfl|exact .inr rfl),cc [] rfl rfl .nil ?_⟩)
 exact cL rfl rfl
end
abbrev qz:Cnt:=.per (av (.func (.func 65) #[] #[]))
abbrev iL (l:List Rg):Blk:=.row 50 3 (l.map rgP)
def wI (l:List Rg):Prop:=∀ x ∈ l,Og x
section
theorem ET (A M Z:List Rg) (hk:wI M) (hl:(A ++ M ++ Z).length ≤ 1000000000):de Tryz.prog 152 [.row 1000 0,iC .i64 (A.length:Nat),iC .i64 ((A.length + M.length:Nat):Int),qz] [(1000,iL (A ++ M ++ Z))] .any [(1000,iL (A ++ fE ltR M ++ Z))]:=by
 generalize hR:A ++ fE ltR M ++ Z = R
 generalize hb:A.length + M.length = b
 simp only [List.length_append] at hl
 refine eR Tryz.func152 Tryz.ntmps152 ?_
 (refine w0 ?_;repeat' first|apply ai|refine aj fun hc=>?_)
 refine an (X:=Nat × List Rg × List Rg) (fun x=>A.length < x.1 ∧ x.1 ≤ b + 1 ∧ A.length + x.2.1.length = min x.1 b ∧ A.length + x.2.1.length + x.2.2.length = b ∧ wI x.2.1 ∧ wI x.2.2 ∧ A ++ x.2.2.foldl (nG ltR) x.2.1 ++ Z = R)
  (fun x=>ba [(0,.row 1000 0),(1,iC .i64 (A.length:Nat)),(2,iC .i64 (b:Nat)),(3,qz),(8,iC .i64 (x.1:Nat))] [(1000,iL (A ++ x.2.1 ++ (x.2.2 ++ Z)))]) (fun x=>b + 1 - x.1) (A.length + 1,M.take 1,M.drop 1) ?_ ?_ ?_
 ·refine ⟨by simp only;omega,by simp only;omega,by simp only [List.length_take];omega,by simp only [List.length_take,List.length_drop];omega,fun x h=>hk x (List.mem_of_mem_take h),fun x h=>hk x (List.mem_of_mem_drop h),?_⟩
  rw [← hR]
  cases M with
  | nil=>rfl
  | cons x M=>rfl
 ·have e:A ++ M.take 1 ++ (M.drop 1 ++ Z) = A ++ M ++ Z:=by
   rw [List.append_assoc,← List.append_assoc (M.take 1),List.take_append_drop,List.append_assoc]
  rw [e]
  exact ae
 ·rintro ⟨i,p,q⟩ ⟨h1,h2,h3,h4,hkp,hkq,h5⟩
  simp only at h1 h2 h3 h4 hkp hkq h5 ⊢
  by_cases hlt:i < b
  ·obtain ⟨x,q,rfl⟩:∃ x q',q = x :: q':=by
    cases q with
    | nil=>simp at h4;omega
    | cons x q=>exact ⟨x,q,rfl⟩
   have hip:A.length + p.length = i:=by omega
   clear h3
   have hkx:=hkq x (by simp)
   simp only [List.length_cons,List.foldl_cons] at h4 h5
   (repeat' (first|refine fS ?_|refine dx ?_|refine ei ?_|refine ej ?_|refine fT ?_|refine cO ?_|refine fQ ?_|refine fR (by kernel_rfl) ?_|(refine nf rfl rfl ⟨fun hc=>?_,fun hc=>?_⟩ <;> (repeat rw [List.length_map] at hc) <;> (try exact gg hc))|((first|apply aO rfl|apply aP rfl|apply aQ rfl|apply aR rfl);focus (first|exact iH|fail))|refine ep ?_|refine eu ?_|refine ev ?_|refine jb ?_|refine jc ?_|refine ew ?_|refine dy rfl ?_|((first|refine ng rfl rfl rfl ⟨fun hc=>?_,fun hc=>?_⟩|refine nh rfl rfl rfl ⟨fun hc=>?_,fun hc=>?_⟩) <;> (fail_if_success (have q:(true = true):=hc)) <;> (fail_if_success (have q:(false = false):=hc)) <;> (repeat rw [List.length_map] at hc) <;> (try exact gg hc))|refine cX rfl rfl (fun hc=>?_) ?_))
   refine an (X:=List Rg × List Rg) (fun y=>y.1.length + y.2.length = p.length ∧ wI y.1 ∧ wI y.2 ∧ pL ltR x y.1.reverse y.2 = nG ltR p x)
    (fun y=>ba [(0,.row 1000 0),(1,iC .i64 (A.length:Nat)),(2,iC .i64 (b:Nat)),(3,qz),(8,iC .i64 (i:Nat)),(9,iC .i64 ((A.length + y.1.length:Nat):Int))] [(1000,iL (A ++ y.1 ++ x :: (y.2 ++ (q ++ Z))))]) (fun y=>y.1.length) (p,[]) ⟨by simp,hkp,fun x h=>by simp at h,rfl⟩ ?_ ?_
   ·subst hip
    exact ae
   ·rintro ⟨p1,p2⟩ ⟨g1,gk1,gk2,g2⟩
    simp only at g1 gk1 gk2 g2 ⊢
    have out:nG ltR p x = p1 ++ x :: p2 → (∃ z:Nat × List Rg × List Rg,(A.length < z.1 ∧ z.1 ≤ b + 1 ∧ A.length + z.2.1.length = min z.1 b ∧ A.length + z.2.1.length + z.2.2.length = b ∧ wI z.2.1 ∧ wI z.2.2 ∧ A ++ z.2.2.foldl (nG ltR) z.2.1 ++ Z = R) ∧ z = (i + 1,p1 ++ x :: p2,q)):=fun e=>by
     refine ⟨_,⟨by simp only;omega,by simp only;omega,by simp;omega,by simp;omega,fun y hy=>?_,fun y hy=>hkq y (by simp [hy]),by rw [← e];exact h5⟩,rfl⟩
     rcases List.mem_append.1 hy with h|h
     ·exact gk1 y h
     ·rcases List.mem_cons.1 h with h|h
      ·subst h;exact hkx
      ·exact gk2 y h
    have hL0:A ++ p1 ++ x :: (p2 ++ (q ++ Z)) = A ++ (p1 ++ x :: p2) ++ (q ++ Z):=by simp
    rcases dU p1 with rfl|⟨p1',y,rfl⟩
    ·have e:nG ltR p x = [] ++ x :: p2:=by rw [← g2];rfl
     obtain ⟨z,hz,rfl⟩:=out e
     rw [hL0]
     (refine w0 ?_;repeat' first|apply ai|refine aj fun hc=>?_)
     refine ⟨_,hz,by simp only;omega,?_⟩
     exact ae
    ·obtain ⟨j,hj⟩:∃ j,A.length + p1'.length = j:=⟨_,rfl⟩
     have hj1:A.length + (p1' ++ [y]).length = j + 1:=by simp;omega
     have hky:=gk1 y (by simp)
     have hm:=Qd x y hkx hky
     generalize hL:A ++ (p1' ++ [y]) ++ x :: (p2 ++ (q ++ Z)) = L at *
     have hlen:j + 1 < L.length:=by rw [← hL];simp;omega
     have HJ:(L.map rgP)[j + 1]? = some (rgP x):=by
      rw [List.getElem?_map,← hL,List.getElem?_append_right (by simp;omega),List.length_append,hj1,Nat.sub_self];rfl
     have HJ1:(L.map rgP)[j]? = some (rgP y):=by
      rw [List.getElem?_map,← hL,List.append_assoc,List.append_assoc,List.getElem?_append_right (by omega),List.getElem?_append_right (by omega)]
      rw [show j - A.length - p1'.length = 0 by omega];rfl
     rw [hj1]
     have hrev:(p1' ++ [y]).reverse = y :: p1'.reverse:=by simp
     rw [hrev,pL] at g2
     have HS1:(L.map rgP).set (j + 1) (cG (rgP x) 0 (rgP y)) = (L.set (j + 1) y).map rgP:=by rw [← cN];rfl
     have HJ2:((L.set (j + 1) y).map rgP)[j]? = some (rgP y):=by
      rw [← cN,List.getElem?_set_ne (by omega)];exact HJ1
     have HS2:((L.set (j + 1) y).map rgP).set j (cG (rgP y) 0 (rgP x)) = (A ++ p1' ++ x :: ((y :: p2) ++ (q ++ Z))).map rgP:=by
      rw [cN rgP (L.set (j + 1) y) j x |>.symm.trans rfl |> fun h=>(show ((L.set (j + 1) y).map rgP).set j (cG (rgP y) 0 (rgP x)) = ((L.set (j + 1) y).set j x).map rgP from cN rgP _ j x)]
      rw [← hL,gQ (A ++ (p1' ++ [y])) x y _ (j + 1) (by simp;omega),show A ++ (p1' ++ [y]) ++ y :: (p2 ++ (q ++ Z)) = (A ++ p1') ++ y :: (y :: (p2 ++ (q ++ Z))) by simp,gQ (A ++ p1') y x _ j (by simp;omega)]
      simp
     by_cases hxy:M9 x y < 0
     ·rw [if_pos (show ltR x y = true from decide_eq_true hxy)] at g2
      clear out
      (refine w0 ?_;repeat' first|apply ai|refine aj fun hc=>?_|((first|apply aO rfl|apply aP rfl|apply aQ rfl|apply aR rfl);(focus ((try (apply b8;(focus rfl);apply ah rfl rfl rfl rfl rfl));first|((apply bn 5;(focus rfl);first|exact aB ⟨rfl,rfl,rfl⟩ rfl inferInstance inferInstance rfl rfl rfl HJ rfl rfl rfl|exact aB ⟨rfl,rfl,rfl⟩ rfl inferInstance inferInstance rfl rfl rfl HJ1 rfl rfl rfl))|((apply bn 6;(focus rfl);first|exact aX ⟨rfl,rfl⟩ rfl inferInstance rfl rfl rfl rfl HJ rfl (.inl rfl) rfl HS1|exact aX ⟨rfl,rfl⟩ rfl inferInstance rfl rfl rfl rfl HJ2 rfl (.inl rfl) rfl HS2))|(exact Iy [] hm)));refine w0 ?_))
      refine ⟨(p1',y :: p2),⟨by simp at g1 ⊢;omega,fun z h=>gk1 z (by simp [h]),fun z h=>?_,g2⟩,by simp,?_⟩
      ·rcases List.mem_cons.1 h with h|h
       ·subst h;exact hky
       ·exact gk2 z h
      ·simp only [hj]
       exact ae
     ·rw [if_neg (show ¬ ltR x y = true by unfold ltR;rw [decide_eq_true_iff];exact hxy)] at g2
      have e:nG ltR p x = (p1' ++ [y]) ++ x :: p2:=by rw [← g2];simp
      obtain ⟨z,hz,rfl⟩:=out e
      (refine w0 ?_;repeat' first|apply ai|refine aj fun hc=>?_|((first|apply aO rfl|apply aP rfl|apply aQ rfl|apply aR rfl);(focus ((try (apply b8;(focus rfl);apply ah rfl rfl rfl rfl rfl));first|((apply bn 5;(focus rfl);first|exact aB ⟨rfl,rfl,rfl⟩ rfl inferInstance inferInstance rfl rfl rfl HJ rfl rfl rfl|exact aB ⟨rfl,rfl,rfl⟩ rfl inferInstance inferInstance rfl rfl rfl HJ1 rfl rfl rfl))|(exact Iy [] hm)));refine w0 ?_))
      refine ⟨_,hz,by simp only;omega,?_⟩
      simp only
      rw [← hL0]
      exact ae
  ·have hq:q = []:=List.eq_nil_of_length_eq_zero (by omega)
   subst hq
   simp only [List.foldl_nil] at h5
   (refine w0 ?_;repeat' first|apply ai|refine aj fun hc=>?_)
   rw [List.nil_append,h5]
   exact qn
end
section
variable {P:Program} {n:Nat} {ops:Array Oper} {o:Oper} {S:St} {t:Nat}
def tZ (k:Nat):Nat:=if k = 0 then 0 else k.log2 + 1
def Oh:List UInt8:=(List.range 256).map fun k=>UInt8.ofNat (tZ k)
theorem Jt:∀ k:Fin 256,(Oh[k.val]?).map UInt8.toNat = some (tZ k.val):=by decide +kernel
theorem Ju {ty:TypeId} {x ix:Operand} {kk:IntKind} {k:Nat} {z:Int} {s:ByteArray} (hp:Pl n o t) (ho:o.op = .index ty x ix) (hT:dQ P ty .string) (hx:S.opd x = sC s) (hs:s.data.toList = Oh) (hi:S.opd ix = iC kk z) (hz:z = (k:Int)) (hk:k < 256) :
 aw n P ops o (aA x ++ aA ix) (iC .u8 ((tZ k:Nat):Int)) [] S:=by
 have h:=Jt ⟨k,hk⟩
 simp only at h
 cases hc:Oh[k]? with
 | none=>rw [hc] at h;cases h
 | some c=>
  rw [hc] at h
  simp only [Option.map_some,Option.some.injEq] at h
  rw [← h]
  exact jS hp ho hT hx hi (i:=k) hz (by rw [hs];exact hc)
theorem EU {Q:Exit → St → Prop} {x y:Code} (h:AW P n y Q S):AW P n (.cond (.const (.bool false)) x y) Q S:=
 ⟨fun C a w hr=>wp_cond_split (t:=false) rfl (fun h=>by cases h) (fun _=>h.run C a w hr)⟩
theorem C6 {z:Nat} (h:z < 256):IntKind.u8.wrap (z:Int) = (z:Int):=by
 simp [IntKind.wrap,IntKind.bits,IntKind.signed];omega
end
section
theorem Mj {k:Nat} (h:k < 256):tZ k ≤ 8:=by
 have:∀ k:Fin 256,tZ k.val ≤ 8:=by decide +kernel
 exact this ⟨k,h⟩
theorem BF (k:Nat) (hk:k < 256):Fn Tryz.prog 161 [iC .u64 (k:Nat)] (gy ((tZ k:Nat):Int)):=by
 have hb:=Mj hk
 have e:(0:Int) + ((tZ k:Nat):Int) = ((tZ k:Nat):Int):=by omega
 have c1:((k:Nat):Int) < 256:=by omega
 refine fi Tryz.func161 Tryz.ntmps161 ?_
 (repeat' (first|refine fS ?_|refine dx ?_|refine ei ?_|refine ej ?_|refine fT ?_|refine cO ?_|refine e9 gK ?_|refine fQ ?_|refine fR (by kernel_rfl) ?_|(refine nf rfl rfl ⟨fun hc=>?_,fun hc=>?_⟩ <;> (repeat rw [List.length_map] at hc) <;> (try exact gg hc))|((first|apply aO rfl|apply aP rfl|apply aQ rfl|apply aR rfl);focus (first|((apply bn 13;(focus rfl);exact Ju (k:=k) ⟨rfl,rfl,rfl⟩ rfl inferInstance rfl (by decide +kernel) rfl (C6 hk) hk))|(apply b8;(focus rfl);apply ah rfl rfl rfl rfl rfl;((apply bn 13;(focus rfl);exact Ju (k:=k) ⟨rfl,rfl,rfl⟩ rfl inferInstance rfl (by decide +kernel) rfl (C6 hk) hk)))|((apply bn 8;(focus rfl);exact gH ⟨rfl,rfl,rfl⟩ rfl rfl rfl rfl ((cm (by omega) (by omega)).trans e)))|(apply b8;(focus rfl);apply ah rfl rfl rfl rfl rfl;((apply bn 8;(focus rfl);exact gH ⟨rfl,rfl,rfl⟩ rfl rfl rfl rfl ((cm (by omega) (by omega)).trans e))))|exact iH|fail))|refine ep ?_|refine eu ?_|refine ev ?_|refine jb ?_|refine jc ?_|refine ew ?_|refine dy rfl ?_|((first|refine ng rfl rfl rfl ⟨fun hc=>?_,fun hc=>?_⟩|refine nh rfl rfl rfl ⟨fun hc=>?_,fun hc=>?_⟩) <;> (fail_if_success (have q:(true = true):=hc)) <;> (fail_if_success (have q:(false = false):=hc)) <;> (repeat rw [List.length_map] at hc) <;> (try exact gg hc))|refine cX rfl rfl (fun hc=>?_) ?_))
 refine aU ?_
 exact aH rfl rfl
theorem Jv (k:Nat) (hk:k < 256):Fn Tryz.prog 110 [iC .u64 (k:Nat)] (gy ((tZ k:Nat):Int)):=by
 have h:=BF k hk
 refine fi Tryz.func110 Tryz.ntmps110 ?_
 (refine w0 ?_;repeat' first|apply ai|refine aj fun hc=>?_)
 refine EU ?_
 (have kc1:=h;have kh1:=Lib.hid (show (0:Int) / 2 = 0 from rfl);refine qp ?_;(repeat' first|apply ai|refine aj fun hc=>?_);all_goals clear kh1 kc1)
 refine aU ?_
 exact aH rfl rfl
theorem Mk (M:List Rg) (lim:Int) (hk:wI M) (hl:M.length ≤ 12):de Tryz.prog 109 [.row 1000 0,iC .i64 0,iC .i64 (M.length:Nat),iC .i64 lim,qz] [(1000,iL M)] .any [(1000,iL (fE ltR M))]:=by
 have h:=ET [] M [] hk (by simp;omega)
 simp only [List.nil_append,List.append_nil,List.length_nil,Nat.zero_add] at h
 generalize fE ltR M = R at *
 have e:((M.length:Nat):Int) - 0 = ((M.length:Nat):Int):=by omega
 refine eR Tryz.func109 Tryz.ntmps109 ?_
 (refine ga e (mN h) ?_;repeat' first|apply ai|refine aj fun hc=>?_)
 refine an (X:=Unit) (fun _=>True) (fun _=>ba [(0,.row 1000 0),(1,iC .i64 0),(2,iC .i64 (M.length:Nat)),(3,iC .i64 lim),(4,qz)] [(1000,iL M)]) (fun _=>0) () trivial ?_ ?_
 ·exact ae
 ·rintro _ -
  (refine ga e (mN h) ?_;repeat' first|apply ai|refine aj fun hc=>?_)
  exact qn
theorem Jw (M:List Rg) (hk:wI M) (hl:M.length ≤ 12):de Tryz.prog 64 [.row 1000 0,qz] [(1000,iL M)] .any [(1000,iL (fE ltR M))]:=by
 have h1:=Jv M.length (by omega)
 have h:=Mk M ((tZ M.length:Nat):Int) hk hl
 generalize fE ltR M = R at *
 refine eR Tryz.func64 Tryz.ntmps64 ?_
 (have kc1:=h1;have km1:=(show fv [(1000,1000)] _ _ _ _ _ _ from h);have kh1:=Lib.hid (show (0:Int) / 2 = 0 from rfl);refine qp ?_;(repeat' first|apply ai|refine aj fun hc=>?_);all_goals clear kh1 km1 kc1)
 exact qn
end
abbrev ze (l:List Rg):Ret:=.own 50 3 (l.map rgP)
theorem zf {Q:List Rg} {k:Nat} (hk:k < Q.length):gA (Q.take (k + 1)) = zV (gA (Q.take k)) Q[k]:=by
 unfold gA;rw [List.take_succ_eq_append_getElem hk,List.foldl_append];rfl
theorem EV {Q:List Rg} (hR:∀ r ∈ Q,eO r = true) (hS:Q.Pairwise (fun x y=>x.lo ≤ y.lo)) (k:Nat):∀ r ∈ gA (Q.take k),eO r = true:=by
 intro r hr
 have h:=(yA (L:=Q.take k) (fun x hx=>hR x (List.mem_of_mem_take hx)) (hS.sublist (List.take_sublist _ _))).1
 obtain ⟨i,hi,rfl⟩:=List.getElem_of_mem hr
 exact (h i hi).1
theorem Ml (Q:List Rg) (k:Nat):(gA (Q.take k)).length ≤ k:=by
 have h:=Ib (Q.take k) []
 rw [List.length_take] at h
 simp only [List.length_nil] at h
 unfold gA
 omega
section
theorem C7 (l Q:List Rg) (hs:de Tryz.prog 64 [.row 1000 0,qz] [(1000,iL (l.filter eO))] .any [(1000,iL Q)]) (hql:Q.length = (l.filter eO).length)
 (hQr:∀ x ∈ Q,eO x = true) (hQs:Q.Pairwise fun x y=>x.lo ≤ y.lo) (hn:l.length ≤ 1000000000):Fn Tryz.prog 29 [dS l] (ze (gA Q)):=by
 generalize hT:l.filter eO = T at *
 have hTl:T.length ≤ 1000000000:=by rw [← hT];exact Nat.le_trans (List.length_filter_le _ _) hn
 generalize hR:gA Q = R
 refine fi Tryz.func29 Tryz.ntmps29 ?_
 (refine w0 ?_;repeat' first|apply ai|refine aj fun hc=>?_)
 refine bZ (b7 3 600 50 3 rfl rfl) ?_
 refine an (X:=Nat × List Rg) (fun x=>x.1 ≤ l.length ∧ x.2 ++ (l.drop x.1).filter eO = T)
  (fun x=>ba [(3,.row 600 0),(10,dS l),(11,iC .i64 (l.length:Nat)),(12,iC .i64 (x.1:Nat))] [(600,iL x.2)]) (fun x=>l.length - x.1) (0,[]) ⟨Nat.zero_le _,by simp [hT]⟩ ?_ ?_
 ·exact ae
 ·rintro ⟨k,ac⟩ ⟨g1,g2⟩
  simp only at g1 g2 ⊢
  by_cases hk:k < l.length
  ·have hir:=e7 l[k]
   have hlen:ac.length ≤ 1000000000:=by
    have:=congrArg List.length g2
    simp only [List.length_append] at this;omega
   rw [List.drop_eq_getElem_cons hk,List.filter_cons] at g2
   cases hr:eO l[k] with
   | false=>
    rw [hr] at hir g2
    (refine az hir ?_;repeat' first|apply ai|refine aj fun hc=>?_)
    refine ⟨(k + 1,ac),⟨by simp only;omega,by simpa using g2⟩,by simp only;omega,?_⟩
    exact ae
   | true=>
    rw [hr] at hir g2
    (refine az hir ?_;repeat' first|apply ai|refine aj fun hc=>?_)
    refine ⟨(k + 1,ac ++ [l[k]]),⟨by simp only;omega,by simpa using g2⟩,by simp only;omega,ay (aN 600 601) (ay (aN 601 600) ?_)⟩
    exact ae
  ·have hkl:k = l.length:=by omega
   subst hkl
   rw [List.drop_length] at g2
   simp at g2
   subst g2
   (refine fB (gj [(1000,600)] hs) ?_;repeat' first|apply ai|refine aj fun hc=>?_)
   clear hs hT
   refine bZ (b7 6 700 50 3 rfl rfl) ?_
   refine an (X:=Nat × List Rg) (fun x=>x.1 ≤ Q.length ∧ x.2 = gA (Q.take x.1))
    (fun x=>ba [(6,.row 700 0),(25,.row 600 0),(26,iC .i64 (Q.length:Nat)),(27,iC .i64 (x.1:Nat))] [(600,iL Q),(700,iL x.2)]) (fun x=>Q.length - x.1) (0,[]) ⟨Nat.zero_le _,rfl⟩ ?_ ?_
   ·exact ae
   ·rintro ⟨k,out⟩ ⟨g1,g2⟩
    simp only at g1 g2 ⊢
    by_cases hk:k < Q.length
    ·have hol:out.length ≤ 1000000000:=by have:=Ml Q k;rw [← g2] at this;omega
     have hor:=EV hQr hQs k
     rw [← g2] at hor
     have g3:=zf hk
     rw [← g2] at g3
     have hxr:=hQr _ (List.getElem_mem hk)
     generalize hx:Q[k] = x at *
     have HQ:(Q.map rgP)[k]? = some (rgP x):=by rw [List.getElem?_map,List.getElem?_eq_getElem hk,hx];rfl
     clear hQr hQs hx g2
     rcases dU out with rfl|⟨o,y,rfl⟩
     ·have g4:[x] = gA (Q.take (k + 1)):=by rw [g3];rfl
      (refine w0 ?_;repeat' first|apply ai|refine aj fun hc=>?_|((first|apply aO rfl|apply aP rfl|apply aQ rfl|apply aR rfl);(focus ((try (apply b8;(focus rfl);apply ah rfl rfl rfl rfl rfl));first|((apply bn 5;(focus rfl);exact aB ⟨rfl,rfl,rfl⟩ rfl inferInstance inferInstance rfl rfl rfl HQ rfl rfl rfl))));refine w0 ?_))
      refine ⟨(k + 1,[x]),⟨by simp only;omega,g4⟩,by simp only;omega,ay (aN 700 701) (ay (aN 701 700) ?_)⟩
      exact ae
     ·have hyr:=hor y (by simp)
      clear hor
      have hG:gA (Q.take (k + 1)) = (if y.op = false ∧ bu y.hi x.lo < 0 then (o ++ [y]) ++ [x] else if Ek y x < 0 then o ++ [⟨y.lo,x.hi,x.op⟩] else o ++ [y]):=by
       rw [g3,zV]
       simp only [List.reverse_append,List.reverse_cons,List.reverse_nil,List.nil_append,List.singleton_append,List.reverse_reverse]
      clear g3
      have hcm:=eN y.hi x.lo (by have:=((bT y).1 hyr).2.1;omega)
      have hen:=Eo y x hyr hxr
      clear hyr hxr
      have hL1:(o ++ [y]).length = o.length + 1:=by simp
      generalize hL:o ++ [y] = L at *
      have hLi:((L.length:Int) - 1).toNat = o.length:=by omega
      have HY:(L.map rgP)[((L.length:Int) - 1).toNat]? = some (rgP y):=by
       rw [List.getElem?_map,hLi,← hL]
       simp
      have HS1:(L.map rgP).set ((L.length:Int) - 1).toNat (cG (rgP y) 1 [av (.string x.hi)]) = (o ++ [(⟨y.lo,x.hi,y.op⟩:Rg)]).map rgP:=by
       rw [show (L.map rgP).set ((L.length:Int) - 1).toNat (cG (rgP y) 1 [av (.string x.hi)]) = (L.set ((L.length:Int) - 1).toNat ⟨y.lo,x.hi,y.op⟩).map rgP from cN rgP L _ (⟨y.lo,x.hi,y.op⟩:Rg),← hL,gQ o y _ [] _ (by rw [hL];omega)]
      have HY2:((o ++ [(⟨y.lo,x.hi,y.op⟩:Rg)]).map rgP)[((L.length:Int) - 1).toNat]? = some (rgP ⟨y.lo,x.hi,y.op⟩):=by
       rw [List.getElem?_map,hLi]
       simp
      have HS2:((o ++ [(⟨y.lo,x.hi,y.op⟩:Rg)]).map rgP).set ((L.length:Int) - 1).toNat (cG (rgP ⟨y.lo,x.hi,y.op⟩) 2 [av (.bool x.op)]) = (o ++ [(⟨y.lo,x.hi,x.op⟩:Rg)]).map rgP:=by
       rw [show ((o ++ [(⟨y.lo,x.hi,y.op⟩:Rg)]).map rgP).set ((L.length:Int) - 1).toNat (cG (rgP ⟨y.lo,x.hi,y.op⟩) 2 [av (.bool x.op)]) = ((o ++ [(⟨y.lo,x.hi,y.op⟩:Rg)]).set ((L.length:Int) - 1).toNat ⟨y.lo,x.hi,x.op⟩).map rgP from cN rgP (o ++ [(⟨y.lo,x.hi,y.op⟩:Rg)]) _ (⟨y.lo,x.hi,x.op⟩:Rg),gQ o _ _ [] _ (by omega)]
      generalize hE:Ek y x = E at *
      generalize hC:bu y.hi x.lo = C at *
      cases hyo:y.op with
      | true=>
       rw [hyo,if_neg (by simp)] at hG
       have HYt:(L.map rgP)[((L.length:Int) - 1).toNat]? = some [av (.string y.lo),av (.string y.hi),av (.bool true)]:=by rw [HY];simp only [rgP,hyo]
       (refine aL hcm hen ?_;repeat' first|apply ai|refine aj fun hc=>?_|((first|apply aO rfl|apply aP rfl|apply aQ rfl|apply aR rfl);(focus ((try (apply b8;(focus rfl);apply ah rfl rfl rfl rfl rfl));first|((apply bn 5;(focus rfl);first|exact bm ⟨rfl,rfl,rfl⟩ rfl inferInstance rfl rfl rfl HYt rfl|exact aB ⟨rfl,rfl,rfl⟩ rfl inferInstance inferInstance rfl rfl rfl HY rfl rfl rfl|exact aB ⟨rfl,rfl,rfl⟩ rfl inferInstance inferInstance rfl rfl rfl HQ rfl rfl rfl))|((apply bn 6;(focus rfl);first|exact aX ⟨rfl,rfl⟩ rfl inferInstance rfl rfl rfl rfl HY rfl (bx rfl rfl rfl) rfl HS1|exact aX ⟨rfl,rfl⟩ rfl inferInstance rfl rfl rfl rfl HY2 rfl (bx rfl rfl rfl) rfl HS2))));refine aL hcm hen ?_))
       ·rw [if_pos (by omega)] at hG
        refine ⟨(k + 1,_),⟨by simp only;omega,hG.symm⟩,by simp only;omega,?_⟩
        exact ae
       ·rw [if_neg (by omega)] at hG
        refine ⟨(k + 1,L),⟨by simp only;omega,hG.symm⟩,by simp only;omega,?_⟩
        exact ae
      | false=>
       rw [hyo] at hG
       have HYt:(L.map rgP)[((L.length:Int) - 1).toNat]? = some [av (.string y.lo),av (.string y.hi),av (.bool false)]:=by rw [HY];simp only [rgP,hyo]
       by_cases hC0:C < 0
       ·rw [if_pos ⟨rfl,hC0⟩] at hG
        (refine aL hcm hen ?_;repeat' first|apply ai|refine aj fun hc=>?_|((first|apply aO rfl|apply aP rfl|apply aQ rfl|apply aR rfl);(focus ((try (apply b8;(focus rfl);apply ah rfl rfl rfl rfl rfl));first|((apply bn 5;(focus rfl);first|exact bm ⟨rfl,rfl,rfl⟩ rfl inferInstance rfl rfl rfl HYt rfl|exact aB ⟨rfl,rfl,rfl⟩ rfl inferInstance inferInstance rfl rfl rfl HY rfl rfl rfl|exact aB ⟨rfl,rfl,rfl⟩ rfl inferInstance inferInstance rfl rfl rfl HQ rfl rfl rfl))|((apply bn 6;(focus rfl);first|exact aX ⟨rfl,rfl⟩ rfl inferInstance rfl rfl rfl rfl HY rfl (bx rfl rfl rfl) rfl HS1|exact aX ⟨rfl,rfl⟩ rfl inferInstance rfl rfl rfl rfl HY2 rfl (bx rfl rfl rfl) rfl HS2))));refine aL hcm hen ?_))
        refine ⟨(k + 1,L ++ [x]),⟨by simp only;omega,hG.symm⟩,by simp only;omega,ay (aN 700 701) (ay (aN 701 700) ?_)⟩
        exact ae
       ·rw [if_neg (fun h=>hC0 h.2)] at hG
        (refine aL hcm hen ?_;repeat' first|apply ai|refine aj fun hc=>?_|((first|apply aO rfl|apply aP rfl|apply aQ rfl|apply aR rfl);(focus ((try (apply b8;(focus rfl);apply ah rfl rfl rfl rfl rfl));first|((apply bn 5;(focus rfl);first|exact bm ⟨rfl,rfl,rfl⟩ rfl inferInstance rfl rfl rfl HYt rfl|exact aB ⟨rfl,rfl,rfl⟩ rfl inferInstance inferInstance rfl rfl rfl HY rfl rfl rfl|exact aB ⟨rfl,rfl,rfl⟩ rfl inferInstance inferInstance rfl rfl rfl HQ rfl rfl rfl))|((apply bn 6;(focus rfl);first|exact aX ⟨rfl,rfl⟩ rfl inferInstance rfl rfl rfl rfl HY rfl (bx rfl rfl rfl) rfl HS1|exact aX ⟨rfl,rfl⟩ rfl inferInstance rfl rfl rfl rfl HY2 rfl (bx rfl rfl rfl) rfl HS2))));refine aL hcm hen ?_))
        ·rw [if_pos (by omega)] at hG
         refine ⟨(k + 1,_),⟨by simp only;omega,hG.symm⟩,by simp only;omega,?_⟩
         exact ae
        ·rw [if_neg (by omega)] at hG
         refine ⟨(k + 1,L),⟨by simp only;omega,hG.symm⟩,by simp only;omega,?_⟩
         exact ae
    ·have hkl:k = Q.length:=by omega
     subst hkl
     have g3:out = R:=by rw [g2,List.take_length];exact hR
     (refine w0 ?_;repeat' first|apply ai|refine aj fun hc=>?_)
     refine aU ?_
     exact fN rfl rfl rfl (by rw [g3])
theorem BG (l:List Rg) (hl:(l.filter eO).length ≤ 12) (hn:l.length ≤ 1000000000):Fn Tryz.prog 29 [dS l] (ze (sn l)):=by
 have hTr:∀ x ∈ l.filter eO,eO x = true:=fun x hx=>(List.mem_filter.1 hx).2
 exact C7 l (fE ltR (l.filter eO)) (Jw _ (fun x hx=>by have:=((bT x).1 (hTr x hx)).1;show x.lo.size ≤ _;omega) hl) (oT _) (fun x hx=>hTr x ((lU pM).1 hx))
  (((dl pM _).1).imp fun {x y} h=>by simp only [ltR,decide_eq_false_iff_not,dz] at h;grind) hn
theorem EW (l:List Rg) (hl:l.length ≤ 12):∃ m,dr m ∧ m.length ≤ l.length ∧ (∀ s,bA m s = bA l s) ∧ Fn Tryz.prog 133 [.per (fC l)] (.per (fC m)):=by
 by_cases hok:dr l
 ·refine ⟨l,hok,Nat.le_refl _,fun _=>rfl,?_⟩
  have h1:=mS l (by omega) true (by simp [hok])
  refine fi Tryz.func133 Tryz.ntmps133 ?_
  (refine az h1 ?_;repeat' first|apply ai|refine aj fun hc=>?_)
  refine aU ?_
  exact ct rfl
 ·obtain ⟨a1,a2⟩:=mW l
  have a3:=sq l
  refine ⟨sn l,a1,a3,a2,?_⟩
  have h1:=mS l (by omega) false (by simp [hok])
  have h2:=(BG l (by have:=List.length_filter_le eO l;omega) (by omega)).frz
  refine fi Tryz.func133 Tryz.ntmps133 ?_
  (refine aL h1 h2 ?_;repeat' first|apply ai|refine aj fun hc=>?_)
  refine aU ?_
  exact ct rfl
theorem zg (l:List Rg) (s:ByteArray) (hs:s.size ≤ 1000000000) (hl:l.length ≤ 1000000000) (p:Nat) (hp:p ≤ l.length) (hlt:∀ j (hj:j < l.length),((l[j].op = true ∨ s < l[j].hi) ↔ p ≤ j)) :
 Fn Tryz.prog 134 [.per (fC l),sC s] (gy (p:Nat)):=by
 refine fi Tryz.func134 Tryz.ntmps134 ?_
 (refine w0 ?_;repeat' first|apply ai|refine aj fun hc=>?_)
 refine an (X:=Nat × Nat) (fun z=>z.1 ≤ p ∧ p ≤ z.2 ∧ z.2 ≤ l.length)
  (fun z=>ba [(0,.per (fC l)),(1,sC s),(5,iC .i64 (z.1:Nat)),(6,iC .i64 (z.2:Nat))] []) (fun z=>z.2 - z.1) (0,l.length) ⟨Nat.zero_le _,hp,Nat.le_refl _⟩ ?_ ?_
 ·exact ae
 ·rintro ⟨i,j⟩ ⟨h1,h2,h3⟩
  simp only at h1 h2 h3 ⊢
  by_cases hij:i < j
  ·obtain ⟨h,hh'⟩:∃ h:Nat,(i:Int) + ((j:Int) - (i:Int)) / 2 = (h:Nat):=⟨i + (j - i) / 2,by omega⟩
   have hih:i ≤ h:=by omega
   have hhj:h < j:=by omega
   have hlt':=hlt h (by omega)
   have hmm:=eN s l[h].hi (by omega)
   clear hlt
   cases ho:l[h].op with
   | true=>
    rw [ho] at hlt'
    have:=hlt'.1 (.inl rfl)
    clear hlt'
    (refine bU hh' hmm ?_;repeat' first|apply ai|refine aj fun hc=>?_)
    all_goals first|(exfalso;simp_all;done)|skip
    refine ⟨(i,h),⟨h1,by simp only;omega,by simp only;omega⟩,by simp only;omega,?_⟩
    exact ae
   | false=>
    rw [ho] at hlt'
    have hq:bu s l[h].hi < 0 ↔ p ≤ h:=by rw [← hlt',dz];simp
    clear hlt'
    (refine bU hh' hmm ?_;repeat' first|apply ai|refine aj fun hc=>?_)
    all_goals first|(exfalso;simp_all;done)|skip
    ·refine ⟨(i,h),⟨h1,by simp only;omega,by simp only;omega⟩,by simp only;omega,?_⟩
     exact ae
    ·refine ⟨(h + 1,j),⟨by simp only;omega,h2,h3⟩,by simp only;omega,?_⟩
     exact ae
  ·obtain rfl:i = p:=by omega
   (refine w0 ?_;repeat' first|apply ai|refine aj fun hc=>?_)
   refine aU ?_
   exact aH rfl rfl
theorem Mm (l:List Rg) (s:ByteArray) (hl:l.length ≤ 12) (hs:s.size ≤ 1000000000):Fn Tryz.prog 82 [.per (fC l),sC s] (cw (bA l s)):=by
 obtain ⟨m,hok,hml,hany,h1⟩:=EW l hl
 obtain ⟨p,hp,hlt⟩:=CJ hok s
 have h2:=zg m s hs (by omega) p hp hlt
 have hA:=Ic hok hlt
 rw [hany] at hA
 rw [hA]
 clear hA hany hlt hok
 by_cases hn:p < m.length
 ·have h3:=oV m[p] s hs
  rw [List.getElem?_eq_getElem hn]
  simp only
  refine fi Tryz.func82 Tryz.ntmps82 ?_
  (refine eX h1 h2 h3 ?_;repeat' first|apply ai|refine aj fun hc=>?_)
  refine aU ?_
  exact af rfl rfl
 ·rw [List.getElem?_eq_none (by omega)]
  simp only
  refine fi Tryz.func82 Tryz.ntmps82 ?_
  (refine aL h1 h2 ?_;repeat' first|apply ai|refine aj fun hc=>?_)
  refine aU ?_
  exact af rfl rfl
end
theorem Mn:∀ (l:List Int) (n:Int) (k:Nat),k ≤ l.length → (∀ j (h:j < l.length),j < k → l[j] < n) → (∀ h:k < l.length,¬ l[k] < n) →
 ((∃ h:k < l.length,l[k] = n) → gz l n = l) ∧ ((¬ ∃ h:k < l.length,l[k] = n) → gz l n = l.take k ++ n :: l.drop k):=by
 intro l
 induction l with
 | nil=>
  intro n k hk _ _
  obtain rfl:k = 0:=by simpa using hk
  exact ⟨fun ⟨h,_⟩=>by simp at h,fun _=>rfl⟩
 | cons x l ih=>
  intro n k hk h1 h2
  cases k with
  | zero=>
   have:=h2 (by simp)
   simp only [List.getElem_cons_zero] at this
   rw [gz,if_neg this]
   refine ⟨fun ⟨_,e⟩=>?_,fun e=>?_⟩
   ·simp only [List.getElem_cons_zero] at e
    rw [if_pos e]
   ·rw [if_neg (fun q=>e ⟨by simp,by simpa using q⟩)]
    rfl
  | succ k=>
   have h3:=h1 0 (by simp) (by omega)
   simp only [List.getElem_cons_zero] at h3
   have:=ih n k (by simpa using hk) (fun j hj hjk=>by have:=h1 (j + 1) (by simpa using hj) (by omega);simpa using this) (fun h=>by have:=h2 (by simpa using h);simpa using this)
   rw [gz,if_pos h3]
   refine ⟨fun ⟨h,e⟩=>?_,fun e=>?_⟩
   ·rw [this.1 ⟨by simpa using h,by simpa using e⟩]
   ·rw [this.2 (fun ⟨h,q⟩=>e ⟨by simpa using h,by simpa using q⟩)]
    rfl
section
variable {P:Program} {n:Nat} {S:St}
theorem rq {t k:Nat} {es es':List (List PV)} (h:S.get t = .per (cD k es)) (e:es = es'):cM P n S (.tmp t) (.per (cD k es')):=ct (e ▸ h)
end
abbrev QL (n:Int):List PV:=[av (.int .i64 n)]
abbrev Jx (l:List Int):PV:=cD 1 (l.map QL)
abbrev zh (l:List Int):Cnt:=.per (Jx l)
section
theorem o5 (l:List Int) (n:Int) (hl:l.length ≤ 1000000000):Fn Tryz.prog 246 [zh l,iC .i64 n] (.per (Jx (gz l n))):=by
 generalize hR:gz l n = R
 refine fi Tryz.func246 Tryz.ntmps246 ?_
 (refine w0 ?_;repeat' first|apply ai|refine aj fun hc=>?_)
 refine an (X:=Nat) (fun k=>k ≤ l.length ∧ ∀ j (h:j < l.length),j < k → l[j] < n)
  (fun k=>ba [(0,zh l),(1,iC .i64 n),(5,iC .i64 ((k:Nat):Int))] []) (fun k=>l.length - k) 0 ⟨Nat.zero_le _,fun j _ h=>by omega⟩ ?_ ?_
 ·exact ae
 ·rintro k ⟨h1,h2⟩
  by_cases hgo:∃ h:k < l.length,l[k] < n
  ·obtain ⟨hk,hlt⟩:=hgo
   have h2':∀ j (h:j < l.length),j < k + 1 → l[j] < n:=fun j h hj=>by
    rcases Nat.lt_or_ge j k with q|q
    ·exact h2 j h q
    ·obtain rfl:j = k:=by omega
     exact hlt
   clear hR h2
   (refine w0 ?_;repeat' first|apply ai|refine aj fun hc=>?_)
   refine ⟨k + 1,⟨hk,h2'⟩,by omega,?_⟩
   exact ae
  ·have hP:=Mn l n k h1 h2 (fun h q=>hgo ⟨h,q⟩)
   clear h2
   by_cases hk:k < l.length
   ·have hge:¬ l[k] < n:=fun q=>hgo ⟨hk,q⟩
    by_cases he:l[k] = n
    ·have hR':l = R:=by rw [← hR,hP.1 ⟨hk,he⟩]
     clear hR hP hgo
     (refine w0 ?_;repeat' first|apply ai|refine aj fun hc=>?_)
     refine aU ?_
     exact qU rfl hR'
    ·have hR':l.take k ++ n :: l.drop k = R:=by rw [← hR,hP.2 (fun ⟨_,q⟩=>he q)]
     clear hR hP hgo
     (refine w0 ?_;repeat' first|apply ai|refine aj fun hc=>?_)
     refine jx (b7 34 700 3 1 rfl rfl) ?_
     (refine w0 ?_;repeat' first|apply ai|refine aj fun hc=>?_)
     refine ⟨.inl rfl,mL (je 700 _ 3 1 rfl rfl) (Ah rfl (rq rfl (by rw [← hR'];simp [List.map_take,List.map_drop];rfl)))⟩
   ·have hR':l.take k ++ n :: l.drop k = R:=by rw [← hR,hP.2 (fun ⟨q,_⟩=>hk q)]
    clear hR hP hgo
    (refine w0 ?_;repeat' first|apply ai|refine aj fun hc=>?_)
    refine jx (b7 34 700 3 1 rfl rfl) ?_
    (refine w0 ?_;repeat' first|apply ai|refine aj fun hc=>?_)
    refine ⟨.inl rfl,mL (je 700 _ 3 1 rfl rfl) (Ah rfl (rq rfl (by rw [← hR'];simp [List.map_take,List.map_drop];rfl)))⟩
theorem zj:∀ (l:List Int) (n:Int),(gz l n).length ≤ l.length + 1:=by
 intro l
 induction l with
 | nil=>intro n;simp [gz]
 | cons x l ih=>
  intro n
  rw [gz]
  split
  ·have:=ih n;simp;omega
  ·split <;> simp
theorem uX (e:List Int) (l:List Rn) (k:Nat) (h:k < l.length):ez e (l.take (k + 1)) = oL (ez e (l.take k)) l[k]:=by
 unfold ez
 rw [List.take_succ_eq_append_getElem h,List.foldl_append]
 rfl
theorem nn (e:List Int) (l:List Rn) (k:Nat):(ez e (l.take k)).length ≤ e.length + 2 * l.length:=by
 have h:=oM (l.take k) e
 rw [List.length_take] at h
 omega
theorem BH (a b:List Rn) (ha:a.length ≤ 100000000) (hb:b.length ≤ 100000000):Fn Tryz.prog 219 [fd a,fd b] (.per (Jx (ez (ez [] a) b))):=by
 have lA:=oM a []
 simp only [List.length_nil,Nat.zero_add] at lA
 generalize hR:ez (ez [] a) b = R
 refine fi Tryz.func219 Tryz.ntmps219 ?_
 (refine w0 ?_;repeat' first|apply ai|refine aj fun hc=>?_)
 refine bZ (b7 5 700 3 1 rfl rfl) (bZ (je 700 _ 3 1 rfl rfl) ?_)
 refine an (X:=Nat) (fun k=>k ≤ a.length)
  (fun k=>ba [(0,fd a),(1,fd b),(5,zh (ez [] (a.take k))),(6,iC .i64 ((k:Nat):Int))] []) (fun k=>a.length - k) 0 (Nat.zero_le _) ?_ ?_
 ·exact ae
 ·intro k hk
  by_cases hlt:k < a.length
  ·have hs:=uX [] a k hlt
   have hlen:=nn [] a k
   simp only [List.length_nil,Nat.zero_add] at hlen
   have c0:=oH a[k]
   generalize ez [] (a.take k) = E at *
   clear hR
   cases hr:gM a[k] with
   | true=>
    have hi:=(bK _).1 hr
    rw [hr] at c0
    have c1:=o5 E a[k].fr (by omega)
    have hp:=zj E a[k].fr
    have c2:=o5 (gz E a[k].fr) (a[k].to + 1) (by omega)
    rw [oL,if_pos hr] at hs
    generalize gz E a[k].fr = E1 at *
    generalize gz E1 (a[k].to + 1) = E2 at *
    (refine eV c0 c1 c2 ?_;repeat' first|apply ai|refine aj fun hc=>?_)
    refine ⟨k + 1,hlt,by omega,?_⟩
    rw [hs]
    exact ae
   | false=>
    rw [hr] at c0
    rw [oL,if_neg (by simp [hr])] at hs
    (refine az c0 ?_;repeat' first|apply ai|refine aj fun hc=>?_)
    refine ⟨k + 1,hlt,by omega,?_⟩
    rw [hs]
    exact ae
  ·rw [List.take_of_length_le (show a.length ≤ k by omega)]
   generalize ez [] a = E0 at *
   (refine w0 ?_;repeat' first|apply ai|refine aj fun hc=>?_)
   refine an (X:=Nat) (fun k=>k ≤ b.length)
    (fun k=>ba [(1,fd b),(5,zh (ez E0 (b.take k))),(7,iC .i64 ((k:Nat):Int))] []) (fun k=>b.length - k) 0 (Nat.zero_le _) ?_ ?_
   ·exact ae
   ·clear hlt hk
    intro k hk
    by_cases hlt:k < b.length
    ·have hs:=uX E0 b k hlt
     have hlen:=nn E0 b k
     have c0:=oH b[k]
     generalize ez E0 (b.take k) = E at *
     clear hR
     cases hr:gM b[k] with
     | true=>
      have hi:=(bK _).1 hr
      rw [hr] at c0
      have c1:=o5 E b[k].fr (by omega)
      have hp:=zj E b[k].fr
      have c2:=o5 (gz E b[k].fr) (b[k].to + 1) (by omega)
      rw [oL,if_pos hr] at hs
      generalize gz E b[k].fr = E1 at *
      generalize gz E1 (b[k].to + 1) = E2 at *
      (refine eV c0 c1 c2 ?_;repeat' first|apply ai|refine aj fun hc=>?_)
      refine ⟨k + 1,hlt,by omega,?_⟩
      rw [hs]
      exact ae
     | false=>
      rw [hr] at c0
      rw [oL,if_neg (by simp [hr])] at hs
      (refine az c0 ?_;repeat' first|apply ai|refine aj fun hc=>?_)
      refine ⟨k + 1,hlt,by omega,?_⟩
      rw [hs]
      exact ae
    ·rw [List.take_of_length_le (show b.length ≤ k by omega),hR]
     (refine w0 ?_;repeat' first|apply ai|refine aj fun hc=>?_)
     refine aU ?_
     exact qU rfl rfl
theorem tc (l:List Rn) (n:Int) (hl:l.length ≤ 1000000000):Fn Tryz.prog 115 [fd l,iC .i64 n] (cw (cH l n)):=by
 generalize hT:cH l n = T
 refine fi Tryz.func115 Tryz.ntmps115 ?_
 (refine w0 ?_;repeat' first|apply ai|refine aj fun hc=>?_)
 refine an (X:=Nat) (fun i=>i ≤ l.length ∧ cH (l.drop i) n = T)
  (fun i=>ba [(0,fd l),(1,iC .i64 n),(5,iC .i64 ((i:Nat):Int))] []) (fun i=>l.length - i) 0 ⟨Nat.zero_le _,by simpa using hT⟩ ?_ ?_
 ·exact ae
 ·rintro i ⟨h1,h2⟩
  clear hT
  by_cases hlt:i < l.length
  ·rw [List.drop_eq_getElem_cons hlt,cH,List.any_cons,← cH] at h2
   have c0:=oH l[i]
   cases hr:gM l[i] with
   | true=>
    rw [hr] at c0
    rw [hr,Bool.true_and] at h2
    by_cases c1:l[i].fr ≤ n
    ·by_cases c2:n ≤ l[i].to
     ·rw [decide_eq_true c1,decide_eq_true c2,Bool.true_and,Bool.true_or] at h2
      subst h2
      (refine az c0 ?_;repeat' first|apply ai|refine aj fun hc=>?_)
      refine aU ?_
      exact af rfl rfl
     ·rw [decide_eq_true c1,decide_eq_false c2,Bool.true_and,Bool.false_or] at h2
      (refine az c0 ?_;repeat' first|apply ai|refine aj fun hc=>?_)
      refine ⟨i + 1,⟨hlt,h2⟩,by omega,?_⟩
      exact ae
    ·rw [decide_eq_false c1,Bool.false_and,Bool.false_or] at h2
     (refine az c0 ?_;repeat' first|apply ai|refine aj fun hc=>?_)
     refine ⟨i + 1,⟨hlt,h2⟩,by omega,?_⟩
     exact ae
   | false=>
    rw [hr] at c0
    rw [hr,Bool.false_and,Bool.false_or] at h2
    (refine az c0 ?_;repeat' first|apply ai|refine aj fun hc=>?_)
    refine ⟨i + 1,⟨hlt,h2⟩,by omega,?_⟩
    exact ae
  ·have h2':false = T:=by
    rw [List.drop_of_length_le (by omega)] at h2
    exact h2
   subst h2'
   clear h2
   (refine w0 ?_;repeat' first|apply ai|refine aj fun hc=>?_)
   refine aU ?_
   exact af rfl rfl
end
end Go.Proofs.YtliiahjpiagdkaaGreat
