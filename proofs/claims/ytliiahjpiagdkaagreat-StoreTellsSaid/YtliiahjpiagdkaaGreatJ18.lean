/- Texts joined: Sort Merge SymM. -/
import Derived.Test.YtliiahjpiagdkaaGreatJ09
import Derived.Test.YtliiahjpiagdkaaGreatJ05
import Derived.Test.YtliiahjpiagdkaaGreatJ13
set_option maxRecDepth 10000
set_option maxHeartbeats 8000000
namespace Go.Proofs.YtliiahjpiagdkaaGreat
open Go.RowKit
section
variable {P:Program} {n:Nat} {ops:Array Oper} {o:Oper} {S:St}
theorem Iy {f:FuncId} {x0:Operand} {xs:List Operand} {As:List Cnt} {pre post:List (Nat × Blk)} {r:Cnt} (sg:List (Nat × Nat)) (hf:de P f As pre r post) (hp:DP n o:=by exact ⟨rfl,rfl⟩) (ho:iR o x0 xs:=by exact ⟨_,rfl⟩) (hx:S.opd x0 = .per (av (.func (.func f) #[] #[])):=by rfl) (hok:Gm sg = true:=by rfl)
 (hg:qm S sg xs As:=by first|((repeat (first|exact qm.nil|(refine qm.cons ?_ ?_;focus (first|exact nr rfl|exact nt rfl|exact nv rfl rfl rfl rfl|exact nu rfl|exact nx rfl|exact kI rfl|exact lL rfl rfl))));done)|fail) (hpre:lg S sg pre:=by first|((repeat (first|exact lg.nil|(refine lg.cons rfl rfl ?_)));done)|fail):aw n P ops o (aA x0 ++ (eh S xs ++ vG sg)) (r.mp false (jy sg) z0 (tG S.ver sg)) (lF S post sg sg) S:=
 jU (cs:=[]) sg hp ho (xS hx (fun k h=>by simp [h])) (by simpa using hf) hok (fun p h=>by simp [rQ p h]) (hg.gives (fun _ h=>by simp at h ⊢;exact .inr (.inl h)) (fun _ h=>by simp [h])) hpre
end
def wb (x:It):List It → List It → List It
 | [],r=>x :: r
 | y :: l,r=>if bu x.key y.key < 0 then wb x l (y :: r) else (y :: l).reverse ++ x :: r
def tV (p:List It) (x:It):List It:=wb x p.reverse []
def d8 (l:List It):List It:=l.foldl tV []
theorem Iz (x:It):∀ (l r:List It),(wb x l r).length = l.length + 1 + r.length:=by
 intro l
 induction l with
 | nil=>intro r;simp [wb];omega
 | cons y l ih=>
  intro r
  unfold wb
  split
  ·rw [ih];simp;omega
  ·simp;omega
abbrev l9:Cnt:=.per (av (.func (.func 136) #[] #[]))
abbrev eS (l:List It):Blk:=.row 41 7 (l.map itP)
def lm (l:List It):Prop:=∀ x ∈ l,x.key.size ≤ 1000000000
theorem gQ {α:Type} (A:List α) (x y:α) (T:List α) (j:Nat) (hj:j = A.length):(A ++ x :: T).set j y = A ++ y :: T:=by
 subst hj;simp
theorem dU {α:Type} (l:List α):l = [] ∨ ∃ (l':List α) (y:α),l = l' ++ [y]:=by
 rcases List.eq_nil_or_concat l with h|⟨a,y,h⟩
 ·exact .inl h
 ·exact .inr ⟨a,y,by rw [h];simp⟩
theorem cN {α β:Type} (f:α → β) (l:List α) (j:Nat) (y:α):(l.map f).set j (f y) = (l.set j y).map f:=by rw [List.map_set]
section
theorem oX (x y:It) (hx:x.key.size ≤ 1000000000):de Tryz.prog 136 [wV x,wV y] [] (.per (av (.int .i64 (bu x.key y.key)))) []:=by
 have h1:=eN x.key y.key (by omega)
 refine eR Tryz.func136 Tryz.ntmps136 ?_
 (refine az h1 ?_;repeat' first|apply ai|refine aj fun hc=>?_)
 refine ⟨(by first|exact .inl rfl|exact .inr rfl),cc [] rfl rfl .nil ?_⟩
 exact cL rfl rfl
theorem yM (A M Z:List It) (hk:lm M) (hl:(A ++ M ++ Z).length ≤ 1000000000):de Tryz.prog 209 [.row 1000 0,iC .i64 (A.length:Nat),iC .i64 ((A.length + M.length:Nat):Int),l9] [(1000,eS (A ++ M ++ Z))] .any [(1000,eS (A ++ d8 M ++ Z))]:=by
 generalize hR:A ++ d8 M ++ Z = R
 generalize hb:A.length + M.length = b
 simp only [List.length_append] at hl
 refine eR Tryz.func209 Tryz.ntmps209 ?_
 (refine w0 ?_;repeat' first|apply ai|refine aj fun hc=>?_)
 refine an (X:=Nat × List It × List It) (fun x=>A.length < x.1 ∧ x.1 ≤ b + 1 ∧ A.length + x.2.1.length = min x.1 b ∧ A.length + x.2.1.length + x.2.2.length = b ∧ lm x.2.1 ∧ lm x.2.2 ∧ A ++ x.2.2.foldl tV x.2.1 ++ Z = R)
  (fun x=>ba [(0,.row 1000 0),(1,iC .i64 (A.length:Nat)),(2,iC .i64 (b:Nat)),(3,l9),(8,iC .i64 (x.1:Nat))] [(1000,eS (A ++ x.2.1 ++ (x.2.2 ++ Z)))]) (fun x=>b + 1 - x.1) (A.length + 1,M.take 1,M.drop 1) ?_ ?_ ?_
 ·refine ⟨by simp only;omega,by simp only;omega,by simp only [List.length_take];omega,by simp only [List.length_take,List.length_drop];omega,fun x h=>hk x (List.mem_of_mem_take h),fun x h=>hk x (List.mem_of_mem_drop h),?_⟩
  rw [← hR]
  cases M with
  | nil=>rfl
  | cons x M=>rfl
 ·have e:A ++ M.take 1 ++ (M.drop 1 ++ Z) = A ++ M ++ Z:=by
   rw [List.append_assoc,← List.append_assoc (M.take 1),List.take_append_drop,List.append_assoc]
  rw [e]
  exact ae
 ·rintro ⟨i,p,q⟩ ⟨h1,h2,h3,h4,hkp,hkq,h5⟩
  simp only at h1 h2 h3 h4 hkp hkq h5 ⊢
  by_cases hlt:i < b
  ·obtain ⟨x,q,rfl⟩:∃ x q',q = x :: q':=by
    cases q with
    | nil=>simp at h4;omega
    | cons x q=>exact ⟨x,q,rfl⟩
   have hip:A.length + p.length = i:=by omega
   clear h3
   have hkx:=hkq x (by simp)
   simp only [List.length_cons,List.foldl_cons] at h4 h5
   (repeat' (first|refine fS ?_|refine dx ?_|refine ei ?_|refine ej ?_|refine fT ?_|refine cO ?_|refine fQ ?_|refine fR (by kernel_rfl) ?_|(refine nf rfl rfl ⟨fun hc=>?_,fun hc=>?_⟩ <;> (repeat rw [List.length_map] at hc) <;> (try exact gg hc))|((first|apply aO rfl|apply aP rfl|apply aQ rfl|apply aR rfl);focus (first|exact iH|fail))|refine ep ?_|refine eu ?_|refine ev ?_|refine jb ?_|refine jc ?_|refine ew ?_|refine dy rfl ?_|((first|refine ng rfl rfl rfl ⟨fun hc=>?_,fun hc=>?_⟩|refine nh rfl rfl rfl ⟨fun hc=>?_,fun hc=>?_⟩) <;> (fail_if_success (have q:(true = true):=hc)) <;> (fail_if_success (have q:(false = false):=hc)) <;> (repeat rw [List.length_map] at hc) <;> (try exact gg hc))|refine cX rfl rfl (fun hc=>?_) ?_))
   refine an (X:=List It × List It) (fun y=>y.1.length + y.2.length = p.length ∧ lm y.1 ∧ lm y.2 ∧ wb x y.1.reverse y.2 = tV p x)
    (fun y=>ba [(0,.row 1000 0),(1,iC .i64 (A.length:Nat)),(2,iC .i64 (b:Nat)),(3,l9),(8,iC .i64 (i:Nat)),(9,iC .i64 ((A.length + y.1.length:Nat):Int))] [(1000,eS (A ++ y.1 ++ x :: (y.2 ++ (q ++ Z))))]) (fun y=>y.1.length) (p,[]) ⟨by simp,hkp,fun x h=>by simp at h,rfl⟩ ?_ ?_
   ·subst hip
    exact ae
   ·rintro ⟨p1,p2⟩ ⟨g1,gk1,gk2,g2⟩
    simp only at g1 gk1 gk2 g2 ⊢
    have out:tV p x = p1 ++ x :: p2 → (∃ z:Nat × List It × List It,(A.length < z.1 ∧ z.1 ≤ b + 1 ∧ A.length + z.2.1.length = min z.1 b ∧ A.length + z.2.1.length + z.2.2.length = b ∧ lm z.2.1 ∧ lm z.2.2 ∧ A ++ z.2.2.foldl tV z.2.1 ++ Z = R) ∧ z = (i + 1,p1 ++ x :: p2,q)):=fun e=>by
     refine ⟨_,⟨by simp only;omega,by simp only;omega,by simp;omega,by simp;omega,fun y hy=>?_,fun y hy=>hkq y (by simp [hy]),by rw [← e];exact h5⟩,rfl⟩
     rcases List.mem_append.1 hy with h|h
     ·exact gk1 y h
     ·rcases List.mem_cons.1 h with h|h
      ·subst h;exact hkx
      ·exact gk2 y h
    have hL0:A ++ p1 ++ x :: (p2 ++ (q ++ Z)) = A ++ (p1 ++ x :: p2) ++ (q ++ Z):=by simp
    rcases dU p1 with rfl|⟨p1',y,rfl⟩
    ·have e:tV p x = [] ++ x :: p2:=by rw [← g2];rfl
     obtain ⟨z,hz,rfl⟩:=out e
     rw [hL0]
     (refine w0 ?_;repeat' first|apply ai|refine aj fun hc=>?_)
     refine ⟨_,hz,by simp only;omega,?_⟩
     exact ae
    ·obtain ⟨j,hj⟩:∃ j,A.length + p1'.length = j:=⟨_,rfl⟩
     have hj1:A.length + (p1' ++ [y]).length = j + 1:=by simp;omega
     have hky:=gk1 y (by simp)
     have hm:=oX x y hkx
     generalize hL:A ++ (p1' ++ [y]) ++ x :: (p2 ++ (q ++ Z)) = L at *
     have hlen:j + 1 < L.length:=by rw [← hL];simp;omega
     have HJ:(L.map itP)[j + 1]? = some (itP x):=by
      rw [List.getElem?_map,← hL,List.getElem?_append_right (by simp;omega),List.length_append,hj1,Nat.sub_self];rfl
     have HJ1:(L.map itP)[j]? = some (itP y):=by
      rw [List.getElem?_map,← hL,List.append_assoc,List.append_assoc,List.getElem?_append_right (by omega),List.getElem?_append_right (by omega)]
      rw [show j - A.length - p1'.length = 0 by omega];rfl
     rw [hj1]
     have hrev:(p1' ++ [y]).reverse = y :: p1'.reverse:=by simp
     rw [hrev,wb] at g2
     have HS1:(L.map itP).set (j + 1) (cG (itP x) 0 (itP y)) = (L.set (j + 1) y).map itP:=by rw [← cN];rfl
     have HJ2:((L.set (j + 1) y).map itP)[j]? = some (itP y):=by
      rw [← cN,List.getElem?_set_ne (by omega)];exact HJ1
     have HS2:((L.set (j + 1) y).map itP).set j (cG (itP y) 0 (itP x)) = (A ++ p1' ++ x :: ((y :: p2) ++ (q ++ Z))).map itP:=by
      rw [cN itP (L.set (j + 1) y) j x |>.symm.trans rfl |> fun h=>(show ((L.set (j + 1) y).map itP).set j (cG (itP y) 0 (itP x)) = ((L.set (j + 1) y).set j x).map itP from cN itP _ j x)]
      rw [← hL,gQ (A ++ (p1' ++ [y])) x y _ (j + 1) (by simp;omega),show A ++ (p1' ++ [y]) ++ y :: (p2 ++ (q ++ Z)) = (A ++ p1') ++ y :: (y :: (p2 ++ (q ++ Z))) by simp,gQ (A ++ p1') y x _ j (by simp;omega)]
      simp
     by_cases hxy:bu x.key y.key < 0
     ·rw [if_pos hxy] at g2
      clear out
      (refine w0 ?_;repeat' first|apply ai|refine aj fun hc=>?_|((first|apply aO rfl|apply aP rfl|apply aQ rfl|apply aR rfl);(focus ((try (apply b8;(focus rfl);apply ah rfl rfl rfl rfl rfl));first|((apply bn 5;(focus rfl);first|exact aB ⟨rfl,rfl,rfl⟩ rfl inferInstance inferInstance rfl rfl rfl HJ rfl rfl rfl|exact aB ⟨rfl,rfl,rfl⟩ rfl inferInstance inferInstance rfl rfl rfl HJ1 rfl rfl rfl))|((apply bn 6;(focus rfl);first|exact aX ⟨rfl,rfl⟩ rfl inferInstance rfl rfl rfl rfl HJ rfl (.inl rfl) rfl HS1|exact aX ⟨rfl,rfl⟩ rfl inferInstance rfl rfl rfl rfl HJ2 rfl (.inl rfl) rfl HS2))|(exact Iy [] hm)));refine w0 ?_))
      refine ⟨(p1',y :: p2),⟨by simp at g1 ⊢;omega,fun z h=>gk1 z (by simp [h]),fun z h=>?_,g2⟩,by simp,?_⟩
      ·rcases List.mem_cons.1 h with h|h
       ·subst h;exact hky
       ·exact gk2 z h
      ·simp only [hj]
       exact ae
     ·rw [if_neg hxy] at g2
      have e:tV p x = (p1' ++ [y]) ++ x :: p2:=by rw [← g2];simp
      obtain ⟨z,hz,rfl⟩:=out e
      (refine w0 ?_;repeat' first|apply ai|refine aj fun hc=>?_|((first|apply aO rfl|apply aP rfl|apply aQ rfl|apply aR rfl);(focus ((try (apply b8;(focus rfl);apply ah rfl rfl rfl rfl rfl));first|((apply bn 5;(focus rfl);first|exact aB ⟨rfl,rfl,rfl⟩ rfl inferInstance inferInstance rfl rfl rfl HJ rfl rfl rfl|exact aB ⟨rfl,rfl,rfl⟩ rfl inferInstance inferInstance rfl rfl rfl HJ1 rfl rfl rfl))|(exact Iy [] hm)));refine w0 ?_))
      refine ⟨_,hz,by simp only;omega,?_⟩
      simp only
      rw [← hL0]
      exact ae
  ·have hq:q = []:=List.eq_nil_of_length_eq_zero (by omega)
   subst hq
   simp only [List.foldl_nil] at h5
   (refine w0 ?_;repeat' first|apply ai|refine aj fun hc=>?_)
   rw [List.nil_append,h5]
   exact qn
end
def nP (out:List It) (x:It):List It:=match out.reverse with
 | []=>[x]
 | y :: r=>if y.key = x.key then (if oE x y > 0 then r.reverse ++ [x] else out) else out ++ [x]
def bN (ls:List (List It)):List It:=(d8 (ls.flatten.filter itR)).foldl nP []
theorem IA (out:List It) (x:It):(nP out x).length ≤ out.length + 1:=by
 unfold nP
 rcases dU out with rfl|⟨o,y,rfl⟩
 ·simp
 ·simp only [List.reverse_append,List.reverse_cons,List.reverse_nil,List.nil_append,List.singleton_append]
  split
  ·split <;> simp
  ·simp
theorem gv (l:List It):(d8 l).length = l.length:=by
 unfold d8
 have:∀ (l p:List It),(l.foldl tV p).length = p.length + l.length:=by
  intro l
  induction l with
  | nil=>intro p;rfl
  | cons x l ih=>
   intro p
   rw [List.foldl_cons,ih]
   unfold tV
   rw [Iz];simp;omega
 simpa using this l []
theorem Ev {l:List It} (h:∀ x ∈ l,itR x = true):lm l:=fun x hx=>by
 have:=(Hh (h x hx)).2.2.2
 omega
section
end
def ltK (x y:It):Bool:=decide (bu x.key y.key < 0)
theorem NT (x:It):∀ (l r:List It),wb x l r = pL ltK x l r:=by
 intro l
 induction l with
 | nil=>intro r;rfl
 | cons y l ih=>intro r;unfold wb pL ltK;simp only [decide_eq_true_eq];rw [ih];rfl
theorem nQ (l:List It):d8 l = fE ltK l:=by
 have:tV = nG ltK:=by funext p x;exact NT x _ _
 unfold d8 fE;rw [this]
theorem ra:∀ (a b c:List UInt8),cz a a = 0 ∧ (cz a b < 0 → cz b c < 0 → cz a c < 0) ∧ (¬ cz a b < 0 → ¬ cz b c < 0 → ¬ cz a c < 0):=by
 intro a
 induction a with
 | nil=>intro b c;cases b <;> cases c <;> simp [cz]
 | cons x a ih=>
  intro b c
  refine ⟨by simp [cz,(ih a a).1],?_⟩
  cases b with
  | nil=>cases c <;> simp [cz]
  | cons y b=>
   cases c with
   | nil=>simp [cz]
   | cons z c=>
    obtain ⟨_,h1,h2⟩:=ih b c
    simp only [cz]
    refine ⟨?_,?_⟩
    ·intro q1 q2
     split at q1
     ·split at q2
      ·rw [if_pos (by omega)];decide
      ·split at q2
       ·omega
       ·rw [if_pos (by omega)];decide
     ·split at q1
      ·omega
      ·split at q2
       ·rw [if_pos (by omega)];decide
       ·split at q2
        ·omega
        ·rw [if_neg (by omega),if_neg (by omega)];exact h1 q1 q2
    ·intro q1 q2
     split at q1
     ·omega
     ·split at q1
      ·split at q2
       ·omega
       ·rw [if_neg (by omega)]
        split
        ·decide
        ·omega
      ·split at q2
       ·omega
       ·split at q2
        ·rw [if_neg (by omega),if_pos (by omega)];decide
        ·rw [if_neg (by omega),if_neg (by omega)];exact h2 q1 q2
theorem dA:sj ltK:=by
 refine ⟨fun x=>?_,fun x y z h1 h2=>?_,fun x y z h1 h2=>?_⟩
 ·exact decide_eq_false (by have:=(ra x.key.data.toList [] []).1;unfold bu;omega)
 ·exact decide_eq_true ((ra x.key.data.toList y.key.data.toList z.key.data.toList).2.1 (of_decide_eq_true h1) (of_decide_eq_true h2))
 ·exact decide_eq_false ((ra x.key.data.toList y.key.data.toList z.key.data.toList).2.2 (of_decide_eq_false h1) (of_decide_eq_false h2))
theorem g8 {l r:List It} (h:lm r) (hs:∀ x ∈ l,x ∈ r):lm l:=fun x hx=>h x (hs x hx)
theorem dq {α:Type} (A:List α) (x:α) (T:List α) (j:Nat) (hj:j = A.length):(A ++ x :: T)[j]? = some x:=by
 subst hj;simp
section
theorem sA (A X B Y Z:List It) (a b n:Int) (ha:a = (A.length:Nat)) (hb:b = ((A.length + X.length + B.length:Nat):Int)) (hn:n = (X.length:Nat)) (hxy:X.length = Y.length) (hl:A.length + X.length + B.length + Y.length + Z.length ≤ 1000000000) :
 de Tryz.prog 255 [.row 1000 0,iC .i64 a,iC .i64 b,iC .i64 n,l9] [(1000,eS (A ++ X ++ B ++ Y ++ Z))] .any [(1000,eS (A ++ Y ++ B ++ X ++ Z))]:=by
 subst ha hb hn
 generalize hR:A ++ Y ++ B ++ X ++ Z = R
 refine eR Tryz.func255 Tryz.ntmps255 ?_
 (refine w0 ?_;repeat' first|apply ai|refine aj fun hc=>?_)
 refine an (X:=List It × List It × List It × List It) (fun x=>x.1.length + x.2.1.length = X.length ∧ x.1.length = x.2.2.1.length ∧ x.2.1.length = x.2.2.2.length ∧ A ++ (x.2.2.1 ++ x.2.2.2) ++ B ++ (x.1 ++ x.2.1) ++ Z = R)
  (fun x=>ba [(0,.row 1000 0),(1,iC .i64 (A.length:Nat)),(2,iC .i64 ((A.length + X.length + B.length:Nat):Int)),(3,iC .i64 (X.length:Nat)),(10,iC .i64 (x.1.length:Nat))] [(1000,eS (A ++ x.2.2.1 ++ (x.2.1 ++ (B ++ (x.1 ++ (x.2.2.2 ++ Z))))))]) (fun x=>x.2.1.length) ([],X,[],Y) ⟨by simp,rfl,hxy,by simpa using hR⟩ ?_ ?_
 ·have e:A ++ [] ++ (X ++ (B ++ ([] ++ (Y ++ Z)))) = A ++ X ++ B ++ Y ++ Z:=by simp
  rw [e]
  exact ae
 ·rintro ⟨x1,x2,y1,y2⟩ ⟨h1,h2,h3,h4⟩
  simp only at h1 h2 h3 h4 ⊢
  cases x2 with
  | nil=>
   have hy2:y2 = []:=List.eq_nil_of_length_eq_zero (by simpa using h3.symm)
   subst hy2
   have hi:x1.length = X.length:=by simpa using h1
   have e:A ++ y1 ++ ([] ++ (B ++ (x1 ++ ([] ++ Z)))) = R:=by rw [← h4];simp
   rw [e,hi]
   (refine w0 ?_;repeat' first|apply ai|refine aj fun hc=>?_)
   exact qn
  | cons x x2=>
   obtain ⟨y,y2,rfl⟩:∃ y y2',y2 = y :: y2':=by
    cases y2 with
    | nil=>simp at h3
    | cons y y2=>exact ⟨y,y2,rfl⟩
   simp only [List.length_cons] at h1 h3
   obtain ⟨i,hi⟩:∃ i,x1.length = i:=⟨_,rfl⟩
   obtain ⟨a,ha⟩:∃ a,A.length = a:=⟨_,rfl⟩
   obtain ⟨b,hb⟩:∃ b,A.length + X.length + B.length = b:=⟨_,rfl⟩
   obtain ⟨q,hq⟩:∃ q,X.length = q:=⟨_,rfl⟩
   generalize hD:A ++ y1 ++ (x :: x2 ++ (B ++ (x1 ++ (y :: y2 ++ Z)))) = D
   have hlen:D.length = A.length + X.length + B.length + Y.length + Z.length:=by
    rw [← hD];simp;omega
   have HA:(D.map itP)[((a:Int) + (i:Int)).toNat]? = some (itP x):=by
    rw [List.getElem?_map,← hD,show A ++ y1 ++ (x :: x2 ++ (B ++ (x1 ++ (y :: y2 ++ Z)))) = (A ++ y1) ++ x :: (x2 ++ (B ++ (x1 ++ (y :: y2 ++ Z)))) by simp,dq _ _ _ _ (by simp;omega)];rfl
   have HB:(D.map itP)[((b:Int) + (i:Int)).toNat]? = some (itP y):=by
    rw [List.getElem?_map,← hD,show A ++ y1 ++ (x :: x2 ++ (B ++ (x1 ++ (y :: y2 ++ Z)))) = (A ++ y1 ++ x :: x2 ++ B ++ x1) ++ y :: (y2 ++ Z) by simp,dq _ _ _ _ (by simp;omega)];rfl
   have HS1:(D.map itP).set ((a:Int) + (i:Int)).toNat (cG (itP x) 0 (itP y)) = (A ++ y1 ++ y :: (x2 ++ (B ++ (x1 ++ (y :: y2 ++ Z))))).map itP:=by
    rw [show (D.map itP).set ((a:Int) + (i:Int)).toNat (cG (itP x) 0 (itP y)) = (D.set ((a:Int) + (i:Int)).toNat y).map itP from cN itP _ _ _,← hD,show A ++ y1 ++ (x :: x2 ++ (B ++ (x1 ++ (y :: y2 ++ Z)))) = (A ++ y1) ++ x :: (x2 ++ (B ++ (x1 ++ (y :: y2 ++ Z)))) by simp,gQ _ _ _ _ _ (by simp;omega)]
   generalize hD1:A ++ y1 ++ y :: (x2 ++ (B ++ (x1 ++ (y :: y2 ++ Z)))) = D1 at HS1
   have hlen1:D1.length = D.length:=by rw [hlen,← hD1];simp;omega
   have HB1:(D1.map itP)[((b:Int) + (i:Int)).toNat]? = some (itP y):=by
    rw [List.getElem?_map,← hD1,show A ++ y1 ++ y :: (x2 ++ (B ++ (x1 ++ (y :: y2 ++ Z)))) = (A ++ y1 ++ y :: x2 ++ B ++ x1) ++ y :: (y2 ++ Z) by simp,dq _ _ _ _ (by simp;omega)];rfl
   have HS2:(D1.map itP).set ((b:Int) + (i:Int)).toNat (cG (itP y) 0 (itP x)) = (A ++ (y1 ++ [y]) ++ (x2 ++ (B ++ (x1 ++ [x] ++ (y2 ++ Z))))).map itP:=by
    rw [show (D1.map itP).set ((b:Int) + (i:Int)).toNat (cG (itP y) 0 (itP x)) = (D1.set ((b:Int) + (i:Int)).toNat x).map itP from cN itP _ _ _,← hD1,show A ++ y1 ++ y :: (x2 ++ (B ++ (x1 ++ (y :: y2 ++ Z)))) = (A ++ y1 ++ y :: x2 ++ B ++ x1) ++ y :: (y2 ++ Z) by simp,gQ _ _ _ _ _ (by simp;omega)]
    simp
   rw [hi,hb,ha,hq]
   (refine w0 ?_;repeat' first|apply ai|refine aj fun hc=>?_|((first|apply aO rfl|apply aP rfl|apply aQ rfl|apply aR rfl);(focus ((try (apply b8;(focus rfl);apply ah rfl rfl rfl rfl rfl));first|((apply bn 5;(focus rfl);first|exact aB ⟨rfl,rfl,rfl⟩ rfl inferInstance inferInstance rfl rfl rfl HA rfl rfl rfl|exact aB ⟨rfl,rfl,rfl⟩ rfl inferInstance inferInstance rfl rfl rfl HB rfl rfl rfl))|((apply bn 6;(focus rfl);first|exact aX ⟨rfl,rfl⟩ rfl inferInstance rfl rfl rfl rfl HA rfl (.inl rfl) rfl HS1|exact aX ⟨rfl,rfl⟩ rfl inferInstance rfl rfl rfl rfl HB1 rfl (.inl rfl) rfl HS2))));refine w0 ?_))
   refine ⟨(x1 ++ [x],x2,y1 ++ [y],y2),⟨by simp;omega,by simp;omega,by simp only;omega,by rw [← h4];simp⟩,by simp,?_⟩
   simp only [List.length_append,List.length_cons,List.length_nil,hi]
   exact ae
end
end Go.Proofs.YtliiahjpiagdkaaGreat
namespace Go.Proofs.YtliiahjpiagdkaaGreat
open Go.RowKit
theorem jj {α:Type} (l:List α) (k:Nat) (h:k ≤ l.length):∃ x y,l = x ++ y ∧ x.length = k:=⟨l.take k,l.drop k,(List.take_append_drop k l).symm,by simp;omega⟩
section
theorem LM (A U V Z:List It) (a m b:Int) (ha:a = (A.length:Nat)) (hm:m = ((A.length + U.length:Nat):Int)) (hb:b = ((A.length + U.length + V.length:Nat):Int)) (hU:0 < U.length) (hV:0 < V.length) (hl:A.length + U.length + V.length + Z.length ≤ 1000000000) :
 de Tryz.prog 242 [.row 1000 0,iC .i64 a,iC .i64 m,iC .i64 b,l9] [(1000,eS (A ++ U ++ V ++ Z))] .any [(1000,eS (A ++ V ++ U ++ Z))]:=by
 generalize hR:A ++ V ++ U ++ Z = R
 obtain ⟨k,hk⟩:∃ k:Nat,A.length + U.length = k:=⟨_,rfl⟩
 obtain ⟨u,hu⟩:∃ u:Nat,U.length = u:=⟨_,rfl⟩
 obtain ⟨v,hv⟩:∃ v:Nat,V.length = v:=⟨_,rfl⟩
 rw [hk] at hm hb
 have ea:m - a = (u:Nat):=by omega
 have eb:b - m = (v:Nat):=by omega
 subst hm
 refine eR Tryz.func242 Tryz.ntmps242 ?_
 (refine rS ea eb ?_;repeat' first|apply ai|refine aj fun hc=>?_)
 refine an (X:=List It × List It × List It × List It) (fun x=>x.1.length + x.2.1.length = k ∧ 0 < x.2.1.length ∧ 0 < x.2.2.1.length ∧ x.1.length + x.2.1.length + x.2.2.1.length + x.2.2.2.length ≤ 1000000000 ∧ x.1 ++ x.2.2.1 ++ x.2.1 ++ x.2.2.2 = R)
  (fun x=>ba [(0,.row 1000 0),(2,iC .i64 (k:Nat)),(4,l9),(10,iC .i64 (x.2.1.length:Nat)),(11,iC .i64 (x.2.2.1.length:Nat))] [(1000,eS (x.1 ++ x.2.1 ++ x.2.2.1 ++ x.2.2.2))]) (fun x=>x.2.1.length + x.2.2.1.length) (A,U,V,Z) ⟨by simp only;omega,hU,hV,hl,hR⟩ ?_ ?_
 ·rw [hu,hv]
  exact ae
 ·rintro ⟨A,U,V,Z⟩ ⟨h1,h2,h3,h4,h5⟩
  simp only at h1 h2 h3 h4 h5 ⊢
  clear hR hu hv ea eb hk ha hb hl hU hV
  obtain ⟨i,hi⟩:∃ i:Nat,U.length = i:=⟨_,rfl⟩
  obtain ⟨j,hj⟩:∃ j:Nat,V.length = j:=⟨_,rfl⟩
  rcases Nat.lt_trichotomy i j with hij|hij|hij
  ·obtain ⟨B,Y,rfl,hB⟩:=jj V (j - i) (by omega)
   have hy:Y.length = i:=by simp at hj;omega
   have h:=sA A U B Y Z ((k:Int) - (i:Int)) ((k:Int) + (j:Int) - (i:Int)) (i:Int) (by omega) (by omega) (by omega) (by omega) (by simp at h4;omega)
   rw [show A ++ U ++ (B ++ Y) ++ Z = A ++ U ++ B ++ Y ++ Z by simp,hi,hj]
   (refine fB (mN h) ?_;repeat' first|apply ai|refine aj fun hc=>?_)
   have hji:((B.length:Nat):Int) = (j:Int) - (i:Int):=by omega
   refine ⟨(A,Y,B,U ++ Z),⟨by simp only;omega,by simp only;omega,by simp only;omega,by simp at h4 ⊢;omega,by rw [← h5];simp⟩,by simp only;omega,?_⟩
   have e:A ++ Y ++ B ++ (U ++ Z) = A ++ Y ++ B ++ U ++ Z:=by simp
   simp only [e,hy,hji]
   exact ae
  ·subst hij
   have h:=sA A U [] V Z ((k:Int) - (i:Int)) (k:Int) (i:Int) (by omega) (by simp;omega) (by omega) (by omega) (by simp;omega)
   rw [List.append_nil,List.append_nil,h5] at h
   rw [hi,hj]
   (refine fB (mN h) ?_;repeat' first|apply ai|refine aj fun hc=>?_)
   exact qn
  ·obtain ⟨X,B,rfl,hX⟩:=jj U j (by omega)
   have hB:B.length = i - j:=by simp at hi;omega
   have h:=sA A X B V Z ((k:Int) - (i:Int)) (k:Int) (j:Int) (by simp at h1 hi;omega) (by simp at h1;omega) (by omega) (by omega) (by simp at h4;omega)
   rw [show A ++ (X ++ B) ++ V ++ Z = A ++ X ++ B ++ V ++ Z by simp,hi,hj]
   (refine fB (mN h) ?_;repeat' first|apply ai|refine aj fun hc=>?_)
   have hji:((B.length:Nat):Int) = (i:Int) - (j:Int):=by omega
   refine ⟨(A ++ V,B,X,Z),⟨by simp at h1 ⊢;omega,by simp only;omega,by simp only;omega,by simp at h4 ⊢;omega,by rw [← h5];simp⟩,by simp only;omega,?_⟩
   simp only [hX,hji]
   exact ae
end
end Go.Proofs.YtliiahjpiagdkaaGreat
namespace Go.Proofs.YtliiahjpiagdkaaGreat
open Go.RowKit
abbrev qI (a m b:Int) (D D':List It):Prop:=de Tryz.prog 210 [.row 1000 0,iC .i64 a,iC .i64 m,iC .i64 b,l9] [(1000,eS D)] .any [(1000,eS D')]
theorem fj {x y:It}:ltK x y = true ↔ bu x.key y.key < 0:=by unfold ltK;exact decide_eq_true_iff
theorem yN {x y:It}:ltK x y = false ↔ ¬ bu x.key y.key < 0:=by unfold ltK;exact decide_eq_false_iff_not
theorem oY {α:Type} {l:List α} {x:α} (h:l.getLast? = some x):∃ l',l = l' ++ [x]:=by
 rcases List.eq_nil_or_concat l with e|⟨l',y,e⟩
 ·subst e;cases h
 ·rw [List.concat_eq_append] at e
  subst e;simp at h;subst h;exact ⟨l',rfl⟩
theorem rb {α:Type} {l:List α} {x:α} (h:l.head? = some x):∃ l',l = x :: l':=by
 cases l with
 | nil=>cases h
 | cons y l=>simp at h;subst h;exact ⟨l,rfl⟩
section
theorem LN (A:List It) (x:It) (R Z:List It) (a m b:Int) (ha:a = (A.length:Nat)) (hm:m = ((A.length + 1:Nat):Int)) (hb:b = ((A.length + 1 + R.length:Nat):Int)) (hR:lS ltK R) (hkx:x.key.size ≤ 1000000000) (hkR:lm R) (hl:A.length + 1 + R.length + Z.length ≤ 1000000000) :
 qI a m b (A ++ [x] ++ R ++ Z) (A ++ d8 ([x] ++ R) ++ Z):=by
 obtain ⟨ka,hka⟩:∃ k:Nat,A.length = k:=⟨_,rfl⟩
 obtain ⟨kb,hkb⟩:∃ k:Nat,ka + 1 + R.length = k:=⟨_,rfl⟩
 rw [hka] at ha hm hb
 rw [hkb] at hb
 subst ha hm hb
 obtain ⟨Q,hQ⟩:∃ Q,Q = A ++ d8 ([x] ++ R) ++ Z:=⟨_,rfl⟩
 have hfin:∀ R1 R2,R = R1 ++ R2 → (∀ y,R1.getLast? = some y → ltK y x = true) → (∀ y,R2.head? = some y → ltK y x = false) → Q = A ++ R1 ++ x :: (R2 ++ Z):=by
  rintro R1 R2 rfl h1 h2
  have hs:=List.pairwise_append.1 hR
  have hc:=lV dA (L1:=[]) (L2:=[x]) (R1:=R1) (R2:=R2) (List.pairwise_singleton _ _) hR (fun _ _ h=>by cases h) (fun u v hu hv=>by simp at hv;subst hv;exact h1 u hu)
  have e2:fE ltK ([x] ++ R2) = [x] ++ R2:=oS dA (List.pairwise_cons.2 ⟨fun y hy=>by
   cases R2 with
   | nil=>simp at hy
   | cons z R2=>
    have h0:=h2 z rfl
    rcases List.mem_cons.1 hy with e|e
    ·subst e;exact h0
    ·exact dA.ntr y z x ((List.pairwise_cons.1 hs.2.1).1 y e) h0,hs.2.1⟩)
  rw [hQ,nQ,show [x] ++ (R1 ++ R2) = ([] ++ [x]) ++ (R1 ++ R2) by simp,hc,e2,show fE ltK ([] ++ R1) = R1 from oS dA hs.1]
  simp
 rw [← hQ]
 unfold qI
 generalize hD:A ++ [x] ++ R ++ Z = D
 have hDl:D.length = kb + Z.length:=by rw [← hD];simp;omega
 have hkD:∀ i (h:i < D.length),ka ≤ i → i < kb → (D[i]'h).key.size ≤ 1000000000:=by
  intro i h h1 h2
  have:D[i]'h ∈ [x] ++ R:=by
   have e:D[i]? = (([x] ++ R) ++ Z)[i - ka]?:=by rw [← hD,show A ++ [x] ++ R ++ Z = A ++ ([x] ++ R ++ Z) by simp,List.getElem?_append_right (by omega),hka]
   rw [List.getElem?_append_left (by simp;omega),List.getElem?_eq_getElem h] at e
   exact List.mem_of_getElem? e.symm
  rcases List.mem_append.1 this with q|q
  ·simp at q;rw [q];exact hkx
  ·exact hkR _ q
 have HX:D[ka]? = some x:=by rw [← hD,show A ++ [x] ++ R ++ Z = A ++ x :: (R ++ Z) by simp,dq _ _ _ _ hka.symm]
 have HXm:(D.map itP)[ka]? = some (itP x):=by rw [List.getElem?_map,HX];rfl
 refine eR Tryz.func210 Tryz.ntmps210 ?_
 (refine w0 ?_;repeat' first|apply ai|refine aj fun hc=>?_)
 refine an (X:=Nat × Nat) (fun y=>ka + 1 ≤ y.1 ∧ y.1 ≤ y.2 ∧ y.2 ≤ kb ∧ (∀ z,ka + 1 < y.1 → D[y.1 - 1]? = some z → ltK z x = true) ∧ (∀ z,y.2 < kb → D[y.2]? = some z → ltK z x = false))
  (fun y=>ba [(0,.row 1000 0),(1,iC .i64 (ka:Nat)),(4,l9),(10,iC .i64 (y.1:Nat)),(11,iC .i64 (y.2:Nat))] [(1000,eS D)]) (fun y=>y.2 - y.1) (ka + 1,kb) ⟨Nat.le_refl _,by simp only;omega,Nat.le_refl _,fun z h=>by simp at h,fun z h=>by simp at h⟩ ?_ ?_
 ·exact ae
 ·rintro ⟨i,j⟩ ⟨h1,h2,h3,h4,h5⟩
  simp only at h1 h2 h3 h4 h5 ⊢
  by_cases hij:i < j
  ·obtain ⟨h,hh⟩:∃ h:Nat,((i:Int) + (j:Int)) / 2 = (h:Nat):=⟨(i + j) / 2,by omega⟩
   have hih:i ≤ h:=by omega
   have hhj:h < j:=by omega
   have hlt:h < D.length:=by omega
   have hmm:=oX D[h] x (hkD h hlt (by omega) (by omega))
   have HJ:(D.map itP)[h]? = some (itP D[h]):=by rw [List.getElem?_map,List.getElem?_eq_getElem hlt];rfl
   (refine lP hh ?_;repeat' first|apply ai|refine aj fun hc=>?_|((first|apply aO rfl|apply aP rfl|apply aQ rfl|apply aR rfl);(focus ((try (apply b8;(focus rfl);apply ah rfl rfl rfl rfl rfl));first|((apply bn 5;(focus rfl);exact aB ⟨rfl,rfl,rfl⟩ rfl inferInstance inferInstance rfl rfl rfl HJ rfl rfl rfl))|((apply bn 5;(focus rfl);exact aB ⟨rfl,rfl,rfl⟩ rfl inferInstance inferInstance rfl rfl rfl HXm rfl rfl rfl))|(exact Iy [] hmm)));refine lP hh ?_))
   ·refine ⟨(h + 1,j),⟨by simp only;omega,by simp only;omega,h3,fun z _ hz=>?_,h5⟩,by simp only;omega,?_⟩
    ·simp only [Nat.add_sub_cancel] at hz
     rw [List.getElem?_eq_getElem hlt] at hz;cases hz
     rw [fj];assumption
    ·exact ae
   ·refine ⟨(i,h),⟨h1,hih,by simp only;omega,h4,fun z _ hz=>?_⟩,by simp only;omega,?_⟩
    ·simp only at hz
     rw [List.getElem?_eq_getElem hlt] at hz;cases hz
     rw [yN];assumption
    ·exact ae
  ·have hij':j = i:=by omega
   subst hij'
   obtain ⟨R1,R2,rfl,hR1⟩:=jj R (j - (ka + 1)) (by omega)
   have hq:=hfin R1 R2 rfl (fun y hy=>?_) (fun y hy=>?_)
   ·have hD':A ++ [x] ++ R1 ++ (R2 ++ Z) = D:=by rw [← hD];simp
    clear h4 h5 hfin hR hkR HX HXm hkD
    subst hq
    (refine w0 ?_;repeat' first|apply ai|refine aj fun hc=>?_)
    refine an (X:=List It × List It) (fun y=>y.1 ++ y.2 = R1)
     (fun y=>ba [(0,.row 1000 0),(10,iC .i64 (j:Nat)),(13,iC .i64 ((ka + y.1.length:Nat):Int))] [(1000,eS (A ++ y.1 ++ x :: (y.2 ++ (R2 ++ Z))))]) (fun y=>y.2.length) ([],R1) rfl ?_ ?_
    ·rw [← hD']
     have e:A ++ [x] ++ R1 ++ (R2 ++ Z) = A ++ [] ++ x :: (R1 ++ (R2 ++ Z)):=by simp
     rw [e]
     exact ae
    ·rintro ⟨p,q⟩ hpq
     simp only at hpq ⊢
     obtain ⟨k,hk⟩:∃ k,ka + p.length = k:=⟨_,rfl⟩
     have hln:p.length + q.length = R1.length:=by rw [← hpq];simp
     rw [hk]
     cases q with
     | nil=>
      have hp:p = R1:=by simpa using hpq
      subst hp
      simp at hln
      (refine w0 ?_;repeat' first|apply ai|refine aj fun hc=>?_)
      exact qn
     | cons y q=>
      simp at hln
      generalize hE:A ++ p ++ x :: (y :: q ++ (R2 ++ Z)) = E
      have hEl:k + 1 < E.length:=by rw [← hE];simp;omega
      have H0:(E.map itP)[k]? = some (itP x):=by
       rw [List.getElem?_map,← hE,dq _ _ _ _ (by simp;omega)];rfl
      have H1:(E.map itP)[k + 1]? = some (itP y):=by
       rw [List.getElem?_map,← hE,show A ++ p ++ x :: (y :: q ++ (R2 ++ Z)) = (A ++ p ++ [x]) ++ y :: (q ++ (R2 ++ Z)) by simp,dq _ _ _ _ (by simp;omega)];rfl
      have S0:(E.map itP).set k (cG (itP x) 0 (itP y)) = (A ++ p ++ y :: (y :: q ++ (R2 ++ Z))).map itP:=by
       rw [show (E.map itP).set k (cG (itP x) 0 (itP y)) = (E.set k y).map itP from cN itP _ _ _,← hE,gQ _ _ _ _ _ (by simp;omega)]
      generalize hE1:A ++ p ++ y :: (y :: q ++ (R2 ++ Z)) = E1 at S0
      have hEl1:k + 1 < E1.length:=by rw [← hE1];simp;omega
      have H2:(E1.map itP)[k + 1]? = some (itP y):=by
       rw [List.getElem?_map,← hE1,show A ++ p ++ y :: (y :: q ++ (R2 ++ Z)) = (A ++ p ++ [y]) ++ y :: (q ++ (R2 ++ Z)) by simp,dq _ _ _ _ (by simp;omega)];rfl
      have S1:(E1.map itP).set (k + 1) (cG (itP y) 0 (itP x)) = (A ++ (p ++ [y]) ++ x :: (q ++ (R2 ++ Z))).map itP:=by
       rw [show (E1.map itP).set (k + 1) (cG (itP y) 0 (itP x)) = (E1.set (k + 1) x).map itP from cN itP _ _ _,← hE1,show A ++ p ++ y :: (y :: q ++ (R2 ++ Z)) = (A ++ p ++ [y]) ++ y :: (q ++ (R2 ++ Z)) by simp,gQ _ _ _ _ _ (by simp;omega)]
       simp
      (refine w0 ?_;repeat' first|apply ai|refine aj fun hc=>?_|((first|apply aO rfl|apply aP rfl|apply aQ rfl|apply aR rfl);(focus ((try (apply b8;(focus rfl);apply ah rfl rfl rfl rfl rfl));first|((apply bn 5;(focus rfl);exact aB ⟨rfl,rfl,rfl⟩ rfl inferInstance inferInstance rfl rfl rfl H0 rfl rfl rfl))|((apply bn 5;(focus rfl);exact aB ⟨rfl,rfl,rfl⟩ rfl inferInstance inferInstance rfl rfl rfl H1 rfl rfl rfl))|((apply bn 6;(focus rfl);exact aX ⟨rfl,rfl⟩ rfl inferInstance rfl rfl rfl rfl H0 rfl (.inl rfl) rfl S0))|((apply bn 6;(focus rfl);exact aX ⟨rfl,rfl⟩ rfl inferInstance rfl rfl rfl rfl H2 rfl (.inl rfl) rfl S1))));refine w0 ?_))
      refine ⟨(p ++ [y],q),by simpa using hpq,by simp,?_⟩
      have ek:((ka + (p ++ [y]).length:Nat):Int) = (k:Int) + 1:=by simp;omega
      simp only [ek]
      exact ae
   ·obtain ⟨R1',rfl⟩:=oY hy
    simp at hR1
    refine h4 y (by omega) ?_
    rw [← hD,show A ++ [x] ++ (R1' ++ [y] ++ R2) ++ Z = (A ++ [x] ++ R1') ++ y :: (R2 ++ Z) by simp,dq _ _ _ _ (by simp;omega)]
   ·obtain ⟨R2',rfl⟩:=rb hy
    simp at hkb
    refine h5 y (by omega) ?_
    rw [← hD,show A ++ [x] ++ (R1 ++ y :: R2') ++ Z = (A ++ [x] ++ R1) ++ y :: (R2' ++ Z) by simp,dq _ _ _ _ (by simp;omega)]
end
end Go.Proofs.YtliiahjpiagdkaaGreat
namespace Go.Proofs.YtliiahjpiagdkaaGreat
open Go.RowKit
section
theorem IB (A L:List It) (y:It) (Z:List It) (a m b:Int) (ha:a = (A.length:Nat)) (hm:m = ((A.length + L.length:Nat):Int)) (hb:b = ((A.length + L.length + 1:Nat):Int)) (h1L:L.length ≠ 1) (hL:lS ltK L) (hky:y.key.size ≤ 1000000000) (hl:A.length + L.length + 1 + Z.length ≤ 1000000000) :
 qI a m b (A ++ L ++ [y] ++ Z) (A ++ d8 (L ++ [y]) ++ Z):=by
 obtain ⟨ka,hka⟩:∃ k:Nat,A.length = k:=⟨_,rfl⟩
 obtain ⟨km,hkm⟩:∃ k:Nat,ka + L.length = k:=⟨_,rfl⟩
 rw [hka] at ha hm hb
 rw [hkm] at hm hb
 subst ha hm hb
 obtain ⟨Q,hQ⟩:∃ Q,Q = A ++ d8 (L ++ [y]) ++ Z:=⟨_,rfl⟩
 have hfin:∀ L1 L2,L = L1 ++ L2 → (∀ x,L1.getLast? = some x → ltK y x = false) → (∀ x,L2.head? = some x → ltK y x = true) → Q = A ++ L1 ++ y :: (L2 ++ Z):=by
  rintro L1 L2 rfl h1 h2
  have hs:=List.pairwise_append.1 hL
  have hc:=lV dA (L1:=L1) (L2:=L2) (R1:=[y]) (R2:=[]) hL (List.pairwise_singleton _ _) (fun _ _ _ h=>by cases h) (fun u v hu hv=>by simp at hu;subst hu;exact h2 v hv)
  have e2:fE ltK (L1 ++ [y]) = L1 ++ [y]:=oS dA (List.pairwise_append.2 ⟨hs.1,List.pairwise_singleton _ _,fun a ha b hb=>by
   simp at hb;subst hb
   obtain ⟨z,hz⟩:∃ z,L1.getLast? = some z:=by
    cases hg:L1.getLast? with
    | some z=>exact ⟨z,rfl⟩
    | none=>rw [List.getLast?_eq_none_iff] at hg;subst hg;simp at ha
   have h0:=h1 z hz
   obtain ⟨l',rfl⟩:=oY hz
   rcases List.mem_append.1 ha with e|e
   ·exact dA.ntr b z a h0 ((List.pairwise_append.1 hs.1).2.2 a e z (by simp))
   ·simp at e;subst e;exact h0⟩)
  rw [hQ,nQ,show (L1 ++ L2) ++ [y] = (L1 ++ L2) ++ ([y] ++ []) by simp,hc,e2,show fE ltK (L2 ++ []) = L2 by rw [List.append_nil];exact oS dA hs.2.1]
  simp
 rw [← hQ]
 unfold qI
 generalize hD:A ++ L ++ [y] ++ Z = D
 have hDl:D.length = km + 1 + Z.length:=by rw [← hD];simp;omega
 have HY:D[km]? = some y:=by rw [← hD,show A ++ L ++ [y] ++ Z = (A ++ L) ++ y :: Z by simp,dq _ _ _ _ (by simp;omega)]
 have HYm:(D.map itP)[km]? = some (itP y):=by rw [List.getElem?_map,HY];rfl
 refine eR Tryz.func210 Tryz.ntmps210 ?_
 (refine w0 ?_;repeat' first|apply ai|refine aj fun hc=>?_)
 refine an (X:=Nat × Nat) (fun z=>ka ≤ z.1 ∧ z.1 ≤ z.2 ∧ z.2 ≤ km ∧ (∀ x,ka < z.1 → D[z.1 - 1]? = some x → ltK y x = false) ∧ (∀ x,z.2 < km → D[z.2]? = some x → ltK y x = true))
  (fun z=>ba [(0,.row 1000 0),(2,iC .i64 (km:Nat)),(4,l9),(14,iC .i64 (z.1:Nat)),(15,iC .i64 (z.2:Nat))] [(1000,eS D)]) (fun y=>y.2 - y.1) (ka,km) ⟨Nat.le_refl _,by simp only;omega,Nat.le_refl _,fun z h=>by simp at h,fun z h=>by simp at h⟩ ?_ ?_
 ·exact ae
 ·rintro ⟨i,j⟩ ⟨h1,h2,h3,h4,h5⟩
  simp only at h1 h2 h3 h4 h5 ⊢
  by_cases hij:i < j
  ·obtain ⟨h,hh⟩:∃ h:Nat,((i:Int) + (j:Int)) / 2 = (h:Nat):=⟨(i + j) / 2,by omega⟩
   have hih:i ≤ h:=by omega
   have hhj:h < j:=by omega
   have hlt:h < D.length:=by omega
   have hmm:=oX y D[h] hky
   have HJ:(D.map itP)[h]? = some (itP D[h]):=by rw [List.getElem?_map,List.getElem?_eq_getElem hlt];rfl
   (refine lP hh ?_;repeat' first|apply ai|refine aj fun hc=>?_|((first|apply aO rfl|apply aP rfl|apply aQ rfl|apply aR rfl);(focus ((try (apply b8;(focus rfl);apply ah rfl rfl rfl rfl rfl));first|((apply bn 5;(focus rfl);exact aB ⟨rfl,rfl,rfl⟩ rfl inferInstance inferInstance rfl rfl rfl HJ rfl rfl rfl))|((apply bn 5;(focus rfl);exact aB ⟨rfl,rfl,rfl⟩ rfl inferInstance inferInstance rfl rfl rfl HYm rfl rfl rfl))|(exact Iy [] hmm)));refine lP hh ?_))
   ·refine ⟨(h + 1,j),⟨by simp only;omega,by simp only;omega,h3,fun z _ hz=>?_,h5⟩,by simp only;omega,?_⟩
    ·simp only [Nat.add_sub_cancel] at hz
     rw [List.getElem?_eq_getElem hlt] at hz;cases hz
     rw [yN];assumption
    ·exact ae
   ·refine ⟨(i,h),⟨h1,hih,by simp only;omega,h4,fun z _ hz=>?_⟩,by simp only;omega,?_⟩
    ·simp only at hz
     rw [List.getElem?_eq_getElem hlt] at hz;cases hz
     rw [fj];assumption
    ·exact ae
  ·have hij':j = i:=by omega
   subst hij'
   obtain ⟨L1,L2,rfl,hL1⟩:=jj L (j - ka) (by omega)
   have hq:=hfin L1 L2 rfl (fun x hx=>?_) (fun x hx=>?_)
   ·have hD':A ++ L1 ++ L2 ++ y :: Z = D:=by rw [← hD];simp
    have hlen:L1.length + L2.length = km - ka:=by simp at hkm;omega
    clear h4 h5 hfin hL HY HYm h1L
    subst hq
    (refine w0 ?_;repeat' first|apply ai|refine aj fun hc=>?_)
    refine an (X:=List It × List It) (fun z=>z.1 ++ z.2 = L2)
     (fun z=>ba [(0,.row 1000 0),(14,iC .i64 (j:Nat)),(17,iC .i64 ((j + z.1.length:Nat):Int))] [(1000,eS (A ++ L1 ++ z.1 ++ y :: (z.2 ++ Z)))]) (fun z=>z.1.length) (L2,[]) (by simp) ?_ ?_
    ·rw [← hD']
     have e:((j + L2.length:Nat):Int) = (km:Int):=by omega
     simp only [e,List.nil_append]
     exact ae
    ·rintro ⟨p,q⟩ hpq
     simp only at hpq ⊢
     have hln:p.length + q.length = L2.length:=by rw [← hpq];simp
     rcases dU p with rfl|⟨p,x,rfl⟩
     ·have hp:q = L2:=by simpa using hpq
      subst hp
      have e:((j + ([]:List It).length:Nat):Int) = (j:Int):=by simp
      have e2:A ++ L1 ++ [] ++ y :: (q ++ Z) = A ++ L1 ++ y :: (q ++ Z):=by simp
      rw [e,e2]
      (refine w0 ?_;repeat' first|apply ai|refine aj fun hc=>?_)
      exact qn
     ·simp at hln
      obtain ⟨k,hk⟩:∃ k,j + p.length = k:=⟨_,rfl⟩
      have e:((j + (p ++ [x]).length:Nat):Int) = ((k + 1:Nat):Int):=by simp;omega
      rw [e]
      generalize hE:A ++ L1 ++ (p ++ [x]) ++ y :: (q ++ Z) = E
      have hEl:k + 1 < E.length:=by rw [← hE];simp;omega
      have H0:(E.map itP)[k]? = some (itP x):=by
       rw [List.getElem?_map,← hE,show A ++ L1 ++ (p ++ [x]) ++ y :: (q ++ Z) = (A ++ L1 ++ p) ++ x :: (y :: (q ++ Z)) by simp,dq _ _ _ _ (by simp;omega)];rfl
      have H1:(E.map itP)[k + 1]? = some (itP y):=by
       rw [List.getElem?_map,← hE,dq _ _ _ _ (by simp;omega)];rfl
      have S1:(E.map itP).set (k + 1) (cG (itP y) 0 (itP x)) = (A ++ L1 ++ (p ++ [x]) ++ x :: (q ++ Z)).map itP:=by
       rw [show (E.map itP).set (k + 1) (cG (itP y) 0 (itP x)) = (E.set (k + 1) x).map itP from cN itP _ _ _,← hE,gQ _ _ _ _ _ (by simp;omega)]
      generalize hE1:A ++ L1 ++ (p ++ [x]) ++ x :: (q ++ Z) = E1 at S1
      have hEl1:k + 1 < E1.length:=by rw [← hE1];simp;omega
      have H2:(E1.map itP)[k]? = some (itP x):=by
       rw [List.getElem?_map,← hE1,show A ++ L1 ++ (p ++ [x]) ++ x :: (q ++ Z) = (A ++ L1 ++ p) ++ x :: (x :: (q ++ Z)) by simp,dq _ _ _ _ (by simp;omega)];rfl
      have S2:(E1.map itP).set k (cG (itP x) 0 (itP y)) = (A ++ L1 ++ p ++ y :: ((x :: q) ++ Z)).map itP:=by
       rw [show (E1.map itP).set k (cG (itP x) 0 (itP y)) = (E1.set k y).map itP from cN itP _ _ _,← hE1,show A ++ L1 ++ (p ++ [x]) ++ x :: (q ++ Z) = (A ++ L1 ++ p) ++ x :: (x :: (q ++ Z)) by simp,gQ _ _ _ _ _ (by simp;omega)]
       simp
      (refine w0 ?_;repeat' first|apply ai|refine aj fun hc=>?_|((first|apply aO rfl|apply aP rfl|apply aQ rfl|apply aR rfl);(focus ((try (apply b8;(focus rfl);apply ah rfl rfl rfl rfl rfl));first|((apply bn 5;(focus rfl);exact aB ⟨rfl,rfl,rfl⟩ rfl inferInstance inferInstance rfl rfl rfl H0 rfl rfl rfl))|((apply bn 5;(focus rfl);exact aB ⟨rfl,rfl,rfl⟩ rfl inferInstance inferInstance rfl rfl rfl H1 rfl rfl rfl))|((apply bn 6;(focus rfl);exact aX ⟨rfl,rfl⟩ rfl inferInstance rfl rfl rfl rfl H1 rfl (.inl rfl) rfl S1))|((apply bn 6;(focus rfl);exact aX ⟨rfl,rfl⟩ rfl inferInstance rfl rfl rfl rfl H2 rfl (.inl rfl) rfl S2))));refine w0 ?_))
      refine ⟨(p,x :: q),by simpa using hpq,by simp,?_⟩
      simp only [hk]
      exact ae
   ·obtain ⟨L1',rfl⟩:=oY hx
    simp at hL1
    refine h4 x (by omega) ?_
    rw [← hD,show A ++ (L1' ++ [x] ++ L2) ++ [y] ++ Z = (A ++ L1') ++ x :: (L2 ++ [y] ++ Z) by simp,dq _ _ _ _ (by simp;omega)]
   ·obtain ⟨L2',rfl⟩:=rb hx
    simp at hkm
    refine h5 x (by omega) ?_
    rw [← hD,show A ++ (L1 ++ x :: L2') ++ [y] ++ Z = (A ++ L1) ++ x :: (L2' ++ [y] ++ Z) by simp,dq _ _ _ _ (by simp;omega)]
end
end Go.Proofs.YtliiahjpiagdkaaGreat
namespace Go.Proofs.YtliiahjpiagdkaaGreat
open Go.RowKit
abbrev Pd (a m b:Int) (D D':List It):Prop:=de Tryz.prog 242 [.row 1000 0,iC .i64 a,iC .i64 m,iC .i64 b,l9] [(1000,eS D)] .any [(1000,eS D')]
section
structure wc (ka km kb mid st e:Nat) (D Q:List It):Prop where
 h:∃ D2 D3,((st < km ∧ km < e ∧ Pd (st:Nat) (km:Nat) (e:Nat) D D2) ∨ (¬ (st < km ∧ km < e) ∧ D2 = D)) ∧ ((ka < st ∧ st < mid ∧ qI (ka:Nat) (st:Nat) (mid:Nat) D2 D3) ∨ (¬ (ka < st ∧ st < mid) ∧ D3 = D2)) ∧ ((mid < e ∧ e < kb ∧ qI (mid:Nat) (e:Nat) (kb:Nat) D3 Q) ∨ (¬ (mid < e ∧ e < kb) ∧ Q = D3))
theorem Ew (D:List It) (ka km kb mid n p:Nat) (hDk:kb ≤ D.length) (hl:kb ≤ 1000000000) (hkD:∀ i (h:i < D.length),ka ≤ i → i < kb → (D[i]'h).key.size ≤ 1000000000) (hn:mid + km = n) (hp:n = p + 1) (Q:List It)
 (hfin':∀ i:Nat,ka ≤ i → i ≤ km → i ≤ mid → n - i ≤ kb → (∀ x y,ka < i → n - i < kb → D[i - 1]? = some x → D[n - i]? = some y → ltK y x = false) → (∀ x y,i < km → km < n - i → D[n - i - 1]? = some x → D[i]? = some y → ltK x y = true) → wc ka km kb mid i (n - i) D Q)
 (hmidE:((ka:Int) + (kb:Int)) / 2 = (mid:Nat)) (hnE:(mid:Int) + (km:Int) = (n:Nat)) (hpE:(n:Int) - 1 = (p:Nat)) (hm1:ka + 2 ≤ km) (hm2:km + 2 ≤ kb) (_hm3:ka + kb < 2 * mid + 2) (_hm4:2 * mid ≤ ka + kb) (hmk:mid < km) :
 qI (ka:Nat) (km:Nat) (kb:Nat) D Q:=by
 unfold qI
 refine eR Tryz.func210 Tryz.ntmps210 ?_
 obtain ⟨s0,hs⟩:∃ s0:Nat,n = s0 + kb:=⟨n - kb,by omega⟩
 have hs3:(n:Int) - (kb:Int) = (s0:Nat):=by omega
 (refine D9 hnE hpE hs3 hmidE ?_;repeat' first|apply ai|refine aj fun hc=>?_)
 refine an (X:=Nat × Nat) (fun z=>s0 ≤ z.1 ∧ z.1 ≤ z.2 ∧ z.2 ≤ mid ∧ (∀ x y,s0 < z.1 → D[z.1 - 1]? = some x → D[n - z.1]? = some y → ltK y x = false) ∧ (∀ x y,z.2 < mid → D[n - z.2 - 1]? = some x → D[z.2]? = some y → ltK x y = true))
  (fun z=>ba [(0,.row 1000 0),(1,iC .i64 (ka:Nat)),(2,iC .i64 (km:Nat)),(3,iC .i64 (kb:Nat)),(4,l9),(18,iC .i64 (mid:Nat)),(19,iC .i64 (n:Nat)),(20,iC .i64 (z.1:Nat)),(21,iC .i64 (z.2:Nat)),(22,iC .i64 (p:Nat))] [(1000,eS D)]) (fun y=>y.2 - y.1) (s0,mid) ⟨Nat.le_refl _,by simp only;omega,Nat.le_refl _,fun x y h=>by simp at h,fun x y h=>by simp at h⟩ ?_ ?_
 ·exact ae
 ·rintro ⟨i,j⟩ ⟨h1,h2,h3,h4,h5⟩
  simp only at h1 h2 h3 h4 h5 ⊢
  by_cases hij:i < j
  ·obtain ⟨h,hh⟩:∃ h:Nat,((i:Int) + (j:Int)) / 2 = (h:Nat):=⟨(i + j) / 2,by omega⟩
   have hih:i ≤ h:=by omega
   have hhj:h < j:=by omega
   have hlt:h < D.length:=by omega
   obtain ⟨q,hq⟩:∃ q:Nat,p = q + h:=⟨p - h,by omega⟩
   have hqE:(p:Int) - (h:Int) = (q:Nat):=by omega
   have hlq:q < D.length:=by omega
   have hmm:=oX D[q] D[h] (hkD q hlq (by omega) (by omega))
   have HJ:(D.map itP)[h]? = some (itP D[h]):=by rw [List.getElem?_map,List.getElem?_eq_getElem hlt];rfl
   have HQ:(D.map itP)[q]? = some (itP D[q]):=by rw [List.getElem?_map,List.getElem?_eq_getElem hlq];rfl
   (refine mP hqE hh ?_;repeat' first|apply ai|refine aj fun hc=>?_|((first|apply aO rfl|apply aP rfl|apply aQ rfl|apply aR rfl);(focus ((try (apply b8;(focus rfl);apply ah rfl rfl rfl rfl rfl));first|((apply bn 5;(focus rfl);exact aB ⟨rfl,rfl,rfl⟩ rfl inferInstance inferInstance rfl rfl rfl HJ rfl rfl rfl))|((apply bn 5;(focus rfl);exact aB ⟨rfl,rfl,rfl⟩ rfl inferInstance inferInstance rfl rfl rfl HQ rfl rfl rfl))|(exact Iy [] hmm)));refine mP hqE hh ?_))
   ·refine ⟨(h + 1,j),⟨by simp only;omega,by simp only;omega,h3,fun x y _ hx hy=>?_,h5⟩,by simp only;omega,?_⟩
    ·simp only [Nat.add_sub_cancel] at hx
     rw [List.getElem?_eq_getElem hlt] at hx;cases hx
     rw [show n - (h + 1) = q by omega,List.getElem?_eq_getElem hlq] at hy;cases hy
     rw [yN];assumption
    ·exact ae
   ·refine ⟨(i,h),⟨h1,hih,by simp only;omega,h4,fun x y _ hx hy=>?_⟩,by simp only;omega,?_⟩
    ·simp only at hx hy
     rw [List.getElem?_eq_getElem hlt] at hy;cases hy
     rw [show n - h - 1 = q by omega,List.getElem?_eq_getElem hlq] at hx;cases hx
     rw [fj];assumption
    ·exact ae
  ·have hij':j = i:=by omega
   subst hij'
   obtain ⟨D2,D3,e1,e2,e3⟩:=(hfin' j (by omega) (by omega) (by omega) (by omega) (fun x y g1 g2 g3 g4=>h4 x y (by omega) g3 g4) (fun x y g1 g2 g3 g4=>h5 x y (by omega) g3 g4)).h
   obtain ⟨e,he⟩:∃ e:Nat,n = e + j:=⟨n - j,by omega⟩
   have heE:(n:Int) - (j:Int) = (e:Nat):=by omega
   rw [show n - j = e by omega] at e1 e3
   clear h4 h5 hfin' hkD
   rcases e1 with ⟨a1,a2,f1⟩|⟨a1,rfl⟩ <;> rcases e2 with ⟨b1,b2,f2⟩|⟨b1,rfl⟩ <;> rcases e3 with ⟨c1,c2,f3⟩|⟨c1,rfl⟩
   ·(refine uv heE (mN f1) (mN f2) (mN f3) ?_;repeat' first|apply ai|refine aj fun hc=>?_)
    exact qn
   ·(refine i6 heE (mN f1) (mN f2) ?_;repeat' first|apply ai|refine aj fun hc=>?_)
    all_goals first|(exfalso;omega)|skip
    all_goals exact qn
   ·(refine i6 heE (mN f1) (mN f3) ?_;repeat' first|apply ai|refine aj fun hc=>?_)
    all_goals first|(exfalso;omega)|skip
    all_goals exact qn
   ·(refine ga heE (mN f1) ?_;repeat' first|apply ai|refine aj fun hc=>?_)
    all_goals first|(exfalso;omega)|skip
    all_goals exact qn
   ·(refine i6 heE (mN f2) (mN f3) ?_;repeat' first|apply ai|refine aj fun hc=>?_)
    all_goals first|(exfalso;omega)|skip
    all_goals exact qn
   ·(refine ga heE (mN f2) ?_;repeat' first|apply ai|refine aj fun hc=>?_)
    all_goals first|(exfalso;omega)|skip
    all_goals exact qn
   ·(refine ga heE (mN f3) ?_;repeat' first|apply ai|refine aj fun hc=>?_)
    all_goals first|(exfalso;omega)|skip
    all_goals exact qn
   ·(refine eL heE ?_;repeat' first|apply ai|refine aj fun hc=>?_)
    all_goals first|(exfalso;omega)|skip
    all_goals exact qn
theorem Ex (D:List It) (ka km kb mid n p:Nat) (hDk:kb ≤ D.length) (hl:kb ≤ 1000000000) (hkD:∀ i (h:i < D.length),ka ≤ i → i < kb → (D[i]'h).key.size ≤ 1000000000) (hn:mid + km = n) (hp:n = p + 1) (Q:List It)
 (hfin':∀ i:Nat,ka ≤ i → i ≤ km → i ≤ mid → n - i ≤ kb → (∀ x y,ka < i → n - i < kb → D[i - 1]? = some x → D[n - i]? = some y → ltK y x = false) → (∀ x y,i < km → km < n - i → D[n - i - 1]? = some x → D[i]? = some y → ltK x y = true) → wc ka km kb mid i (n - i) D Q)
 (hmidE:((ka:Int) + (kb:Int)) / 2 = (mid:Nat)) (hnE:(mid:Int) + (km:Int) = (n:Nat)) (hpE:(n:Int) - 1 = (p:Nat)) (hm1:ka + 2 ≤ km) (hm2:km + 2 ≤ kb) (_hm3:ka + kb < 2 * mid + 2) (_hm4:2 * mid ≤ ka + kb) (hmk:¬ mid < km) :
 qI (ka:Nat) (km:Nat) (kb:Nat) D Q:=by
 unfold qI
 refine eR Tryz.func210 Tryz.ntmps210 ?_
 (refine D8 hnE hpE hmidE ?_;repeat' first|apply ai|refine aj fun hc=>?_)
 refine an (X:=Nat × Nat) (fun z=>ka ≤ z.1 ∧ z.1 ≤ z.2 ∧ z.2 ≤ km ∧ (∀ x y,ka < z.1 → D[z.1 - 1]? = some x → D[n - z.1]? = some y → ltK y x = false) ∧ (∀ x y,z.2 < km → D[n - z.2 - 1]? = some x → D[z.2]? = some y → ltK x y = true))
  (fun z=>ba [(0,.row 1000 0),(1,iC .i64 (ka:Nat)),(2,iC .i64 (km:Nat)),(3,iC .i64 (kb:Nat)),(4,l9),(18,iC .i64 (mid:Nat)),(19,iC .i64 (n:Nat)),(20,iC .i64 (z.1:Nat)),(21,iC .i64 (z.2:Nat)),(22,iC .i64 (p:Nat))] [(1000,eS D)]) (fun y=>y.2 - y.1) (ka,km) ⟨Nat.le_refl _,by simp only;omega,Nat.le_refl _,fun x y h=>by simp at h,fun x y h=>by simp at h⟩ ?_ ?_
 ·exact ae
 ·rintro ⟨i,j⟩ ⟨h1,h2,h3,h4,h5⟩
  simp only at h1 h2 h3 h4 h5 ⊢
  by_cases hij:i < j
  ·obtain ⟨h,hh⟩:∃ h:Nat,((i:Int) + (j:Int)) / 2 = (h:Nat):=⟨(i + j) / 2,by omega⟩
   have hih:i ≤ h:=by omega
   have hhj:h < j:=by omega
   have hlt:h < D.length:=by omega
   obtain ⟨q,hq⟩:∃ q:Nat,p = q + h:=⟨p - h,by omega⟩
   have hqE:(p:Int) - (h:Int) = (q:Nat):=by omega
   have hlq:q < D.length:=by omega
   have hmm:=oX D[q] D[h] (hkD q hlq (by omega) (by omega))
   have HJ:(D.map itP)[h]? = some (itP D[h]):=by rw [List.getElem?_map,List.getElem?_eq_getElem hlt];rfl
   have HQ:(D.map itP)[q]? = some (itP D[q]):=by rw [List.getElem?_map,List.getElem?_eq_getElem hlq];rfl
   (refine mP hqE hh ?_;repeat' first|apply ai|refine aj fun hc=>?_|((first|apply aO rfl|apply aP rfl|apply aQ rfl|apply aR rfl);(focus ((try (apply b8;(focus rfl);apply ah rfl rfl rfl rfl rfl));first|((apply bn 5;(focus rfl);exact aB ⟨rfl,rfl,rfl⟩ rfl inferInstance inferInstance rfl rfl rfl HJ rfl rfl rfl))|((apply bn 5;(focus rfl);exact aB ⟨rfl,rfl,rfl⟩ rfl inferInstance inferInstance rfl rfl rfl HQ rfl rfl rfl))|(exact Iy [] hmm)));refine mP hqE hh ?_))
   ·refine ⟨(h + 1,j),⟨by simp only;omega,by simp only;omega,h3,fun x y _ hx hy=>?_,h5⟩,by simp only;omega,?_⟩
    ·simp only [Nat.add_sub_cancel] at hx
     rw [List.getElem?_eq_getElem hlt] at hx;cases hx
     rw [show n - (h + 1) = q by omega,List.getElem?_eq_getElem hlq] at hy;cases hy
     rw [yN];assumption
    ·exact ae
   ·refine ⟨(i,h),⟨h1,hih,by simp only;omega,h4,fun x y _ hx hy=>?_⟩,by simp only;omega,?_⟩
    ·simp only at hx hy
     rw [List.getElem?_eq_getElem hlt] at hy;cases hy
     rw [show n - h - 1 = q by omega,List.getElem?_eq_getElem hlq] at hx;cases hx
     rw [fj];assumption
    ·exact ae
  ·have hij':j = i:=by omega
   subst hij'
   obtain ⟨D2,D3,e1,e2,e3⟩:=(hfin' j (by omega) (by omega) (by omega) (by omega) (fun x y g1 g2 g3 g4=>h4 x y (by omega) g3 g4) (fun x y g1 g2 g3 g4=>h5 x y (by omega) g3 g4)).h
   obtain ⟨e,he⟩:∃ e:Nat,n = e + j:=⟨n - j,by omega⟩
   have heE:(n:Int) - (j:Int) = (e:Nat):=by omega
   rw [show n - j = e by omega] at e1 e3
   clear h4 h5 hfin' hkD
   rcases e1 with ⟨a1,a2,f1⟩|⟨a1,rfl⟩ <;> rcases e2 with ⟨b1,b2,f2⟩|⟨b1,rfl⟩ <;> rcases e3 with ⟨c1,c2,f3⟩|⟨c1,rfl⟩
   ·(refine uv heE (mN f1) (mN f2) (mN f3) ?_;repeat' first|apply ai|refine aj fun hc=>?_)
    exact qn
   ·(refine i6 heE (mN f1) (mN f2) ?_;repeat' first|apply ai|refine aj fun hc=>?_)
    all_goals first|(exfalso;omega)|skip
    all_goals exact qn
   ·(refine i6 heE (mN f1) (mN f3) ?_;repeat' first|apply ai|refine aj fun hc=>?_)
    all_goals first|(exfalso;omega)|skip
    all_goals exact qn
   ·(refine ga heE (mN f1) ?_;repeat' first|apply ai|refine aj fun hc=>?_)
    all_goals first|(exfalso;omega)|skip
    all_goals exact qn
   ·(refine i6 heE (mN f2) (mN f3) ?_;repeat' first|apply ai|refine aj fun hc=>?_)
    all_goals first|(exfalso;omega)|skip
    all_goals exact qn
   ·(refine ga heE (mN f2) ?_;repeat' first|apply ai|refine aj fun hc=>?_)
    all_goals first|(exfalso;omega)|skip
    all_goals exact qn
   ·(refine ga heE (mN f3) ?_;repeat' first|apply ai|refine aj fun hc=>?_)
    all_goals first|(exfalso;omega)|skip
    all_goals exact qn
   ·(refine eL heE ?_;repeat' first|apply ai|refine aj fun hc=>?_)
    all_goals first|(exfalso;omega)|skip
    all_goals exact qn
theorem IC (A L R Z:List It) (ka km kb mid:Nat) (hka:A.length = ka) (hkm:ka + L.length = km) (hkb:km + R.length = kb) (hmid:mid = (ka + kb) / 2) (hL0:0 < L.length) (hR0:0 < R.length) (h1L:L.length ≠ 1) (h1R:R.length ≠ 1) (hkL:lm L) (hkR:lm R) (hl:kb + Z.length ≤ 1000000000)
 (Q:List It) (hfin:∀ L1 L2 R1 R2,L = L1 ++ L2 → R = R1 ++ R2 → ka + L1.length + R1.length = mid → (∀ x y,L1.getLast? = some x → R2.head? = some y → ltK y x = false) → (∀ x y,R1.getLast? = some x → L2.head? = some y → ltK x y = true) →
   wc ka km kb mid (ka + L1.length) (km + R1.length) (A ++ L ++ R ++ Z) Q) :
 qI (ka:Nat) (km:Nat) (kb:Nat) (A ++ L ++ R ++ Z) Q:=by
 generalize hD:A ++ L ++ R ++ Z = D at hfin ⊢
 have hDl:D.length = kb + Z.length:=by rw [← hD];simp;omega
 have hkD:∀ i (h:i < D.length),ka ≤ i → i < kb → (D[i]'h).key.size ≤ 1000000000:=by
  intro i h h1 h2
  have:D[i]'h ∈ L ++ R:=by
   have e:D[i]? = ((L ++ R) ++ Z)[i - ka]?:=by rw [← hD,show A ++ L ++ R ++ Z = A ++ (L ++ R ++ Z) by simp,List.getElem?_append_right (by omega),hka]
   rw [List.getElem?_append_left (by simp;omega),List.getElem?_eq_getElem h] at e
   exact List.mem_of_getElem? e.symm
  rcases List.mem_append.1 this with q|q
  ·exact hkL _ q
  ·exact hkR _ q
 obtain ⟨n,hn⟩:∃ n:Nat,mid + km = n:=⟨_,rfl⟩
 obtain ⟨p,hp⟩:∃ p:Nat,n = p + 1:=⟨n - 1,by omega⟩
 have hfin':∀ i:Nat,ka ≤ i → i ≤ km → i ≤ mid → n - i ≤ kb → (∀ x y,ka < i → n - i < kb → D[i - 1]? = some x → D[n - i]? = some y → ltK y x = false) → (∀ x y,i < km → km < n - i → D[n - i - 1]? = some x → D[i]? = some y → ltK x y = true) → wc ka km kb mid i (n - i) D Q:=by
  intro i h1 h2 h3 h3' h4 h5
  obtain ⟨L1,L2,rfl,hL1⟩:=jj L (i - ka) (by omega)
  obtain ⟨R1,R2,rfl,hR1⟩:=jj R (n - i - km) (by omega)
  have e1:ka + L1.length = i:=by omega
  have e2:km + R1.length = n - i:=by omega
  have:=hfin L1 L2 R1 R2 rfl rfl (by omega) (fun x y hx hy=>?_) (fun x y hx hy=>?_)
  ·rw [e1,e2] at this;exact this
  ·obtain ⟨L1',rfl⟩:=oY hx
   obtain ⟨R2',rfl⟩:=rb hy
   simp only [List.length_append,List.length_cons,List.length_nil] at e1 e2 hkm hkb
   refine h4 x y (by omega) (by omega) ?_ ?_
   ·rw [← hD,show A ++ (L1' ++ [x] ++ L2) ++ (R1 ++ y :: R2') ++ Z = (A ++ L1') ++ x :: (L2 ++ (R1 ++ y :: R2') ++ Z) by simp,dq _ _ _ _ (by simp;omega)]
   ·rw [← hD,show A ++ (L1' ++ [x] ++ L2) ++ (R1 ++ y :: R2') ++ Z = (A ++ (L1' ++ [x] ++ L2) ++ R1) ++ y :: (R2' ++ Z) by simp,dq _ _ _ _ (by simp;omega)]
  ·obtain ⟨R1',rfl⟩:=oY hx
   obtain ⟨L2',rfl⟩:=rb hy
   simp only [List.length_append,List.length_cons,List.length_nil] at e1 e2 hkm hkb
   refine h5 x y (by omega) (by omega) ?_ ?_
   ·rw [← hD,show A ++ (L1 ++ y :: L2') ++ (R1' ++ [x] ++ R2) ++ Z = (A ++ (L1 ++ y :: L2') ++ R1') ++ x :: (R2 ++ Z) by simp,dq _ _ _ _ (by simp;omega)]
   ·rw [← hD,show A ++ (L1 ++ y :: L2') ++ (R1' ++ [x] ++ R2) ++ Z = (A ++ L1) ++ y :: (L2' ++ (R1' ++ [x] ++ R2) ++ Z) by simp,dq _ _ _ _ (by simp;omega)]
 clear hfin hkL hkR hD
 have hmidE:((ka:Int) + (kb:Int)) / 2 = (mid:Nat):=by omega
 have hnE:(mid:Int) + (km:Int) = (n:Nat):=by omega
 have hpE:(n:Int) - 1 = (p:Nat):=by omega
 have hm1:ka + 2 ≤ km:=by omega
 have hm2:km + 2 ≤ kb:=by omega
 have hm3:ka + kb < 2 * mid + 2:=by omega
 have hm4:2 * mid ≤ ka + kb:=by omega
 by_cases hmk:mid < km
 ·exact Ew D ka km kb mid n p (by omega) (by omega) hkD hn hp Q hfin' hmidE hnE hpE hm1 hm2 hm3 hm4 hmk
 ·exact Ex D ka km kb mid n p (by omega) (by omega) hkD hn hp Q hfin' hmidE hnE hpE hm1 hm2 hm3 hm4 hmk
end
end Go.Proofs.YtliiahjpiagdkaaGreat
namespace Go.Proofs.YtliiahjpiagdkaaGreat
open Go.RowKit
section
theorem rc {l:List It} (h:lS ltK l):d8 l = l:=by rw [nQ];exact oS dA h
theorem ma (l:List It):lS ltK (d8 l):=by rw [nQ];exact (dl dA l).1
theorem j1 (l:List It):i7 ltK l (d8 l):=by rw [nQ];exact (dl dA l).2
theorem LO {M N:List It} (h1:lS ltK N) (h2:i7 ltK M N):d8 M = N:=by rw [nQ];exact qZ dA h1 h2
theorem CU:∀ (N:Nat) (A L R Z:List It),L.length + R.length ≤ N → 0 < L.length → 0 < R.length → lS ltK L → lS ltK R → lm L → lm R → A.length + L.length + R.length + Z.length ≤ 1000000000 →
 qI (A.length:Nat) ((A.length + L.length:Nat):Int) ((A.length + L.length + R.length:Nat):Int) (A ++ L ++ R ++ Z) (A ++ d8 (L ++ R) ++ Z):=by
 intro N
 induction N with
 | zero=>intro A L R Z h1 h2;omega
 | succ N ih=>
  intro A L R Z hN hL0 hR0 hL hR hkL hkR hl
  by_cases h1L:L.length = 1
  ·obtain ⟨x,rfl⟩:=List.length_eq_one_iff.1 h1L
   exact LN A x R Z _ _ _ rfl rfl rfl hR (hkL x (by simp)) hkR hl
  by_cases h1R:R.length = 1
  ·obtain ⟨y,rfl⟩:=List.length_eq_one_iff.1 h1R
   exact IB A L y Z _ _ _ rfl rfl rfl h1L hL (hkR y (by simp)) hl
  refine IC A L R Z _ _ _ _ rfl rfl rfl rfl hL0 hR0 h1L h1R hkL hkR hl _ ?_
  rintro L1 L2 R1 R2 rfl rfl hm hc1 hc2
  have hs:=lV dA hL hR hc1 hc2
  have hL':=List.pairwise_append.1 hL
  have hR':=List.pairwise_append.1 hR
  have hQ:d8 ((L1 ++ L2) ++ (R1 ++ R2)) = d8 (L1 ++ R1) ++ d8 (L2 ++ R2):=by simp only [nQ];exact hs
  have hln:(d8 (L1 ++ R1)).length = L1.length + R1.length:=by rw [gv];simp
  simp only [List.length_append] at *
  refine ⟨A ++ (L1 ++ R1) ++ (L2 ++ R2) ++ Z,A ++ d8 (L1 ++ R1) ++ (L2 ++ R2) ++ Z,?_,?_,?_⟩
  ·by_cases h:0 < L2.length ∧ 0 < R1.length
   ·refine .inl ⟨by omega,by omega,?_⟩
    have:=LM (A ++ L1) L2 R1 (R2 ++ Z) (A.length + L1.length:Nat) (A.length + (L1.length + L2.length):Nat) (A.length + (L1.length + L2.length) + R1.length:Nat) (by simp) (by simp;omega) (by simp;omega) h.1 h.2 (by simp;omega)
    unfold Pd
    simpa using this
   ·refine .inr ⟨by omega,?_⟩
    by_cases h2:L2.length = 0
    ·rw [List.eq_nil_of_length_eq_zero h2];simp
    ·rw [List.eq_nil_of_length_eq_zero (show R1.length = 0 by omega)];simp
  ·by_cases h:0 < L1.length ∧ 0 < R1.length
   ·refine .inl ⟨by omega,by omega,?_⟩
    have:=ih A L1 R1 ((L2 ++ R2) ++ Z) (by omega) h.1 h.2 hL'.1 hR'.1 (g8 hkL (by simp +contextual)) (g8 hkR (by simp +contextual)) (by simp;omega)
    rw [hm] at this
    simpa using this
   ·refine .inr ⟨by omega,?_⟩
    have:d8 (L1 ++ R1) = L1 ++ R1:=by
     by_cases h2:L1.length = 0
     ·rw [List.eq_nil_of_length_eq_zero h2];exact rc hR'.1
     ·rw [List.eq_nil_of_length_eq_zero (show R1.length = 0 by omega),List.append_nil];exact rc hL'.1
    rw [this]
  ·rw [hQ]
   by_cases h:0 < L2.length ∧ 0 < R2.length
   ·refine .inl ⟨by omega,by omega,?_⟩
    have:=ih (A ++ d8 (L1 ++ R1)) L2 R2 Z (by omega) h.1 h.2 hL'.2.1 hR'.2.1 (g8 hkL (by simp +contextual)) (g8 hkR (by simp +contextual)) (by simp;omega)
    simp only [List.length_append,hln] at this
    rw [show A.length + (L1.length + R1.length) = (A.length + (L1.length + L2.length + (R1.length + R2.length)) + A.length) / 2 by omega] at this
    have e1:(A.length + (L1.length + L2.length + (R1.length + R2.length)) + A.length) / 2 = (A.length + (A.length + (L1.length + L2.length) + (R1.length + R2.length))) / 2:=by omega
    rw [e1] at this
    rw [show (A.length + (A.length + (L1.length + L2.length) + (R1.length + R2.length))) / 2 + L2.length = A.length + (L1.length + L2.length) + R1.length by omega,show A.length + (L1.length + L2.length) + R1.length + R2.length = A.length + (L1.length + L2.length) + (R1.length + R2.length) by omega] at this
    simpa using this
   ·refine .inr ⟨by omega,?_⟩
    have:d8 (L2 ++ R2) = L2 ++ R2:=by
     by_cases h2:L2.length = 0
     ·rw [List.eq_nil_of_length_eq_zero h2];exact rc hR'.2.1
     ·rw [List.eq_nil_of_length_eq_zero (show R2.length = 0 by omega),List.append_nil];exact rc hL'.2.1
    rw [this];simp
def Ey (n:Nat) (Bs:List (List It)):Prop:=∀ B ∈ Bs,B.length = n ∧ lS ltK B
theorem Ey.len {n:Nat} {Bs:List (List It)} (h:Ey n Bs):Bs.flatten.length = Bs.length * n:=by
 induction Bs with
 | nil=>simp
 | cons B Bs ih=>
  rw [List.flatten_cons,List.length_append,ih (fun B' hB=>h B' (List.mem_cons_of_mem _ hB)),(h B List.mem_cons_self).1,List.length_cons,Nat.succ_mul];omega
theorem wd {M N:List It} (h:lm M) (ha:i7 ltK M N):lm N:=fun x hx=>h x (ha.mem dA hx)
theorem i7.len {α:Type} {lt:α → α → Bool} (h:sj lt) {M N:List α} (ha:i7 lt M N):N.length = M.length:=by
 have:=congrArg List.length (H6 h ha)
 rw [oT,oT] at this;exact this.symm
theorem IE (M:List It) (hk:lm M) (hl:M.length ≤ 100000000):de Tryz.prog 181 [.row 1000 0,iC .i64 (M.length:Nat),l9] [(1000,eS M)] .any [(1000,eS (d8 M))]:=by
 obtain ⟨n,hn⟩:∃ n,M.length = n:=⟨_,rfl⟩
 rw [hn]
 generalize hR:d8 M = R
 refine eR Tryz.func181 Tryz.ntmps181 ?_
 (refine w0 ?_;repeat' first|apply ai|refine aj fun hc=>?_)
 refine an (X:=List (List It) × List It) (fun x=>Ey 20 x.1 ∧ i7 ltK M (x.1.flatten ++ x.2))
  (fun x=>ba [(0,.row 1000 0),(1,iC .i64 (n:Nat)),(2,l9),(6,iC .i64 20),(7,iC .i64 (x.1.flatten.length:Nat)),(8,iC .i64 ((x.1.flatten.length + 20:Nat):Int))] [(1000,eS (x.1.flatten ++ x.2))]) (fun x=>x.2.length) ([],M) ⟨fun _ h=>by simp at h,by simpa using i7.refl M⟩ ?_ ?_
 ·exact ae
 ·rintro ⟨Bs,r⟩ ⟨h1,h2⟩
  simp only at h1 h2 ⊢
  have hlen:=i7.len dA h2
  rw [List.length_append,hn] at hlen
  have hkr:=wd hk h2
  obtain ⟨a,ha⟩:∃ a,Bs.flatten.length = a:=⟨_,rfl⟩
  by_cases hb:a + 20 ≤ n
  ·obtain ⟨B,r',rfl,hB⟩:=jj r 20 (by omega)
   have h:=yM Bs.flatten B r' (g8 hkr (by simp +contextual)) (by simp only [List.length_append] at hlen ⊢;omega)
   have hap:Bs.flatten ++ B ++ r' = Bs.flatten ++ (B ++ r'):=by simp
   rw [ha,hB,hap] at h
   rw [ha]
   (refine fB (mN h) ?_;repeat' first|apply ai|refine aj fun hc=>?_)
   refine ⟨(Bs ++ [d8 B],r'),⟨fun B' hB'=>?_,?_⟩,by simp;omega,?_⟩
   ·rcases List.mem_append.1 hB' with q|q
    ·exact h1 B' q
    ·simp at q;subst q;exact ⟨by rw [gv];exact hB,ma B⟩
   ·refine h2.trans ?_
    have:=((i7.refl (lt:=ltK) Bs.flatten).app (j1 B)).app (i7.refl r')
    simpa using this
   ·have e1:(Bs ++ [d8 B]).flatten ++ r' = Bs.flatten ++ d8 B ++ r':=by simp
    have e2:(Bs ++ [d8 B]).flatten.length = a + 20:=by simp [gv,hB] at ha ⊢;omega
    simp only [e1,e2]
    exact ae
  ·have h:=yM Bs.flatten r [] (g8 hkr (by simp +contextual)) (by simp only [List.length_append,List.length_nil];omega)
   rw [ha,List.append_nil,List.append_nil,show a + r.length = n by omega] at h
   rw [ha]
   (refine fB (mN h) ?_;repeat' first|apply ai|refine aj fun hc=>?_)
   refine an (X:=Nat × List (List It) × List It) (fun x=>20 ≤ x.1 ∧ x.1 ≤ 2 * n + 20 ∧ Ey x.1 x.2.1 ∧ lS ltK x.2.2 ∧ x.2.2.length < x.1 ∧ i7 ltK M (x.2.1.flatten ++ x.2.2))
    (fun x=>ba [(0,.row 1000 0),(1,iC .i64 (n:Nat)),(2,l9),(6,iC .i64 (x.1:Nat))] [(1000,eS (x.2.1.flatten ++ x.2.2))]) (fun x=>n - x.1) (20,Bs,d8 r) ⟨Nat.le_refl _,by simp only;omega,h1,ma r,by simp only [gv];omega,h2.trans ((i7.refl _).app (j1 r))⟩ ?_ ?_
   ·exact ae
   ·clear h1 h2 hlen hkr ha hb h
    rintro ⟨bs,Bs,r⟩ ⟨h0,h00,h1,h2,h3,h4⟩
    simp only at h0 h00 h1 h2 h3 h4 ⊢
    have hlen:=i7.len dA h4
    have hkr:=wd hk h4
    rw [List.length_append,hn] at hlen
    by_cases hbn:bs < n
    ·obtain ⟨b2,hb2⟩:∃ b2:Nat,2 * bs = b2:=⟨_,rfl⟩
     have hb2E:(2:Int) * (bs:Int) = (b2:Nat):=by omega
     (refine eL hb2E ?_;repeat' first|apply ai|refine aj fun hc=>?_)
     refine an (X:=List (List It) × List (List It)) (fun x=>Ey b2 x.1 ∧ Ey bs x.2 ∧ i7 ltK M (x.1.flatten ++ (x.2.flatten ++ r)))
      (fun x=>ba [(0,.row 1000 0),(1,iC .i64 (n:Nat)),(2,l9),(6,iC .i64 (bs:Nat)),(7,iC .i64 (x.1.flatten.length:Nat)),(8,iC .i64 ((x.1.flatten.length + b2:Nat):Int))] [(1000,eS (x.1.flatten ++ (x.2.flatten ++ r)))]) (fun x=>x.2.length) ([],Bs) ⟨fun _ h=>by simp at h,h1,by simpa using h4⟩ ?_ ?_
     ·exact ae
     ·clear h1 h4 hkr hlen
      rintro ⟨Cs,Bs⟩ ⟨h1,h5,h4⟩
      simp only at h1 h5 h4 ⊢
      have hlen:=i7.len dA h4
      have hkr:=wd hk h4
      rw [List.length_append,List.length_append,hn] at hlen
      obtain ⟨a,ha⟩:∃ a,Cs.flatten.length = a:=⟨_,rfl⟩
      have hfl:=h5.len
      obtain ⟨am,ham⟩:∃ am:Nat,a + bs = am:=⟨_,rfl⟩
      have hbsE:(a:Int) + (bs:Int) = (am:Nat):=by omega
      match Bs,hfl with
      | [],hfl=>
       clear hfl
       simp only [List.flatten_nil,List.length_nil,List.nil_append] at *
       rw [ha] at hlen ⊢
       (refine rS hbsE hb2E ?_;repeat' first|apply ai|refine aj fun hc=>?_)
       refine ⟨(b2,Cs,r),⟨by simp only;omega,by simp only;omega,h1,h2,by simp only;omega,h4⟩,by simp only;omega,?_⟩
       exact ae
      | [B],hfl=>
       clear hfl
       have hB:=h5 B (by simp)
       simp only [List.flatten_cons,List.flatten_nil,List.append_nil] at *
       rw [ha] at hlen ⊢
       by_cases hr0:r.length = 0
       ·have hr:=List.eq_nil_of_length_eq_zero hr0
        subst hr
        simp only [List.append_nil] at *
        (refine rS hbsE hb2E ?_;repeat' first|apply ai|refine aj fun hc=>?_)
        refine ⟨(b2,Cs,B),⟨by simp only;omega,by simp only;omega,h1,hB.2,by simp only;omega,h4⟩,by simp only;omega,?_⟩
        exact ae
       ·have h:=CU _ Cs.flatten B r [] (Nat.le_refl _) (by omega) (by omega) hB.2 h2 (g8 hkr (by simp +contextual)) (g8 hkr (by simp +contextual)) (by simp only [List.length_nil];omega)
        rw [ha,hB.1,List.append_nil,List.append_nil,ham,show am + r.length = n by omega,List.append_assoc] at h
        (refine uw hbsE hb2E (mN h) ?_;repeat' first|apply ai|refine aj fun hc=>?_)
        refine ⟨(b2,Cs,d8 (B ++ r)),⟨by simp only;omega,by simp only;omega,h1,ma _,by simp only [gv,List.length_append];omega,h4.trans ((i7.refl _).app (j1 _))⟩,by simp only;omega,?_⟩
        exact ae
      | B :: B' :: Bs,hfl=>
       have hB:=h5 B (by simp)
       have hB':=h5 B' (by simp)
       have hq:=Nat.zero_le (Bs.length * bs)
       simp only [List.length_cons,Nat.succ_mul] at hfl
       have h:=CU _ Cs.flatten B B' (Bs.flatten ++ r) (Nat.le_refl _) (by omega) (by omega) hB.2 hB'.2 (g8 hkr (by simp +contextual)) (g8 hkr (by simp +contextual)) (by simp only [List.length_append,List.flatten_cons] at hlen ⊢;omega)
       have e0:Cs.flatten ++ B ++ B' ++ (Bs.flatten ++ r) = Cs.flatten ++ ((B :: B' :: Bs).flatten ++ r):=by simp
       rw [ha,hB.1,hB'.1,show a + bs + bs = a + b2 by omega,ham,e0] at h
       rw [ha] at hlen ⊢
       (refine uw hbsE hb2E (mN h) ?_;repeat' first|apply ai|refine aj fun hc=>?_)
       refine ⟨(Cs ++ [d8 (B ++ B')],Bs),⟨fun C hC=>?_,fun C hC=>h5 C (by simp [hC]),?_⟩,by simp only [List.length_cons];omega,?_⟩
       ·rcases List.mem_append.1 hC with q|q
        ·exact h1 C q
        ·simp at q;subst q;exact ⟨by rw [gv,List.length_append];omega,ma _⟩
       ·refine h4.trans ?_
        have:=((i7.refl (lt:=ltK) Cs.flatten).app (j1 (B ++ B'))).app (i7.refl (Bs.flatten ++ r))
        simpa using this
       ·have e1:(Cs ++ [d8 (B ++ B')]).flatten ++ (Bs.flatten ++ r) = Cs.flatten ++ d8 (B ++ B') ++ (Bs.flatten ++ r):=by simp
        have e2:(Cs ++ [d8 (B ++ B')]).flatten.length = a + b2:=by simp [gv,hB.1,hB'.1] at ha ⊢;omega
        simp only [e1,e2]
        exact ae
    ·have hD:lS ltK (Bs.flatten ++ r):=by
      match Bs,h1 with
      | [],_=>simpa using h2
      | [B],h1=>
       have hB:=h1 B (by simp)
       simp at hlen
       have hr:=List.eq_nil_of_length_eq_zero (show r.length = 0 by omega)
       subst hr
       simpa using hB.2
      | B :: B' :: Bs,h1=>
       have hB:=h1 B (by simp)
       have hB':=h1 B' (by simp)
       simp at hlen
       omega
     have hRD:Bs.flatten ++ r = R:=by rw [← hR];exact (LO hD h4).symm
     rw [hRD]
     (refine w0 ?_;repeat' first|apply ai|refine aj fun hc=>?_)
     exact qn
theorem qJ (M:List It) (hk:lm M) (hl:M.length ≤ 100000000):de Tryz.prog 135 [.row 1000 0,l9] [(1000,eS M)] .any [(1000,eS (d8 M))]:=by
 have h:=IE M hk hl
 generalize d8 M = R at *
 refine eR Tryz.func135 Tryz.ntmps135 ?_
 (refine fB (mN h) ?_;repeat' first|apply ai|refine aj fun hc=>?_)
 exact qn
end
end Go.Proofs.YtliiahjpiagdkaaGreat
