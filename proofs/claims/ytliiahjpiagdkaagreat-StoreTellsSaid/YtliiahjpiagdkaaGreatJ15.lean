/- Texts joined: Span Clo KnW Kw. -/
import Derived.Test.YtliiahjpiagdkaaGreatJ13
import Derived.Test.YtliiahjpiagdkaaGreatJ05
import Derived.Test.YtliiahjpiagdkaaGreatJ14
set_option maxRecDepth 10000
set_option maxHeartbeats 8000000
namespace Go.Proofs.YtliiahjpiagdkaaGreat
open Go.RowKit
section
theorem oV (r:Rg) (s:ByteArray) (hs:s.size ≤ 1000000000):Fn Tryz.prog 69 [uy r,sC s] (cw (aZ r s)):=by
 have h1:=e7 r
 obtain ⟨lo,hi,op⟩:=r
 have hR:=bT ⟨lo,hi,op⟩
 have hH:aZ ⟨lo,hi,op⟩ s = (eO ⟨lo,hi,op⟩ && (decide (lo ≤ s) && (op || decide (s < hi)))):=rfl
 generalize aZ ⟨lo,hi,op⟩ s = b at *
 generalize eO ⟨lo,hi,op⟩ = q at *
 subst hH
 show Fn Tryz.prog _ [.per (bX [av (.string lo),av (.string hi),av (.bool op)]),sC s] (cw _)
 cases q with
 | false=>
  refine fi Tryz.func69 Tryz.ntmps69 ?_
  (refine az h1 ?_;repeat' first|apply ai|refine aj fun hc=>?_)
  refine aU ?_
  exact af rfl rfl
 | true=>
  have hlo:=(hR.1 rfl).1
  simp only at hlo
  clear hR
  have h2:=eN lo s (by omega)
  have h3:=eN s hi (by omega)
  by_cases q1:bu lo s ≤ 0
  ·rw [decide_eq_true (show lo ≤ s from q1)]
   cases op with
   | true=>
    refine fi Tryz.func69 Tryz.ntmps69 ?_
    (refine eV h1 h2 h3 ?_;repeat' first|apply ai|refine aj fun hc=>?_)
    refine aU ?_
    exact af rfl rfl
   | false=>
    refine fi Tryz.func69 Tryz.ntmps69 ?_
    (refine eV h1 h2 h3 ?_;repeat' first|apply ai|refine aj fun hc=>?_)
    refine aU ?_
    exact af rfl rfl
  ·rw [decide_eq_false (show ¬ lo ≤ s from q1)]
   refine fi Tryz.func69 Tryz.ntmps69 ?_
   (refine aL h1 h2 ?_;repeat' first|apply ai|refine aj fun hc=>?_)
   refine aU ?_
   exact af rfl rfl
theorem mX (r:Rg) (s:ByteArray) (hs:s.size ≤ 1000000000):Fn Tryz.prog 71 [uy r,sC s] (cw (aZ r s)):=by
 have h1:=jz r
 obtain ⟨lo,hi,op⟩:=r
 have hR:=bT ⟨lo,hi,op⟩
 have hH:aZ ⟨lo,hi,op⟩ s = (eO ⟨lo,hi,op⟩ && (decide (lo ≤ s) && (op || decide (s < hi)))):=rfl
 generalize aZ ⟨lo,hi,op⟩ s = b at *
 generalize eO ⟨lo,hi,op⟩ = q at *
 subst hH
 show Fn Tryz.prog _ [.per (bX [av (.string lo),av (.string hi),av (.bool op)]),sC s] (cw _)
 cases q with
 | false=>
  refine fi Tryz.func71 Tryz.ntmps71 ?_
  (refine az h1 ?_;repeat' first|apply ai|refine aj fun hc=>?_)
  refine aU ?_
  exact af rfl rfl
 | true=>
  have hlo:=(hR.1 rfl).1
  simp only at hlo
  clear hR
  have h2:=eZ s lo (by omega)
  have h3:=eZ s hi (by omega)
  by_cases q1:bu s lo < 0
  ·rw [decide_eq_false (show ¬ lo ≤ s by have:=(dz s lo).1 q1;grind)]
   rw [decide_eq_true q1] at h2
   refine fi Tryz.func71 Tryz.ntmps71 ?_
   (refine aL h1 h2 ?_;repeat' first|apply ai|refine aj fun hc=>?_)
   refine aU ?_
   exact af rfl rfl
  ·rw [decide_eq_true (show lo ≤ s by rw [dz] at q1;grind)]
   rw [decide_eq_false q1] at h2
   cases op with
   | true=>
    refine fi Tryz.func71 Tryz.ntmps71 ?_
    (refine aL h1 h2 ?_;repeat' first|apply ai|refine aj fun hc=>?_)
    refine aU ?_
    exact af rfl rfl
   | false=>
    refine fi Tryz.func71 Tryz.ntmps71 ?_
    (refine eV h1 h2 h3 ?_;repeat' first|apply ai|refine aj fun hc=>?_)
    refine aU ?_
    exact af rfl rfl
theorem l7 (l:List Rg) (s:ByteArray) (hl:l.length ≤ 1000000000) (hs:s.size ≤ 1000000000):Fn Tryz.prog 34 [dS l,sC s] (cw (bA l s)):=by
 generalize hb:bA l s = b
 refine fi Tryz.func34 Tryz.ntmps34 ?_
 (refine w0 ?_;repeat' first|apply ai|refine aj fun hc=>?_)
 refine an (X:=Nat) (fun z=>z ≤ l.length ∧ bA (l.drop z) s = b)
  (fun z=>ba [(0,dS l),(1,sC s),(5,iC .i64 (z:Nat))] []) (fun z=>l.length - z) 0 ⟨Nat.zero_le _,by rw [List.drop_zero];exact hb⟩ ?_ ?_
 ·exact ae
 ·rintro z ⟨h1,h2⟩
  by_cases hz:z < l.length
  ·have h3:=mX l[z] s hs
   rw [List.drop_eq_getElem_cons hz,bA,List.any_cons] at h2
   cases hr:aZ l[z] s with
   | true=>
    rw [hr] at h3 h2
    rw [Bool.true_or] at h2
    subst h2
    clear hb
    (refine az h3 ?_;repeat' first|apply ai|refine aj fun hc=>?_)
    refine aU ?_
    exact af rfl rfl
   | false=>
    rw [hr] at h3 h2
    rw [Bool.false_or] at h2
    clear hb
    (refine az h3 ?_;repeat' first|apply ai|refine aj fun hc=>?_)
    refine ⟨z + 1,⟨by omega,h2⟩,by omega,?_⟩
    exact ae
  ·obtain rfl:z = l.length:=by omega
   rw [List.drop_length] at h2
   simp only [bA,List.any_nil] at h2
   subst h2
   clear hb
   (refine w0 ?_;repeat' first|apply ai|refine aj fun hc=>?_)
   refine aU ?_
   exact af rfl rfl
theorem Eo (x y:Rg) (hx:eO x = true) (hy:eO y = true):Fn Tryz.prog 66 [uy x,uy y] (gy (Ek x y)):=by
 have h1:=e7 x
 have h2:=e7 y
 have hR:=(bT x).1 hx
 rw [hx] at h1
 rw [hy] at h2
 clear hx hy
 obtain ⟨lo,hi,op⟩:=x
 obtain ⟨lo',hi',op'⟩:=y
 have hhi:=hR.2.1
 simp only at hhi
 clear hR
 have h3:=eN hi hi' (by omega)
 have hE:Ek ⟨lo,hi,op⟩ ⟨lo',hi',op'⟩ = (if op && op' then 0 else if op then 1 else if op' then -1 else bu hi hi'):=rfl
 rw [hE]
 show Fn Tryz.prog _ [.per (bX [av (.string lo),av (.string hi),av (.bool op)]),.per (bX [av (.string lo'),av (.string hi'),av (.bool op')])] (gy _)
 cases op <;> cases op'
 all_goals
  refine fi Tryz.func66 Tryz.ntmps66 ?_
  (refine eV h3 h1 h2 ?_;repeat' first|apply ai|refine aj fun hc=>?_)
  refine aU ?_
  exact aH rfl rfl
end
def Ep (f:FuncId) (As:List PV):PV:=⟨fun N w v=>∃ xs:List Value,v = .func (.func f) #[] xs.toArray ∧ xs.length = As.length ∧ ∀ (j:Nat) (x:Value) (A:PV),xs[j]? = some x → As[j]? = some A → A.p N w x,
 fun h1 h2 h3 ⟨xs,e,l,h⟩=>⟨xs,e,l,fun j x A a b=>A.mono h1 h2 h3 (h j x A a b)⟩⟩
section
variable {P:Program} {n t:Nat} {ops:Array Oper} {o:Oper} {F:List Nat} {S:St}
theorem CQ {f:FuncId} {x:Operand} {A:PV} (hp:Pl n o t) (ho:o.op = .makeFunc (.func f) #[] #[x]) (hx:S.opd x = .per A):aw n P ops o (aA x) (.per (Ep f [A])) [] S:=
 aM hp fun C T g a w hA hR=>⟨.func (.func f) #[] #[a.eval x],by simp [execOp,ho,Instr.makeFunc],[a.eval x],rfl,rfl,fun j v B h1 h2=>by
  have h:=aD (x:=x) hA (fun k h=>by simp [h]) hR
  rw [hx] at h
  match j with
  | 0=>cases h1;cases h2;exact h
  | j + 1=>cases h1⟩
theorem CR {f:FuncId} {x y:Operand} {A B:PV} (hp:Pl n o t) (ho:o.op = .makeFunc (.func f) #[] #[x,y]) (hx:S.opd x = .per A) (hy:S.opd y = .per B):aw n P ops o (aA x ++ aA y) (.per (Ep f [A,B])) [] S:=
 aM hp fun C T g a w hA hR=>⟨.func (.func f) #[] #[a.eval x,a.eval y],by simp [execOp,ho,Instr.makeFunc],[a.eval x,a.eval y],rfl,rfl,fun j v B' h1 h2=>by
  have h:=aD (x:=x) hA (fun k h=>by simp [h]) hR
  have h':=aD (x:=y) hA (fun k h=>by simp [h]) hR
  rw [hx] at h
  rw [hy] at h'
  match j with
  | 0=>cases h1;cases h2;exact h
  | 1=>cases h1;cases h2;exact h'
  | j + 2=>cases h1⟩
theorem Er {x0:Operand} {f:FuncId} {As:List PV} (hx:S.opd x0 = .per (Ep f As)) (hF:∀ k ∈ aA x0,k ∈ F):vD F S x0 f (As.map .per):=fun n C T g a w hA hR=>by
 have h:=aD (x:=x0) hA hF hR
 rw [hx] at h
 obtain ⟨xs,e,l,h⟩:=h
 refine ⟨xs,e,by rw [l,List.length_map],fun j v c h1 h2=>?_⟩
 rw [List.getElem?_map] at h2
 obtain ⟨A,hA',rfl⟩:=Option.map_eq_some_iff.1 h2
 exact h j v A h1 hA'
theorem LK {bo:Bool} {ρ:Nat → Option Nat} {old new:Nat → Nat} (As:List PV):(As.map Cnt.per).map (Cnt.mp bo ρ old new) = As.map Cnt.per:=by
 rw [List.map_map];exact List.map_congr_left fun _ _=>rfl
theorem tU {f:FuncId} {x0:Operand} {xs:List Operand} (Bs:List Cnt) {As:List PV} {full:List Cnt} {r:Cnt} (hf:de P f full [] r []) (hfl:Bs ++ As.map Cnt.per = full:=by rfl) (hp:DP n o:=by exact ⟨rfl,rfl⟩) (ho:iR o x0 xs:=by exact ⟨_,rfl⟩) (hx:S.opd x0 = .per (Ep f As):=by rfl)
 (hg:qm S [] xs Bs:=by first|((repeat (first|exact qm.nil|(refine qm.cons ?_ ?_;focus (first|exact nr rfl|exact nt rfl|exact nv rfl rfl rfl rfl|exact nu rfl|exact nx rfl|exact kI rfl|exact lL rfl rfl))));done)|fail):aw n P ops o (aA x0 ++ (eh S xs ++ vG [])) (r.mp false (jy []) z0 (tG S.ver [])) (lF S [] [] []) S:=
 jU (cs:=As.map .per) [] hp ho (Er hx (fun k h=>by simp [h])) (by rw [LK,hfl];exact hf) rfl (fun p h=>by cases h) (hg.gives (fun _ h=>by simp at h ⊢;exact .inr (.inl h)) (fun _ h=>by simp [h])) .nil
end
def bS (k:List Pc):Prop:=k.length ≤ 1000000 ∧ (k.flatMap Pc.set).length ≤ 1000000 ∧ ((k.flatMap Pc.set).flatMap Kn.runs).length ≤ 1000000
def iY (s:ByteArray) (p:Pc):List Kn:=if aZ p.rg s then p.set else []
theorem yE {α β:Type} {f g:α → List β} (h:∀ x,(f x).Sublist (g x)):∀ l:List α,(l.flatMap f).Sublist (l.flatMap g):=by
 intro l
 induction l with
 | nil=>exact .slnil
 | cons x l ih=>rw [List.flatMap_cons,List.flatMap_cons];exact (h x).append ih
theorem gq {α β:Type} (f:α → List β) {a b:List α} (h:a.Sublist b):(a.flatMap f).length ≤ (b.flatMap f).length:=by
 induction h with
 | slnil=>exact Nat.le_refl _
 | cons x _ ih=>rw [List.flatMap_cons,List.length_append];omega
 | cons_cons x _ ih=>rw [List.flatMap_cons,List.flatMap_cons,List.length_append,List.length_append];omega
theorem yF (s:ByteArray) (p:Pc):(iY s p).Sublist p.set:=by
 unfold iY;split
 ·exact List.Sublist.refl _
 ·exact List.nil_sublist _
theorem bS.has {k:List Pc} (h:bS k) (s:ByteArray):pJ (k.flatMap (iY s)):=by
 have h1:=yE (yF s) k
 have h2:=h1.length_le
 have h3:=gq Kn.runs h1
 exact ⟨by have:=h.2.1;omega,by have:=h.2.2;omega⟩
theorem pQ {α β:Type} (f:α → List β) (l:List α) (z:Nat):(l.take z).flatMap f = (l.take z).flatMap f ∧ ((l.take z).flatMap f).length ≤ (l.flatMap f).length:=⟨rfl,gq f (List.take_sublist _ _)⟩
theorem pR {α β:Type} (f:α → List β) (l:List α) (z:Nat) (h:z < l.length):(l.take (z + 1)).flatMap f = (l.take z).flatMap f ++ f l[z]:=by
 rw [List.take_succ_eq_append_getElem h,List.flatMap_append,List.flatMap_cons,List.flatMap_nil,List.append_nil]
theorem fG {α β:Type} (f:α → List β) {l:List α} {x:α} (h:x ∈ l):(f x).length ≤ (l.flatMap f).length:=by
 induction l with
 | nil=>cases h
 | cons y l ih=>
  rw [List.flatMap_cons,List.length_append]
  rcases List.mem_cons.1 h with rfl|h
  ·omega
  ·have:=ih h;omega
section
theorem M5 (k:List Pc) (s:ByteArray) (hk:bS k) (hs:s.size ≤ 1000000000):Fn Tryz.prog 130 [bV k,sC s] (k9 (iW k s)):=by
 have hk1:=hk.1
 have hO:=LC (k.flatMap (iY s)) (hk.has s).tot
 rw [show ff ofR (k.flatMap (iY s)) = iW k s from rfl] at hO
 generalize iW k s = R at *
 refine fi Tryz.func130 Tryz.ntmps130 ?_
 (refine w0 ?_;repeat' first|apply ai|refine aj fun hc=>?_)
 refine bZ (b7 5 700 95 2 rfl rfl) ?_
 refine an (X:=Nat) (fun z=>z ≤ k.length)
  (fun z=>ba [(1,sC s),(5,.row 700 0),(8,bV k),(9,iC .i64 (k.length:Nat)),(10,iC .i64 ((z:Nat):Int))] [(700,.row 95 2 (((k.take z).flatMap (iY s)).map CA))]) (fun z=>k.length - z) 0 (Nat.zero_le _) ?_ ?_
 ·exact ae
 ·intro z hz
  by_cases hlt:z < k.length
  ·have hsn:=pR (iY s) k z hlt
   have h1:=(pQ (iY s) k z).2
   have h2:=(hk.has s).1
   have h3:=fG Pc.set (List.getElem_mem hlt)
   have h4:=hk.2.1
   have c1:=oV k[z].rg s hs
   generalize (k.take z).flatMap (iY s) = A at *
   unfold iY at hsn
   clear hk
   cases c:aZ k[z].rg s with
   | true=>
    rw [c] at c1 hsn
    rw [if_pos rfl] at hsn
    (refine az c1 ?_;repeat' first|apply ai|refine aj fun hc=>?_)
    refine ⟨z + 1,hlt,by omega,ay (aN 700 701) (ay (aN 701 700) ?_)⟩
    rw [show (k.take (z + 1)).flatMap (iY s) = _ from hsn]
    exact ae
   | false=>
    rw [c] at c1 hsn
    rw [if_neg (by simp),List.append_nil] at hsn
    (refine az c1 ?_;repeat' first|apply ai|refine aj fun hc=>?_)
    refine ⟨z + 1,hlt,by omega,?_⟩
    rw [show (k.take (z + 1)).flatMap (iY s) = _ from hsn]
    exact ae
  ·rw [List.take_of_length_le (show k.length ≤ z by omega)]
   clear hk
   generalize k.flatMap (iY s) = A at *
   (refine az hO ?_;repeat' first|apply ai|refine aj fun hc=>?_)
   refine aU ?_
   exact cI rfl rfl rfl
def rawE (p:Pc):List ByteArray:=if eO p.rg then (if p.rg.op then [p.rg.lo] else [p.rg.lo,p.rg.hi]) else []
theorem yG (p:Pc) (m:ByteArray):m ∈ rawE p ↔ jJ p.rg m:=by
 unfold rawE jJ
 by_cases c:eO p.rg = true
 ·rw [if_pos c]
  cases o:p.rg.op with
  | true=>simp [c]
  | false=>simp [c]
 ·rw [if_neg c]
  simp [c]
theorem yH (k:List Pc) (m:ByteArray):m ∈ k.flatMap rawE ↔ ∃ r ∈ bB k,jJ r m:=by
 unfold bB
 rw [List.mem_flatMap]
 constructor
 ·rintro ⟨p,hp,h⟩
  exact ⟨p.rg,List.mem_map_of_mem hp,(yG p m).1 h⟩
 ·rintro ⟨r,hr,h⟩
  obtain ⟨p,hp,rfl⟩:=List.mem_map.1 hr
  exact ⟨p,hp,(yG p m).2 h⟩
theorem Iv (p:Pc):(rawE p).length ≤ 2:=by unfold rawE;split;split <;> simp;simp
theorem pS:∀ k:List Pc,(k.flatMap rawE).length ≤ 2 * k.length:=by
 intro k
 induction k with
 | nil=>simp
 | cons p k ih=>rw [List.flatMap_cons,List.length_append,List.length_cons];have:=Iv p;omega
theorem v7 {k:List Pc} {m:ByteArray} (h:m ∈ emB :: k.flatMap rawE):m.size ≤ 1000000000000:=by
 rcases List.mem_cons.1 h with rfl|h
 ·decide
 ·obtain ⟨r,_,c,q⟩:=(yH k m).1 h
  have:=(bT r).1 c
  rcases q with q|⟨_,q⟩ <;> rw [q] <;> omega
theorem Es (k:List Pc):gB (ni (emB :: k.flatMap rawE)) = gP k:=
 Ir (fun _ h=>v7 h) (vY k) (fun s=>by
  unfold gP
  rw [e8,List.mem_cons (a:=s) (b:=emB) (l:=k.flatMap rawE),yH,List.mem_singleton])
abbrev gr (l:List Pc):Cnt:=.per (iq l)
abbrev Qx (l:List ByteArray):Blk:=.row 9 1 (l.map strP)
theorem yI (ls:List (List Pc)) (hl:ls.length ≤ 1000) (hk:ls.flatten.length ≤ 1000000):Fn Tryz.prog 128 [.bor 1 (ls.map fun k=>[iq k])] (.own 9 1 ((gP ls.flatten).map strP)):=by
 have hsort:=Es ls.flatten
 have hlen:=pS ls.flatten
 have s1:=Hs (emB :: ls.flatten.flatMap rawE) (fun s h=>v7 h) (by rw [List.length_cons];omega)
 have s2:=Iu (ni (emB :: ls.flatten.flatMap rawE)) (by
  have:=(r8 (l:=emB :: ls.flatten.flatMap rawE) (fun s h=>v7 h)).1.length_eq
  rw [this,List.length_cons];omega)
 rw [hsort] at s2
 generalize gP ls.flatten = R at *
 generalize ni (emB :: ls.flatten.flatMap rawE) = Q at *
 clear hsort
 refine fi Tryz.func128 Tryz.ntmps128 ?_
 (repeat' (first|refine fS ?_|refine dx ?_|refine ei ?_|refine ej ?_|refine fT ?_|refine cO ?_|refine e9 gK ?_|refine fQ ?_|refine fR (by kernel_rfl) ?_|(refine nf rfl rfl ⟨fun hc=>?_,fun hc=>?_⟩ <;> (repeat rw [List.length_map] at hc) <;> (try exact gg hc))|((first|apply aO rfl|apply aP rfl|apply aQ rfl|apply aR rfl);focus (first|((apply bn 15;(focus rfl);solve|(apply fb <;> first|exact ⟨rfl,rfl,rfl⟩|rfl|infer_instance|(repeat (first|exact cv.nil|(apply cv.cons;(focus (first|exact bx rfl rfl rfl|exact fx rfl|exact fy rfl))))))))|(apply b8;(focus rfl);apply ah rfl rfl rfl rfl rfl;((apply bn 15;(focus rfl);solve|(apply fb <;> first|exact ⟨rfl,rfl,rfl⟩|rfl|infer_instance|(repeat (first|exact cv.nil|(apply cv.cons;(focus (first|exact bx rfl rfl rfl|exact fx rfl|exact fy rfl)))))))))|exact iH|fail))|refine ep ?_|refine eu ?_|refine ev ?_|refine jb ?_|refine jc ?_|refine ew ?_|refine dy rfl ?_|((first|refine ng rfl rfl rfl ⟨fun hc=>?_,fun hc=>?_⟩|refine nh rfl rfl rfl ⟨fun hc=>?_,fun hc=>?_⟩) <;> (fail_if_success (have q:(true = true):=hc)) <;> (fail_if_success (have q:(false = false):=hc)) <;> (repeat rw [List.length_map] at hc) <;> (try exact gg hc))|refine cX rfl rfl (fun hc=>?_) ?_))
 refine bZ (aN 8 700) ?_
 refine an (X:=Nat) (fun z=>z ≤ ls.length)
  (fun z=>ba [(3,.row 700 0),(9,.bor 1 (ls.map fun k=>[iq k])),(10,iC .i64 (ls.length:Nat)),(11,iC .i64 ((z:Nat):Int))] [(700,Qx (emB :: (ls.take z).flatten.flatMap rawE))]) (fun z=>ls.length - z) 0 (Nat.zero_le _) ?_ ?_
 ·exact ae
 ·intro z hz
  by_cases hlt:z < ls.length
  ·have htk:(ls.take (z + 1)).flatten = (ls.take z).flatten ++ ls[z]:=by rw [List.take_succ_eq_append_getElem hlt,List.flatten_append];simp
   have hsub:(ls.take (z + 1)).flatten.length ≤ ls.flatten.length:=by
    have:ls.flatten = (ls.take (z + 1)).flatten ++ (ls.drop (z + 1)).flatten:=by rw [← List.flatten_append,List.take_append_drop]
    rw [this,List.length_append];omega
   have hl2:=congrArg List.length htk
   rw [List.length_append] at hl2
   have hraw:(ls.take (z + 1)).flatten.flatMap rawE = (ls.take z).flatten.flatMap rawE ++ ls[z].flatMap rawE:=by rw [htk,List.flatMap_append]
   have hA:=pS (ls.take z).flatten
   generalize (ls.take z).flatten.flatMap rawE = A at *
   clear s1 s2 htk
   (refine w0 ?_;repeat' first|apply ai|refine aj fun hc=>?_)
   refine an (X:=Nat) (fun y=>y ≤ ls[z].length)
    (fun y=>ba [(3,.row 700 0),(9,.bor 1 (ls.map fun k=>[iq k])),(10,iC .i64 (ls.length:Nat)),(11,iC .i64 ((z:Nat):Int)),(15,gr ls[z]),(16,iC .i64 (ls[z].length:Nat)),(17,iC .i64 ((y:Nat):Int))] [(700,Qx (emB :: (A ++ (ls[z].take y).flatMap rawE)))]) (fun y=>ls[z].length - y) 0 (Nat.zero_le _) ?_ ?_
   ·(refine og ?_ ?_;(focus ((repeat (first|exact iO.nil|(refine iO.cons ?_ ?_;rotate_left)));(all_goals try (first|rfl|(refine KO ?_;first|omega|(simp;done)|(simp;omega))|(refine vz ?_;first|(simp;done)|(simp [*];done))))));(focus ((repeat (first|exact iP.nil|(refine iP.cons ?_ ?_;rotate_left)));(all_goals try (first|rfl|(refine vA ?_;(rw [List.map_append] <;> rfl);done)|(refine oq ?_;(rw [List.map_append] <;> rfl);done))))))
    rw [List.take_zero,List.flatMap_nil,List.append_nil]
    rfl
   ·intro y hy
    by_cases hly:y < ls[z].length
    ·have hsn:=pR rawE ls[z] y hly
     have hB:=(pQ rawE ls[z] y).2
     have hB2:=pS ls[z]
     have c1:=e7 ls[z][y].rg
     generalize (ls[z].take y).flatMap rawE = B at *
     unfold rawE at hsn
     cases c:eO ls[z][y].rg with
     | false=>
      rw [c] at c1 hsn
      rw [if_neg (by simp),List.append_nil] at hsn
      (refine az c1 ?_;repeat' first|apply ai|refine aj fun hc=>?_)
      refine ⟨y + 1,hly,by omega,?_⟩
      rw [show (ls[z].take (y + 1)).flatMap rawE = _ from hsn]
      exact ae
     | true=>
      rw [c] at c1 hsn
      rw [if_pos rfl] at hsn
      cases o:ls[z][y].rg.op with
      | true=>
       rw [o,if_pos rfl] at hsn
       (refine az c1 ?_;repeat' first|apply ai|refine aj fun hc=>?_)
       all_goals first
        | (exfalso;simp [o] at hc;done)
        | (refine ⟨y + 1,hly,by omega,ay (aN 700 701) (ay (aN 701 700) ?_)⟩
           rw [show (ls[z].take (y + 1)).flatMap rawE = _ from hsn]
           (refine og ?_ ?_;(focus ((repeat (first|exact iO.nil|(refine iO.cons ?_ ?_;rotate_left)));(all_goals try (first|rfl|(refine KO ?_;first|omega|(simp;done)|(simp;omega))|(refine vz ?_;first|(simp;done)|(simp [*];done))))));(focus ((repeat (first|exact iP.nil|(refine iP.cons ?_ ?_;rotate_left)));(all_goals try (first|rfl|(refine vA ?_;(rw [List.map_append] <;> rfl);done)|(refine oq ?_;(rw [List.map_append] <;> rfl);done))))))
           show Blk.row _ _ _ = Blk.row _ _ _
           simp
           try rfl)
      | false=>
       rw [o,if_neg (by simp)] at hsn
       (refine az c1 ?_;repeat' first|apply ai|refine aj fun hc=>?_)
       all_goals first
        | (exfalso;simp [o] at hc;done)
        | (refine ⟨y + 1,hly,by omega,ay (aN 700 701) (ay (aN 701 700) ?_)⟩
           rw [show (ls[z].take (y + 1)).flatMap rawE = _ from hsn]
           (refine og ?_ ?_;(focus ((repeat (first|exact iO.nil|(refine iO.cons ?_ ?_;rotate_left)));(all_goals try (first|rfl|(refine KO ?_;first|omega|(simp;done)|(simp;omega))|(refine vz ?_;first|(simp;done)|(simp [*];done))))));(focus ((repeat (first|exact iP.nil|(refine iP.cons ?_ ?_;rotate_left)));(all_goals try (first|rfl|(refine vA ?_;(rw [List.map_append] <;> rfl);done)|(refine oq ?_;(rw [List.map_append] <;> rfl);done))))))
           show Blk.row _ _ _ = Blk.row _ _ _
           simp
           try rfl)
    ·rw [List.take_of_length_le (show ls[z].length ≤ y by omega)]
     rw [← hraw]
     (refine w0 ?_;repeat' first|apply ai|refine aj fun hc=>?_)
     refine ⟨z + 1,hlt,by omega,?_⟩
     exact ae
  ·rw [List.take_of_length_le (show ls.length ≤ z by omega)]
   (refine lO (gj [(1000,700)] s1) (gj [(2000,700),(3000,800)] s2) ?_;repeat' first|apply ai|refine aj fun hc=>?_)
   refine aU ?_
   exact cI rfl rfl rfl
end
theorem Et:∀ a b:List UInt8,cz b a = - cz a b:=by
 intro a
 induction a with
 | nil=>intro b;cases b <;> rfl
 | cons x a ih=>
  intro b
  cases b with
  | nil=>rfl
  | cons y b=>
   simp only [cz]
   by_cases h1:x.toNat < y.toNat
   ·rw [if_neg (show ¬ y.toNat < x.toNat by omega),if_pos h1,if_pos h1];rfl
   ·by_cases h2:y.toNat < x.toNat
    ·rw [if_pos h2,if_neg h1,if_pos h2]
    ·rw [if_neg h2,if_neg h1,if_neg h1,if_neg h2,ih]
theorem Eu (s t:ByteArray):bu t s = - bu s t:=Et _ _
def fH (k:List Pc):Prop:=k.length ≤ 1000000000 ∧ ∀ p ∈ k,cR p.set
theorem fH.at {k:List Pc} (h:fH k) {i:Nat} (hi:i < k.length):cR k[i].set:=h.2 _ (List.getElem_mem hi)
def gu (a b:Rg):Bool:=!a.op && decide (a.hi = b.lo)
section
theorem nL (a b:Rg):Fn Tryz.prog 122 [uy a,uy b] (cw (gu a b)):=by
 obtain ⟨lo,hi,op⟩:=a
 obtain ⟨lo',hi',op'⟩:=b
 show Fn Tryz.prog _ [.per (bX [av (.string lo),av (.string hi),av (.bool op)]),.per (bX [av (.string lo'),av (.string hi'),av (.bool op')])] _
 cases op with
 | true=>
  refine fi Tryz.func122 Tryz.ntmps122 ?_
  (refine w0 ?_;repeat' first|apply ai|refine aj fun hc=>?_)
  refine aU ?_
  exact af rfl rfl
 | false=>
  refine fi Tryz.func122 Tryz.ntmps122 ?_
  (refine w0 ?_;repeat' first|apply ai|refine aj fun hc=>?_)
  refine aU ?_
  exact af rfl (by unfold gu;rw [Bool.eq_iff_iff];simp [ip])
theorem kP (k:List Pc) (hk:fH k) (b:Bool) (hb:b = true ↔ aY k):Fn Tryz.prog 77 [bV k] (cw b):=by
 have hl0:=hk.1
 refine fi Tryz.func77 Tryz.ntmps77 ?_
 (refine w0 ?_;repeat' first|apply ai|refine aj fun hc=>?_)
 refine an (X:=Nat) (fun z=>z ≤ k.length ∧ ∀ i,i < z → rY k i)
  (fun z=>ba [(0,bV k),(6,bV k),(7,iC .i64 (k.length:Nat)),(8,iC .i64 (z:Nat))] []) (fun z=>k.length - z) 0 ⟨Nat.zero_le _,fun i h=>absurd h (Nat.not_lt_zero _)⟩ ?_ ?_
 ·exact ae
 ·rintro z ⟨h1,h2⟩
  by_cases hz:z < k.length
  ·have c1:=e7 k[z].rg
   have c2:=Hv k[z].set (hk.at hz).sz (decide (cg k[z].set)) (by simp)
   have hE:k[z].set ≠ [] ↔ ¬ k[z].set.length = 0:=by simp
   have hno:¬ rY k z → b = false:=fun h=>by rw [← Bool.not_eq_true,hb];exact fun q=>h (q z hz)
   by_cases q1:eO k[z].rg = true
   ·rw [q1] at c1
    by_cases q2:k[z].set.length = 0
    ·have hb0:=hno (fun h=>absurd q2 (hE.1 (h hz).2.1))
     subst hb0
     clear hb hno h2 hE q1
     (refine aL c1 c2 ?_;repeat' first|apply ai|refine aj fun hc=>?_)
     refine aU ?_
     exact af rfl rfl
    ·by_cases q3:cg k[z].set
     ·rw [decide_eq_true q3] at c2
      by_cases h0:0 < z
      ·obtain ⟨q,rfl⟩:∃ q,z = q + 1:=⟨z - 1,by omega⟩
       have hqE:((q + 1:Nat):Int) - 1 = (q:Nat):=by omega
       have hq:=(h2 q (by omega)) (by omega)
       have hrq:=(bT _).1 hq.1
       have c3:=eN k[q].rg.hi k[q + 1].rg.lo (by omega)
       have c4:=nL k[q].rg k[q + 1].rg
       have c5:=nI k[q].set k[q + 1].set (hk.at (by omega)) (hk.at hz) hq.2.2.1 q3
       have hiff:rY k (q + 1) ↔ k[q].rg.op = false ∧ bu k[q].rg.hi k[q + 1].rg.lo ≤ 0 ∧ ¬ (k[q].rg.hi = k[q + 1].rg.lo ∧ k[q].set = k[q + 1].set):=
        ⟨fun h=>(h hz).2.2.2 (by omega),fun h _=>⟨q1,hE.2 q2,q3,fun _=>h⟩⟩
       clear hq hrq
       have hE2:((k[q + 1].set.length:Nat):Int) ≠ 0:=by omega
       cases o:k[q].rg.op with
       | true=>
        have hb0:=hno (fun h=>by have:=(hiff.1 h).1;rw [o] at this;cases this)
        subst hb0
        clear hb hno h2 hE q1 q3 hiff
        (refine mO hqE c1 c2 c3 c4 c5 ?_;repeat' first|apply ai|refine aj fun hc=>?_)
        all_goals first|(exfalso;simp_all;done)|skip
        refine aU ?_
        exact af rfl rfl
       | false=>
        by_cases g:bu k[q].rg.hi k[q + 1].rg.lo ≤ 0
        ·by_cases e:k[q].rg.hi = k[q + 1].rg.lo
         ·have ht:gu k[q].rg k[q + 1].rg = true:=by simp [gu,o,e]
          rw [ht] at c4
          by_cases s:k[q].set = k[q + 1].set
          ·rw [decide_eq_true s] at c5
           have hb0:=hno (fun h=>(hiff.1 h).2.2 ⟨e,s⟩)
           subst hb0
           clear hb hno h2 hE q1 q3 hiff s ht e
           (refine mO hqE c1 c2 c3 c4 c5 ?_;repeat' first|apply ai|refine aj fun hc=>?_)
           all_goals first|(exfalso;simp_all;done)|skip
           refine aU ?_
           exact af rfl rfl
          ·rw [decide_eq_false s] at c5
           have hok:=hiff.2 ⟨o,g,fun h=>s h.2⟩
           clear hb hno hE q1 q3 hiff s ht e
           (refine mO hqE c1 c2 c3 c4 c5 ?_;repeat' first|apply ai|refine aj fun hc=>?_)
           all_goals first|(exfalso;simp_all;done)|skip
           refine ⟨q + 1 + 1,⟨by omega,fe h2 hok⟩,by omega,?_⟩
           exact ae
         ·have ht:gu k[q].rg k[q + 1].rg = false:=by simp [gu,o,e]
          rw [ht] at c4
          have hok:=hiff.2 ⟨o,g,fun h=>e h.1⟩
          clear hb hno hE q1 q3 hiff ht e c5
          (refine fc hqE c1 c2 c3 c4 ?_;repeat' first|apply ai|refine aj fun hc=>?_)
          all_goals first|(exfalso;simp_all;done)|skip
          refine ⟨q + 1 + 1,⟨by omega,fe h2 hok⟩,by omega,?_⟩
          exact ae
        ·have hb0:=hno (fun h=>g (hiff.1 h).2.1)
         subst hb0
         clear hb hno h2 hE q1 q3 hiff
         (refine mO hqE c1 c2 c3 c4 c5 ?_;repeat' first|apply ai|refine aj fun hc=>?_)
         all_goals first|(exfalso;simp_all;done)|skip
         refine aU ?_
         exact af rfl rfl
      ·have hok:rY k z:=fun _=>⟨q1,hE.2 q2,q3,fun h=>absurd h h0⟩
       obtain rfl:z = 0:=by omega
       clear hb hno hE q1 q3
       (refine aL c1 c2 ?_;repeat' first|apply ai|refine aj fun hc=>?_)
       refine ⟨0 + 1,⟨by omega,fe h2 hok⟩,by omega,?_⟩
       exact ae
     ·rw [decide_eq_false q3] at c2
      have hb0:=hno (fun h=>q3 (h hz).2.2.1)
      subst hb0
      clear hb hno h2 hE q1 q3
      (refine aL c1 c2 ?_;repeat' first|apply ai|refine aj fun hc=>?_)
      refine aU ?_
      exact af rfl rfl
   ·rw [Bool.not_eq_true] at q1
    rw [q1] at c1
    have hb0:=hno (fun h=>by have:=(h hz).1;rw [q1] at this;cases this)
    subst hb0
    clear hb hno h2 hE q1
    (refine aL c1 c2 ?_;repeat' first|apply ai|refine aj fun hc=>?_)
    refine aU ?_
    exact af rfl rfl
  ·have hb1:b = true:=hb.2 (fun i hi=>h2 i (by omega))
   subst hb1
   clear hb h2
   (refine w0 ?_;repeat' first|apply ai|refine aj fun hc=>?_)
   refine aU ?_
   exact af rfl rfl
end
end Go.Proofs.YtliiahjpiagdkaaGreat
