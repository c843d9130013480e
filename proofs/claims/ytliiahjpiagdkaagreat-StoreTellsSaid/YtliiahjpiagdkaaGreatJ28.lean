/- Texts joined: ArgsA Wk AbsMix WkB StR Rkp. -/
import Derived.Test.YtliiahjpiagdkaaGreatJ06
import Derived.Test.YtliiahjpiagdkaaGreatJ27
import Derived.Test.YtliiahjpiagdkaaGreatJ05
import Derived.Test.YtliiahjpiagdkaaGreatJ07
import Derived.Test.YtliiahjpiagdkaaGreatJ03
import Derived.Test.YtliiahjpiagdkaaGreatJ17
import Derived.Test.YtliiahjpiagdkaaGreatJ19
set_option maxRecDepth 10000
set_option maxHeartbeats 8000000
namespace Go.Proofs.YtliiahjpiagdkaaGreat
open Go.RowKit
def cx (w:World):Ctx:=⟨w,fun _=>False,fun _=>False,g0⟩
abbrev In (w:World) (v:Value) (c:Cnt):Prop:=crep (cx w) (fun _=>0) g0 w v c
theorem Qf {P:Program} {f:FuncId} {c d d':Cnt} {w:World} {v v' v'':Value} (h:Fn P f [c,d,d'] (.per (av (.bool true)))) (h0:In w v c) (h1:In w v' d) (h2:In w v'' d'):Calls P f #[v,v',v''] w fun e w'=>e = .returned (.bool true) ∧ bw w w':=by
 refine (h.run (fun _=>False) w [v,v',v''] (fun _ hb=>hb.elim) ⟨rfl,fun i u d hi hj=>?_⟩).mono ?_
 ·match i,hi,hj with
  | 0,hi,hj=>cases hi;cases hj;exact h0
  | 1,hi,hj=>cases hi;cases hj;exact h1
  | 2,hi,hj=>cases hi;cases hj;exact h2
  | _ + 3,hi,_=>simp at hi
 ·rintro e w' ⟨u,rfl,hx,hu⟩
  have hu:u = .bool true:=hu
  exact ⟨by rw [hu],hx⟩
def FG (A B:PV):Prop:=∀ (N:BP) (w:World) (v:Value),A.p N w v → B.p N w v
theorem FG.refl {A:PV}:FG A A:=fun _ _ _ h=>h
theorem C8 {k:Nat}:FG (av (.slice none 0 0)) (cD k []):=fun N w v h=>by
 have h:v = .slice none 0 0:=h
 subst h
 exact ⟨none,0,0,0,rfl,by simp,by decide,fun _=>rfl,by simp,fun i cs hi=>by simp at hi⟩
inductive PW:List PV → List PV → Prop
 | nil:PW [] []
 | cons {A B:PV} {l l':List PV} (h:FG A B) (k:PW l l'):PW (A :: l) (B :: l')
theorem PW.len {l l':List PV} (h:PW l l'):l.length = l'.length:=by
 induction h with
 | nil=>rfl
 | cons h k ih=>simp [ih]
theorem PW.get {l l':List PV} (h:PW l l'):∀ (j:Nat) (B:PV),l'[j]? = some B → ∃ A,l[j]? = some A ∧ FG A B:=by
 induction h with
 | nil=>intro j B h;simp at h
 | @cons A B l l' h k ih=>
  intro j C hj
  cases j with
  | zero=>simp at hj;subst hj;exact ⟨A,rfl,h⟩
  | succ j=>simpa using ih j C (by simpa using hj)
theorem Mr {l l':List PV} (h:PW l l'):FG (bX l) (bX l'):=fun N w v ⟨vs,e,h1,h2⟩=>by
 refine ⟨vs,e,by rw [h1,h.len],fun j B hj=>?_⟩
 obtain ⟨A,q1,q2⟩:=h.get j B hj
 obtain ⟨y,r1,r2,r3⟩:=h2 j A q1
 exact ⟨y,r1,r2,q2 N w y r3⟩
theorem aI {l l':List PV} (h:PW l l':=by (repeat (first|exact PW.nil|(refine PW.cons (by first|exact FG.refl|exact C8) ?_)))):FG (bX l) (bX l'):=Mr h
section
variable {P:Program} {n:Nat} {S:St} {A B:PV} {rv:ResultVar} {τ:List (Nat × Nat)}
theorem dE (h:cM P n S rv (.per A)) (k:FG A B):cM P n S rv (.per B):=fun C g a w hL hR=>by
 obtain ⟨v,h1,h2⟩:=h C g a w hL hR
 exact ⟨v,h1,k _ _ _ h2⟩
end
section
variable {P:Program} {n:Nat} {ops:Array Oper} {o:Oper} {F:List Nat} {S T:St} {C:Ctx} {g:Gh} {a:Act} {w w':World} {t:Nat}
theorem Pr {id vr:Nat} {B:Blk} (hR:RG C n S g a w) (hv:S.ver id = vr) (hb:brep C S.ver g w id B):RG C n (S.putB [(id,vr,B)]) g a w:=by
 have hver:(S.putB [(id,vr,B)]).ver = S.ver:=by
  funext i
  rw [St.putB_ver]
  split
  ·rename_i h;subst h;exact hv.symm
  ·rfl
 refine ⟨hR.defers,hR.tsz,hR.nle,hR.keep,hR.os,hR.tape,hR.output,hR.size,hR.old,hR.n0,hR.n0l,hR.dom,fun t=>?_,fun i=>?_⟩
 ·rw [hver];exact hR.slots t
 ·rw [hver,St.putB_blk]
  split
  ·rename_i h;subst h;exact hb
  ·exact hR.blks i
end
theorem Ms {n:Nat} {S:St} (id vr e k:Nat) (es es':List (List PV)) (hv:S.ver id = vr) (hb:S.blk id = .row e k es) (hl:es.length = es'.length) (h:∀ (i:Nat) (ps':List PV),es'[i]? = some ps' → ∃ ps,es[i]? = some ps ∧ PW ps ps'):Le n S (S.putB [(id,vr,.row e k es')]):=by
 rintro C a w ⟨g,hR⟩
 have hB:=hR.blks id
 rw [hb] at hB
 refine ⟨g,Pr hR hv ?_⟩
 rcases hB with ⟨q1,q2⟩|⟨cap,cs,q1,q2,q3,q4,q5,q6,q7⟩
 ·refine .inl ⟨q1,?_⟩
  rw [q2] at hl
  exact List.eq_nil_of_length_eq_zero hl.symm
 ·refine .inr ⟨cap,cs,by rw [← hl];exact q1,q2,q3,by omega,q5,q6,fun i ps' hi=>?_⟩
  obtain ⟨ps,r1,r2⟩:=h i ps' hi
  obtain ⟨t1,t2⟩:=q7 i ps r1
  refine ⟨by rw [← t1,r2.len],fun j B hj=>?_⟩
  obtain ⟨A,u1,u2⟩:=r2.get j B hj
  obtain ⟨y,z1,z2,z3⟩:=t2 j A u1
  exact ⟨y,z1,z2,u2 _ _ _ z3⟩
def o7 (f:List Rg):List Pc:=f.map fun r=>⟨r,[]⟩
theorem JB (k:List Pc) (f:List Rg):gP (k ++ o7 f) = jL k f:=by
 have e:o7 f = f.map fun r=>(⟨r,[]⟩:Pc):=rfl
 unfold gP jL bB
 rw [List.map_append,e,List.map_map]
 congr 2
 have:(Pc.rg ∘ fun r=>(⟨r,[]⟩:Pc)) = id:=rfl
 rw [this,List.map_id]
theorem JC (k:List Pc) (f:List Rg):(jL k f).length ≤ 1 + 2 * (k.length + f.length):=by
 have:=jY (bB k ++ f) [emB]
 unfold jL
 unfold bB at *
 simp only [List.length_cons,List.length_nil,List.length_append,List.length_map,Nat.zero_add] at this
 exact this
theorem Mt {k:List Pc} {f:List Rg} {m:ByteArray} (h:m ∈ jL k f):m.size ≤ 1000000000:=by
 have:=wm k f m h;omega
theorem tj {k:List Pc} (hk:bS k) (f:List Rg) (s:ByteArray):cR (jq k f s):=by
 unfold jq
 split
 ·have:=v8 hk s
  exact ⟨by omega,by omega⟩
 ·exact ⟨by simp,by simp⟩
abbrev Ps (r:Rg):List PV:=[av (.string r.lo),av (.string r.hi),av (.bool r.op),av (.slice none 0 0)]
section
theorem Mu (k:List Pc) (f:List Rg) (s:ByteArray) (hk:bS k) (hf:dr f) (hfl:f.length ≤ 1000000) (hs:s.size ≤ 1000000000) :
 Fn Tryz.prog 129 [sC s,.per (dw [fC f]),.per (dw [iq k])] (k9 (jq k f s)):=by
 have h1:=tf f s hf (by omega) hs
 have h2:=M5 k s hk hs
 unfold jq
 cases hh:bA f s with
 | false=>
  rw [hh] at h1
  simp only [Bool.false_eq_true,if_false]
  refine fi Tryz.func129 Tryz.ntmps129 ?_
  (refine az h1 ?_;repeat' first|apply ai|refine aj fun hc=>?_)
  refine aU ?_
  exact Ag rfl
 | true=>
  rw [hh] at h1
  simp only [if_true]
  generalize iW k s = A at *
  refine fi Tryz.func129 Tryz.ntmps129 ?_
  (refine aL h1 h2 ?_;repeat' first|apply ai|refine aj fun hc=>?_)
  refine aU ?_
  exact cI rfl rfl rfl
theorem qB (k:List Pc) (f:List Rg) (hk:bS k) (hf:dr f) (hfl:f.length ≤ 100000) (hkl:k.length ≤ 500000) (hof:Fn Tryz.prog 29 [dS f] (ze f)) :
 Fn Tryz.prog 79 [gr k,.per (fC f)] (l8 (bz k f)):=by
 have h0:=hof.frz
 have h1:=yI [k,o7 f] (by simp) (by simp [o7];omega)
 have e1:[k,o7 f].flatten = k ++ o7 f:=by simp
 rw [e1,JB] at h1
 have hlE:=JC k f
 have h2:=yK 129 [dw [fC f],dw [iq k]] (jq k f) (jL k f) (by omega) (fun s hs=>(Mu k f s hk hf (by omega) (Mt hs)).frz.toM) (fun s _=>CX k f s) (fun s _=>tj hk f s)
 rw [show kL (jq k f) (jL k f) = bz k f from rfl] at h2
 generalize bz k f = R at *
 generalize jL k f = E at *
 clear hlE e1 hk
 refine fi Tryz.func79 Tryz.ntmps79 ?_
 (refine az h0 ?_;repeat' first|apply ai|refine aj fun hc=>?_)
 refine bZ (b7 6 700 66 4 rfl rfl) ?_
 refine an (X:=Nat) (fun i=>i ≤ f.length) (fun i=>ba [(2,.ptr 2 0 0),(5,.ptr 5 0 0),(6,.row 700 0),(11,.per (fC f)),(12,iC .i64 (f.length:Nat)),(13,iC .i64 (i:Nat))] [(2,.box 24 [gr k]),(5,.box 22 [.per (fC f)]),(700,.row 66 4 ((f.take i).map Ps))]) (fun i=>f.length - i) 0 (Nat.zero_le _) ?_ ?_
 ·exact ae
 ·intro i hi
  by_cases hlt:i < f.length
  ·have hsn:f.take (i + 1) = f.take i ++ [f[i]]:=by rw [List.take_succ_eq_append_getElem hlt]
   have hlk:(f.take i).length ≤ i:=by rw [List.length_take];omega
   generalize f.take i = A at *
   clear h0 h1 h2
   (refine w0 ?_;repeat' first|apply ai|refine aj fun hc=>?_)
   refine ⟨i + 1,hlt,by omega,ay (aN 700 701) (ay (aN 701 700) ?_)⟩
   rw [hsn]
   exact ae
  ·rw [List.take_of_length_le (show f.length ≤ i by omega)]
   clear h0
   refine bZ (Ms 700 _ 66 4 _ ((o7 f).map pcP) rfl rfl (by simp [o7]) (fun j ps' hj=>?_)) ?_
   ·unfold o7 at hj
    rw [List.map_map,List.getElem?_map] at hj
    cases hq:f[j]? with
    | none=>rw [hq] at hj;cases hj
    | some r=>
     rw [hq] at hj;cases hj
     refine ⟨Ps r,by rw [List.getElem?_map,hq];rfl,?_⟩
     (repeat (first|exact PW.nil|(refine PW.cons (by first|exact FG.refl|exact C8) ?_)))
   refine bZ (je 700 _ 66 4 rfl rfl) (bZ (Ax 2 _ 24 rfl rfl rfl) (bZ (Ax 5 _ 22 rfl rfl rfl) ?_))
   (repeat' (first|refine fS ?_|refine dx ?_|refine ei ?_|refine ej ?_|refine fT ?_|refine cO ?_|refine e9 gK ?_|refine fQ ?_|refine fR (by kernel_rfl) ?_|(refine nf rfl rfl ⟨fun hc=>?_,fun hc=>?_⟩ <;> (repeat rw [List.length_map] at hc) <;> (try exact gg hc))|((first|apply aO rfl|apply aP rfl|apply aQ rfl|apply aR rfl);focus (first|((apply bn 22;(focus rfl);exact CR ⟨rfl,rfl,rfl⟩ rfl rfl rfl))|(apply b8;(focus rfl);apply ah rfl rfl rfl rfl rfl;((apply bn 22;(focus rfl);exact CR ⟨rfl,rfl,rfl⟩ rfl rfl rfl)))|exact iH|((refine FF (h1) (hg:=?_);((repeat (first|exact GL.nil|(refine GL.cons ?_ ?_;focus (first|exact bq rfl|exact bI rfl|exact cP rfl rfl rfl|exact bJ rfl|exact cQ rfl|exact ce rfl))));done)))|(apply b8;(focus rfl);apply ah rfl rfl rfl rfl rfl;((refine FF (h1) (hg:=?_);((repeat (first|exact GL.nil|(refine GL.cons ?_ ?_;focus (first|exact bq rfl|exact bI rfl|exact cP rfl rfl rfl|exact bJ rfl|exact cQ rfl|exact ce rfl))));done))))|((refine FF (h2) (hg:=?_);((repeat (first|exact GL.nil|(refine GL.cons ?_ ?_;focus (first|exact bq rfl|exact bI rfl|exact cP rfl rfl rfl|exact bJ rfl|exact cQ rfl|exact ce rfl))));done)))|(apply b8;(focus rfl);apply ah rfl rfl rfl rfl rfl;((refine FF (h2) (hg:=?_);((repeat (first|exact GL.nil|(refine GL.cons ?_ ?_;focus (first|exact bq rfl|exact bI rfl|exact cP rfl rfl rfl|exact bJ rfl|exact cQ rfl|exact ce rfl))));done))))|fail))|refine ep ?_|refine eu ?_|refine ev ?_|refine jb ?_|refine jc ?_|refine ew ?_|refine dy rfl ?_|((first|refine ng rfl rfl rfl ⟨fun hc=>?_,fun hc=>?_⟩|refine nh rfl rfl rfl ⟨fun hc=>?_,fun hc=>?_⟩) <;> (fail_if_success (have q:(true = true):=hc)) <;> (fail_if_success (have q:(false = false):=hc)) <;> (repeat rw [List.length_map] at hc) <;> (try exact gg hc))|refine cX rfl rfl (fun hc=>?_) ?_))
   refine aU ?_
   exact cI rfl rfl rfl
theorem JD (p q:Pc) (hp:cg p.set) (hq:cg q.set) (tp:cR p.set) (tq:cR q.set):de Tryz.prog 126 [Qu p,Qu q] [] (bC (decide (p = q))) []:=by
 have h1:=CD p.set q.set p.set q.set (lZ p.set tp hp) (lZ q.set tq hq) tp.sz
 have hEo:=Hl p.rg q.rg
 have hE:p = q ↔ p.rg = q.rg ∧ p.set = q.set:=by cases p;cases q;simp
 clear hp hq tp tq
 by_cases e1:p.rg = q.rg
 ·rw [(oG _ _).2 e1] at hEo
  by_cases e2:p.set = q.set
  ·rw [decide_eq_true (hE.2 ⟨e1,e2⟩)]
   rw [decide_eq_true e2] at h1
   clear hE e2 e1
   refine eR Tryz.func126 Tryz.ntmps126 ?_
   (refine az h1 ?_;repeat' first|apply ai|refine aj fun hc=>?_|((first|apply aO rfl|apply aP rfl|apply aQ rfl|apply aR rfl);(focus ((try (apply b8;(focus rfl);apply ah rfl rfl rfl rfl rfl));first|(exact dR (us:=encRg p.rg) (vs:=encRg q.rg) ⟨rfl,rfl,rfl⟩ rfl rfl rfl (by first|exact .inl ⟨rfl,rfl⟩|exact .inr ⟨rfl,rfl⟩) NF rfl hEo)|((apply bn 5;(focus rfl);first|exact bg ⟨rfl,rfl,rfl⟩ rfl inferInstance inferInstance rfl rfl rfl rfl|exact bh ⟨rfl,rfl,rfl⟩ rfl inferInstance inferInstance rfl rfl rfl rfl))));refine az h1 ?_))
   (refine ⟨(by first|exact .inl rfl|exact .inr rfl),cc [] rfl rfl .nil ?_⟩)
   exact b0 rfl (by first|rfl|(simp;done))
  ·rw [decide_eq_false (fun h=>e2 (hE.1 h).2)]
   rw [decide_eq_false e2] at h1
   clear hE e2 e1
   refine eR Tryz.func126 Tryz.ntmps126 ?_
   (refine az h1 ?_;repeat' first|apply ai|refine aj fun hc=>?_|((first|apply aO rfl|apply aP rfl|apply aQ rfl|apply aR rfl);(focus ((try (apply b8;(focus rfl);apply ah rfl rfl rfl rfl rfl));first|(exact dR (us:=encRg p.rg) (vs:=encRg q.rg) ⟨rfl,rfl,rfl⟩ rfl rfl rfl (by first|exact .inl ⟨rfl,rfl⟩|exact .inr ⟨rfl,rfl⟩) NF rfl hEo)|((apply bn 5;(focus rfl);first|exact bg ⟨rfl,rfl,rfl⟩ rfl inferInstance inferInstance rfl rfl rfl rfl|exact bh ⟨rfl,rfl,rfl⟩ rfl inferInstance inferInstance rfl rfl rfl rfl))));refine az h1 ?_))
   (refine ⟨(by first|exact .inl rfl|exact .inr rfl),cc [] rfl rfl .nil ?_⟩)
   exact b0 rfl (by first|rfl|(simp;done))
 ·rw [decide_eq_false (fun h=>e1 (hE.1 h).1)]
  have he:OS p.rg q.rg = false:=by rw [← Bool.not_eq_true,oG];exact e1
  rw [he] at hEo
  clear hE e1 he
  refine eR Tryz.func126 Tryz.ntmps126 ?_
  (refine az h1 ?_;repeat' first|apply ai|refine aj fun hc=>?_|((first|apply aO rfl|apply aP rfl|apply aQ rfl|apply aR rfl);(focus ((try (apply b8;(focus rfl);apply ah rfl rfl rfl rfl rfl));first|(exact dR (us:=encRg p.rg) (vs:=encRg q.rg) ⟨rfl,rfl,rfl⟩ rfl rfl rfl (by first|exact .inl ⟨rfl,rfl⟩|exact .inr ⟨rfl,rfl⟩) NF rfl hEo)|((apply bn 5;(focus rfl);first|exact bg ⟨rfl,rfl,rfl⟩ rfl inferInstance inferInstance rfl rfl rfl rfl|exact bh ⟨rfl,rfl,rfl⟩ rfl inferInstance inferInstance rfl rfl rfl rfl))));refine az h1 ?_))
  (refine ⟨(by first|exact .inl rfl|exact .inr rfl),cc [] rfl rfl .nil ?_⟩)
  exact b0 rfl (by first|rfl|(simp;done))
abbrev Pt:Cnt:=.per (av (.func (.func 126) #[] #[]))
theorem BM (l m:List Pc) (hl:fH l) (hm:fH m) (ol:∀ p ∈ l,cg p.set) (om:∀ p ∈ m,cg p.set):Fn Tryz.prog 124 [bV l,bV m,Pt] (cw (decide (l = m))):=by
 have hl0:=hl.1
 refine fi Tryz.func124 Tryz.ntmps124 ?_
 (refine w0 ?_;repeat' first|apply ai|refine aj fun hc=>?_)
 ·refine aU ?_
  exact af rfl (by symm;rw [decide_eq_false_iff_not];intro h;subst h;omega)
 have hlm:l.length = m.length:=by omega
 refine an (fun k=>k ≤ l.length ∧ l.take k = m.take k) (fun k=>ba [(1,bV m),(2,Pt),(15,bV l),(16,iC .i64 (l.length:Nat)),(17,iC .i64 (k:Nat))] []) (fun k=>l.length - k) 0 ⟨Nat.zero_le _,rfl⟩ ?_ ?_
 ·exact ae
 ·rintro k ⟨hk,hpre⟩
  by_cases hlt:k < l.length
  ·have hltm:k < m.length:=by omega
   have c1:=JD l[k] m[k] (ol _ (List.getElem_mem hlt)) (om _ (List.getElem_mem hltm)) (hl.at hlt) (hm.at hltm)
   clear ol om hl hm
   by_cases he:l[k] = m[k]
   ·rw [decide_eq_true he] at c1
    (refine w0 ?_;repeat' first|apply ai|refine aj fun hc=>?_|((first|apply aO rfl|apply aP rfl|apply aQ rfl|apply aR rfl);(focus ((try (apply b8;(focus rfl);apply ah rfl rfl rfl rfl rfl));first|(exact Lm [] c1)));refine w0 ?_))
    refine ⟨k + 1,⟨by omega,?_⟩,by omega,?_⟩
    ·rw [aJ l k hlt,aJ m k hltm,hpre,he]
    ·exact ae
   ·rw [decide_eq_false he] at c1
    have hd:¬ l = m:=fun h=>he (by subst h;rfl)
    rw [decide_eq_false hd]
    clear hd he
    (refine w0 ?_;repeat' first|apply ai|refine aj fun hc=>?_|((first|apply aO rfl|apply aP rfl|apply aQ rfl|apply aR rfl);(focus ((try (apply b8;(focus rfl);apply ah rfl rfl rfl rfl rfl));first|(exact Lm [] c1)));refine w0 ?_))
    refine aU ?_
    exact af rfl rfl
  ·rw [List.take_of_length_le (by omega),List.take_of_length_le (by omega)] at hpre
   rw [decide_eq_true hpre]
   clear hpre ol om hl hm
   (refine w0 ?_;repeat' first|apply ai|refine aj fun hc=>?_)
   refine aU ?_
   exact af rfl rfl
theorem tl {k:List Pc} (h:aY k):∀ p ∈ k,cg p.set:=fun p hp=>by
 obtain ⟨i,hi,rfl⟩:=List.getElem_of_mem hp
 exact (h i hi hi).2.2.1
theorem JE (a b:List Pc) (ha:fH a) (hb:fH b) (oa:aY a) (ob:aY b):Fn Tryz.prog 78 [gr a,gr b] (cw (decide (a = b))):=by
 have h1:=sx a oa ha
 have h2:=sx b ob hb
 have h3:=BM a b ha hb (tl oa) (tl ob)
 clear ha hb oa ob
 refine fi Tryz.func78 Tryz.ntmps78 ?_
 (refine lN h3 h1 h2 ?_;repeat' first|apply ai|refine aj fun hc=>?_)
 refine aU ?_
 exact af rfl rfl
end
theorem C9:∀ (l:List ByteArray) (n:ByteArray) (k:Nat),k ≤ l.length → (∀ j (h:j < l.length),j < k → l[j] < n) → (∀ h:k < l.length,¬ l[k] < n) →
 ((∃ h:k < l.length,l[k] = n) → fF l n = l) ∧ ((¬ ∃ h:k < l.length,l[k] = n) → fF l n = l.take k ++ n :: l.drop k):=by
 intro l
 induction l with
 | nil=>
  intro n k hk _ _
  obtain rfl:k = 0:=by simpa using hk
  exact ⟨fun ⟨h,_⟩=>by simp at h,fun _=>rfl⟩
 | cons x l ih=>
  intro n k hk h1 h2
  cases k with
  | zero=>
   have:=h2 (by simp)
   simp only [List.getElem_cons_zero] at this
   rw [fF,if_neg this]
   refine ⟨fun ⟨_,e⟩=>?_,fun e=>?_⟩
   ·simp only [List.getElem_cons_zero] at e
    rw [if_pos e]
   ·rw [if_neg (fun q=>e ⟨by simp,by simpa using q⟩)]
    rfl
  | succ k=>
   have h3:=h1 0 (by simp) (by omega)
   simp only [List.getElem_cons_zero] at h3
   have:=ih n k (by simpa using hk) (fun j hj hjk=>by have:=h1 (j + 1) (by simpa using hj) (by omega);simpa using this) (fun h=>by have:=h2 (by simpa using h);simpa using this)
   rw [fF,if_pos h3]
   refine ⟨fun ⟨h,e⟩=>?_,fun e=>?_⟩
   ·rw [this.1 ⟨by simpa using h,by simpa using e⟩]
   ·rw [this.2 (fun ⟨h,q⟩=>e ⟨by simpa using h,by simpa using q⟩)]
    rfl
abbrev PR (l:List ByteArray):PV:=cD 1 (l.map strP)
abbrev PS (l:List ByteArray):Cnt:=.per (PR l)
theorem EY (e:List ByteArray) (l:List Rg) (k:Nat) (h:k < l.length):iw e (l.take (k + 1)) = ji (iw e (l.take k)) l[k]:=by
 unfold iw
 rw [List.take_succ_eq_append_getElem h,List.foldl_append]
 rfl
theorem JF:∀ (l:List ByteArray) (n:ByteArray),(fF l n).length ≤ l.length + 1:=by
 intro l
 induction l with
 | nil=>intro n;simp [fF]
 | cons x l ih=>
  intro n
  rw [fF]
  split
  ·have:=ih n;simp;omega
  ·split <;> simp
theorem uY (X Y:List Kn):qs NQ X Y = ff ofR (X ++ Y):=by
 unfold qs ff
 rw [uH,← qt,List.map_zipWith]
 congr 1
 exact uI _ _ (fun t u _ _=>Iq t u)
section
theorem wL (l:List ByteArray) (n:ByteArray) (hl:l.length ≤ 1000000000) (hs:∀ t ∈ l,t.size ≤ 1000000000):Fn Tryz.prog 192 [PS l,sC n] (.per (PR (fF l n))):=by
 generalize hR:fF l n = R
 refine fi Tryz.func192 Tryz.ntmps192 ?_
 (refine w0 ?_;repeat' first|apply ai|refine aj fun hc=>?_)
 refine an (X:=Nat) (fun k=>k ≤ l.length ∧ ∀ j (h:j < l.length),j < k → l[j] < n)
  (fun k=>ba [(0,PS l),(1,sC n),(5,iC .i64 ((k:Nat):Int))] []) (fun k=>l.length - k) 0 ⟨Nat.zero_le _,fun j _ h=>by omega⟩ ?_ ?_
 ·exact ae
 ·rintro k ⟨h1,h2⟩
  by_cases hk:k < l.length
  ·have c0:=eZ l[k] n (by have:=hs _ (List.getElem_mem hk);omega)
   by_cases hlt:l[k] < n
   ·rw [decide_eq_true (show bu l[k] n < 0 from hlt)] at c0
    have h2':∀ j (h:j < l.length),j < k + 1 → l[j] < n:=fun j h hj=>by
     rcases Nat.lt_or_ge j k with q|q
     ·exact h2 j h q
     ·obtain rfl:j = k:=by omega
      exact hlt
    clear hR h2 hs hlt
    (refine az c0 ?_;repeat' first|apply ai|refine aj fun hc=>?_)
    refine ⟨k + 1,⟨hk,h2'⟩,by omega,?_⟩
    exact ae
   ·rw [decide_eq_false (show ¬ bu l[k] n < 0 from hlt)] at c0
    have hP:=C9 l n k h1 h2 (fun _=>hlt)
    by_cases he:l[k] = n
    ·have hR':l = R:=by rw [← hR,hP.1 ⟨hk,he⟩]
     clear hR hP h2 hs hlt
     (refine az c0 ?_;repeat' first|apply ai|refine aj fun hc=>?_)
     all_goals first
      | (exfalso;simp [he] at hc;done)
      | (refine aU ?_
         exact qU rfl hR')
    ·have hR':l.take k ++ n :: l.drop k = R:=by rw [← hR,hP.2 (fun ⟨_,q⟩=>he q)]
     clear hR hP h2 hs hlt
     (refine az c0 ?_;repeat' first|apply ai|refine aj fun hc=>?_)
     all_goals first
      | (exfalso;rw [ip] at hc;exact he hc)
      | (refine jx (b7 34 700 9 1 rfl rfl) ?_
         (refine w0 ?_;repeat' first|apply ai|refine aj fun hc=>?_)
         refine ⟨.inl rfl,mL (je 700 _ 9 1 rfl rfl) (Ah rfl (rq rfl (by rw [← hR'];simp [List.map_take,List.map_drop];rfl)))⟩)
  ·have hP:=C9 l n k h1 h2 (fun h=>absurd h hk)
   have hR':l.take k ++ n :: l.drop k = R:=by rw [← hR,hP.2 (fun ⟨q,_⟩=>hk q)]
   clear hR hP h2 hs
   (refine w0 ?_;repeat' first|apply ai|refine aj fun hc=>?_)
   refine jx (b7 34 700 9 1 rfl rfl) ?_
   (refine w0 ?_;repeat' first|apply ai|refine aj fun hc=>?_)
   refine ⟨.inl rfl,mL (je 700 _ 9 1 rfl rfl) (Ah rfl (rq rfl (by rw [← hR'];simp [List.map_take,List.map_drop];rfl)))⟩
theorem EZ (A B:List Rg) (hA:A.length ≤ 1000000) (hB:B.length ≤ 1000000):Fn Tryz.prog 147 [dS A,dS B] (.per (PR (iw [emB] (A ++ B)))):=by
 have hmem:∀ k,∀ t ∈ iw [emB] ((A ++ B).take k),t.size ≤ 1000000000:=fun k t ht=>by
  rcases (e8 _ _ _).1 ht with h|⟨r,_,h1,h2⟩
  ·have h:t = emB:=by simpa using h
   rw [h];decide
  ·have:=(bT r).1 h1
   rcases h2 with h2|⟨_,h2⟩ <;> rw [h2] <;> omega
 have hlen:∀ k,(iw [emB] ((A ++ B).take k)).length ≤ 10000000:=fun k=>by
  have h1:=jY ((A ++ B).take k) [emB]
  have h2:((A ++ B).take k).length ≤ A.length + B.length:=by rw [List.length_take,List.length_append];omega
  simp only [List.length_cons,List.length_nil] at h1
  omega
 refine fi Tryz.func147 Tryz.ntmps147 ?_
 (repeat' (first|refine fS ?_|refine dx ?_|refine ei ?_|refine ej ?_|refine fT ?_|refine cO ?_|refine e9 gK ?_|refine fQ ?_|refine fR (by kernel_rfl) ?_|(refine nf rfl rfl ⟨fun hc=>?_,fun hc=>?_⟩ <;> (repeat rw [List.length_map] at hc) <;> (try exact gg hc))|((first|apply aO rfl|apply aP rfl|apply aQ rfl|apply aR rfl);focus (first|((apply bn 15;(focus rfl);solve|(apply fb <;> first|exact ⟨rfl,rfl,rfl⟩|rfl|infer_instance|(repeat (first|exact cv.nil|(apply cv.cons;(focus (first|exact bx rfl rfl rfl|exact fx rfl|exact fy rfl))))))))|(apply b8;(focus rfl);apply ah rfl rfl rfl rfl rfl;((apply bn 15;(focus rfl);solve|(apply fb <;> first|exact ⟨rfl,rfl,rfl⟩|rfl|infer_instance|(repeat (first|exact cv.nil|(apply cv.cons;(focus (first|exact bx rfl rfl rfl|exact fx rfl|exact fy rfl)))))))))|exact iH|fail))|refine ep ?_|refine eu ?_|refine ev ?_|refine jb ?_|refine jc ?_|refine ew ?_|refine dy rfl ?_|((first|refine ng rfl rfl rfl ⟨fun hc=>?_,fun hc=>?_⟩|refine nh rfl rfl rfl ⟨fun hc=>?_,fun hc=>?_⟩) <;> (fail_if_success (have q:(true = true):=hc)) <;> (fail_if_success (have q:(false = false):=hc)) <;> (repeat rw [List.length_map] at hc) <;> (try exact gg hc))|refine cX rfl rfl (fun hc=>?_) ?_))
 refine bZ (je 8 _ 9 1 rfl rfl) ?_
 refine an (X:=Nat) (fun k=>k ≤ A.length + B.length)
  (fun k=>ba [(0,dS A),(1,dS B),(5,PS (iw [emB] ((A ++ B).take k))),(6,iC .i64 ((k:Nat):Int))] []) (fun k=>A.length + B.length - k) 0 (Nat.zero_le _) ?_ ?_
 ·exact ae
 ·intro k hk
  by_cases hlt:k < A.length + B.length
  ·have hlt':k < (A ++ B).length:=by rw [List.length_append];exact hlt
   have hs:=EY [emB] (A ++ B) k hlt'
   have hm:=hmem k
   have hl:=hlen k
   have hm2:=hmem (k + 1)
   generalize iw [emB] ((A ++ B).take k) = E at *
   obtain ⟨r,hr⟩:∃ r,r = (A ++ B)[k]:=⟨_,rfl⟩
   rw [← hr] at hs
   have c0:=jz r
   have c1:=wL E r.lo (by omega) hm
   have hp:=JF E r.lo
   have hpm:eO r = true → ∀ t ∈ fF E r.lo,t.size ≤ 1000000000:=fun h t ht=>by
    rcases (lW _ _ _).1 ht with q|q
    ·rw [q];have:=(bT r).1 h;omega
    ·exact hm t q
   clear hmem hlen hm2 hm
   by_cases hkA:k < A.length
   ·have hrA:A[k] = r:=by rw [hr,List.getElem_append_left hkA]
    rw [← hrA] at c0 c1 hs hp hpm
    clear hr hrA
    cases hR:eO A[k] with
    | false=>
     rw [hR] at c0
     rw [ji,if_neg (by simp [hR])] at hs
     (refine az c0 ?_;repeat' first|apply ai|refine aj fun hc=>?_)
     refine ⟨k + 1,hlt,by omega,?_⟩
     rw [hs]
     exact ae
    | true=>
     rw [hR] at c0
     rw [ji,if_pos hR] at hs
     have hpm:=hpm hR
     cases hO:A[k].op with
     | true=>
      rw [if_pos hO] at hs
      generalize fF E A[k].lo = E1 at *
      (refine Hb c0 c1 ?_;repeat' first|apply ai|refine aj fun hc=>?_)
      all_goals first
       | (exfalso;simp [hO] at hc;done)
       | (refine ⟨k + 1,hlt,by omega,?_⟩
          rw [hs]
          exact ae)
     | false=>
      rw [if_neg (by simp [hO])] at hs
      have c2:=wL (fF E A[k].lo) A[k].hi (by omega) hpm
      generalize fF E A[k].lo = E1 at *
      generalize fF E1 A[k].hi = E2 at *
      (refine eV c0 c1 c2 ?_;repeat' first|apply ai|refine aj fun hc=>?_)
      all_goals first
       | (exfalso;simp [hO] at hc;done)
       | (refine ⟨k + 1,hlt,by omega,?_⟩
          rw [hs]
          exact ae)
   ·have hkB:k - A.length < B.length:=by omega
    have hrB:B[k - A.length] = r:=by rw [hr,List.getElem_append_right (by omega)]
    have eK:((k:Nat):Int) - ((A.length:Nat):Int) = ((k - A.length:Nat):Int):=by omega
    rw [← hrB] at c0 c1 hs hp hpm
    clear hr hrB
    cases hR:eO B[k - A.length] with
    | false=>
     rw [hR] at c0
     rw [ji,if_neg (by simp [hR])] at hs
     (refine bU eK c0 ?_;repeat' first|apply ai|refine aj fun hc=>?_)
     refine ⟨k + 1,hlt,by omega,?_⟩
     rw [hs]
     exact ae
    | true=>
     rw [hR] at c0
     rw [ji,if_pos hR] at hs
     have hpm:=hpm hR
     cases hO:B[k - A.length].op with
     | true=>
      rw [if_pos hO] at hs
      generalize fF E B[k - A.length].lo = E1 at *
      (have ke1:=Lib.hid (eK);have kc1:=c0;have kf1:=c1;refine qp ?_;(repeat' first|apply ai|refine aj fun hc=>?_);all_goals clear kf1 kc1 ke1)
      all_goals first
       | (exfalso;simp [hO] at hc;done)
       | (refine ⟨k + 1,hlt,by omega,?_⟩
          rw [hs]
          exact ae)
     | false=>
      rw [if_neg (by simp [hO])] at hs
      have c2:=wL (fF E B[k - A.length].lo) B[k - A.length].hi (by omega) hpm
      generalize fF E B[k - A.length].lo = E1 at *
      generalize fF E1 B[k - A.length].hi = E2 at *
      (have ke1:=Lib.hid (eK);have kc1:=c0;have kf1:=c1;have kf2:=c2;refine qp ?_;(repeat' first|apply ai|refine aj fun hc=>?_);all_goals clear kf2 kf1 kc1 ke1)
      all_goals first
       | (exfalso;simp [hO] at hc;done)
       | (refine ⟨k + 1,hlt,by omega,?_⟩
          rw [hs]
          exact ae)
  ·rw [List.take_of_length_le (by rw [List.length_append];omega)]
   generalize iw [emB] (A ++ B) = E at *
   (refine w0 ?_;repeat' first|apply ai|refine aj fun hc=>?_)
   refine aU ?_
   exact qU rfl rfl
end
end Go.Proofs.YtliiahjpiagdkaaGreat
