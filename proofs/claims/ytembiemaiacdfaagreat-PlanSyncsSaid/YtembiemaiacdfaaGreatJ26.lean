/- Texts joined: WkB StR Rkp Rkq. -/
import Derived.Test.YtembiemaiacdfaaGreatJ25
import Derived.Test.YtembiemaiacdfaaGreatJ05
import Derived.Test.YtembiemaiacdfaaGreatJ19
import Derived.Test.YtembiemaiacdfaaGreatJ22
import Derived.Test.YtembiemaiacdfaaGreatJ24
set_option maxRecDepth 10000
set_option maxHeartbeats 8000000
namespace Go.Proofs.YtembiemaiacdfaaGreat
open Go.RowKit
theorem Jn {n:Nat} {S:St} (id vr e k:Nat) (es es':List (List PV)) (hv:S.ver id = vr) (hb:S.blk id = .row e k es) (hl:es.length = es'.length) (h:∀ (i:Nat) (ps':List PV),es'[i]? = some ps' → ∃ ps,es[i]? = some ps ∧ PW ps ps'):Le n S (S.putB [(id,vr,.row e k es')]):=by
 rintro C a w ⟨g,hR⟩
 have hB:=hR.blks id
 rw [hb] at hB
 refine ⟨g,F2 hR hv ?_⟩
 rcases hB with ⟨q1,q2⟩|⟨cap,cs,q1,q2,q3,q4,q5,q6,q7⟩
 · refine .inl ⟨q1,?_⟩
   rw [q2] at hl
   exact List.eq_nil_of_length_eq_zero hl.symm
 · refine .inr ⟨cap,cs,by rw [← hl];exact q1,q2,q3,by omega,q5,q6,fun i ps' hi=>?_⟩
   obtain ⟨ps,r1,r2⟩:=h i ps' hi
   obtain ⟨t1,t2⟩:=q7 i ps r1
   refine ⟨by rw [← t1,r2.len],fun j B hj=>?_⟩
   obtain ⟨A,u1,u2⟩:=r2.get j B hj
   obtain ⟨y,z1,z2,z3⟩:=t2 j A u1
   exact ⟨y,z1,z2,u2 _ _ _ z3⟩
def np (f:List Rg):List Pc:=f.map fun r=>⟨r,[]⟩
theorem F5 (k:List Pc) (f:List Rg):fN (k ++ np f) = kn k f:=by
 have e:np f = f.map fun r=>(⟨r,[]⟩:Pc):=rfl
 unfold fN kn bB
 rw [List.map_append,e,List.map_map]
 congr 2
 have:(Pc.rg ∘ fun r=>(⟨r,[]⟩:Pc)) = id:=rfl
 rw [this,List.map_id]
theorem F6 (k:List Pc) (f:List Rg):(kn k f).length ≤ 1 + 2 * (k.length + f.length):=by
 have:=jC (bB k ++ f) [emB]
 unfold kn
 unfold bB at *
 simp only [List.length_cons,List.length_nil,List.length_append,List.length_map,Nat.zero_add] at this
 exact this
theorem Jo {k:List Pc} {f:List Rg} {m:ByteArray} (h:m ∈ kn k f):m.size ≤ 1000000000:=by
 have:=uo k f m h;omega
theorem qN {k:List Pc} (hk:b0 k) (f:List Rg) (s:ByteArray):cD (iH k f s):=by
 unfold iH
 split
 · have:=uc hk s
   exact ⟨by omega,by omega⟩
 · exact ⟨by simp,by simp⟩
abbrev LU (r:Rg):List PV:=[aq (.string r.lo),aq (.string r.hi),aq (.bool r.op),aq (.slice none 0 0)]
section
theorem Jp (k:List Pc) (f:List Rg) (s:ByteArray) (hk:b0 k) (hf:cV f) (hfl:f.length ≤ 1000000) (hs:s.size ≤ 1000000000) :
   Fn Tryz.prog 94 [sC s,.per (eo [eB f]),.per (eo [ff k])] (kx (iH k f s)):=by
 have h1:=qL f s hf (by omega) hs
 have h2:=J7 k s hk hs
 unfold iH
 cases hh:bg f s with
 | false=>
   rw [hh] at h1
   simp only [Bool.false_eq_true,if_false]
   refine fi Tryz.func94 Tryz.ntmps94 ?_
   (have kc1:=h1;refine w0 ?_;(repeat' first|refine W2.mk ?_ ?_|refine W1.mk fun hc=>?_);all_goals clear kc1)
   refine aQ ?_
   exact tC rfl
 | true=>
   rw [hh] at h1
   simp only [if_true]
   generalize fh k s = A at *
   refine fi Tryz.func94 Tryz.ntmps94 ?_
   (have kc1:=h1;have kc2:=h2;refine w0 ?_;(repeat' first|refine W2.mk ?_ ?_|refine W1.mk fun hc=>?_);all_goals clear kc2 kc1)
   refine aQ ?_
   exact cv rfl rfl rfl
theorem lc (k:List Pc) (f:List Rg) (hk:b0 k) (hf:cV f) (hfl:f.length ≤ 100000) (hkl:k.length ≤ 500000) (hof:Fn Tryz.prog 91 [dg f] (wK f)) :
   Fn Tryz.prog 50 [gM k,.per (eB f)] (k5 (aR k f)):=by
 have h0:=hof.frz
 have h1:=ww [k,np f] (by simp) (by simp [np];omega)
 have e1:[k,np f].flatten = k ++ np f:=by simp
 rw [e1,F5] at h1
 have hlE:=F6 k f
 have h2:=wy 94 [eo [eB f],eo [ff k]] (iH k f) (kn k f) (by omega) (fun s hs=>(Jp k f s hk hf (by omega) (Jo hs)).frz.toM) (fun s _=>AN k f s) (fun s _=>qN hk f s)
 rw [show kB (iH k f) (kn k f) = aR k f from rfl] at h2
 generalize aR k f = R at *
 generalize kn k f = E at *
 clear hlE e1 hk
 refine fi Tryz.func50 Tryz.ntmps50 ?_
 (have kc1:=h0;refine w0 ?_;(repeat' first|refine W2.mk ?_ ?_|refine W1.mk fun hc=>?_);all_goals clear kc1)
 refine ck (bz 6 700 110 4 rfl rfl) ?_
 refine ah (X:=Nat) (fun i=>i ≤ f.length) (fun i=>aN [(2,.ptr 2 0 0),(5,.ptr 5 0 0),(6,.row 700 0),(11,.per (eB f)),(12,iC .i64 (f.length:Nat)),(13,iC .i64 (i:Nat))] [(2,.box 24 [gM k]),(5,.box 22 [.per (eB f)]),(700,.row 110 4 ((f.take i).map LU))]) (fun i=>f.length - i) 0 (Nat.zero_le _) ?_ ?_
 · exact ab
 · intro i hi
   by_cases hlt:i < f.length
   · have hsn:f.take (i + 1) = f.take i ++ [f[i]]:=by rw [List.take_succ_eq_append_getElem hlt]
     have hlk:(f.take i).length ≤ i:=by rw [List.length_take];omega
     generalize f.take i = A at *
     clear h0 h1 h2
     (refine w0 ?_;(repeat' first|refine W2.mk ?_ ?_|refine W1.mk fun hc=>?_))
     refine ⟨i + 1,hlt,by omega,ak (aM 700 701) (ak (aM 701 700) ?_)⟩
     rw [hsn]
     exact ab
   · rw [List.take_of_length_le (show f.length ≤ i by omega)]
     clear h0
     refine ck (Jn 700 _ 110 4 _ ((np f).map pcP) rfl rfl (by simp [np]) (fun j ps' hj=>?_)) ?_
     · unfold np at hj
       rw [List.map_map,List.getElem?_map] at hj
       cases hq:f[j]? with
       | none=>rw [hq] at hj;cases hj
       | some r=>
         rw [hq] at hj;cases hj
         refine ⟨LU r,by rw [List.getElem?_map,hq];rfl,?_⟩
         (repeat (first|exact PW.nil|(refine PW.cons (by first|exact Dr.refl|exact uv) ?_)))
     refine ck (iv 700 _ 110 4 rfl rfl) (ck (tH 2 _ 24 rfl rfl rfl) (ck (tH 5 _ 22 rfl rfl rfl) ?_))
     (repeat' (first|refine cN ?_|refine bD ?_|refine cc ?_|refine cd ?_|refine cO ?_|refine bi ?_|refine db dX ?_|refine cL ?_|refine cM (by kernel_rfl) ?_|(refine gw rfl rfl ⟨fun hc=>?_,fun hc=>?_⟩ <;> (repeat rw [List.length_map] at hc) <;> (try exact dy hc))|((first|apply aD rfl|apply aF rfl|apply aG rfl|apply aH rfl);focus (first|((apply az 22;(focus rfl);exact AH ⟨rfl,rfl,rfl⟩ rfl rfl rfl))|(apply bx;(focus rfl);apply ag rfl rfl rfl rfl rfl;((apply az 22;(focus rfl);exact AH ⟨rfl,rfl,rfl⟩ rfl rfl rfl)))|exact dY|((refine Dq (h1) (hg:=?_);((repeat (first|exact GL.nil|(refine GL.cons ?_ ?_;focus (first|exact aU rfl|exact bc rfl|exact bX rfl rfl rfl|exact bd rfl|exact bZ rfl|exact bt rfl))));done)))|(apply bx;(focus rfl);apply ag rfl rfl rfl rfl rfl;((refine Dq (h1) (hg:=?_);((repeat (first|exact GL.nil|(refine GL.cons ?_ ?_;focus (first|exact aU rfl|exact bc rfl|exact bX rfl rfl rfl|exact bd rfl|exact bZ rfl|exact bt rfl))));done))))|((refine Dq (h2) (hg:=?_);((repeat (first|exact GL.nil|(refine GL.cons ?_ ?_;focus (first|exact aU rfl|exact bc rfl|exact bX rfl rfl rfl|exact bd rfl|exact bZ rfl|exact bt rfl))));done)))|(apply bx;(focus rfl);apply ag rfl rfl rfl rfl rfl;((refine Dq (h2) (hg:=?_);((repeat (first|exact GL.nil|(refine GL.cons ?_ ?_;focus (first|exact aU rfl|exact bc rfl|exact bX rfl rfl rfl|exact bd rfl|exact bZ rfl|exact bt rfl))));done))))|fail))|refine ce ?_|refine cg ?_|refine ci ?_|refine d8 ?_|refine d9 ?_|refine cj ?_|refine bF rfl ?_|((first|refine gx rfl rfl rfl ⟨fun hc=>?_,fun hc=>?_⟩|refine gy rfl rfl rfl ⟨fun hc=>?_,fun hc=>?_⟩) <;> (fail_if_success (have q:(true = true):=hc)) <;> (fail_if_success (have q:(false = false):=hc)) <;> (repeat rw [List.length_map] at hc) <;> (try exact dy hc))|refine br rfl rfl (fun hc=>?_) ?_))
     refine aQ ?_
     exact cv rfl rfl rfl
theorem F7 (p q:Pc) (hp:bK p.set) (hq:bK q.set) (tp:cD p.set) (tq:cD q.set):el Tryz.prog 164 [MO p,MO q] [] (bC (decide (p = q))) []:=by
 have h1:=Av p.set q.set p.set q.set (kY p.set tp hp) (kY q.set tq hq) tp.sz
 have hEo:=vT p.rg q.rg
 have hE:p = q ↔ p.rg = q.rg ∧ p.set = q.set:=by cases p;cases q;simp
 clear hp hq tp tq
 by_cases e1:p.rg = q.rg
 · rw [(kd _ _).2 e1] at hEo
   by_cases e2:p.set = q.set
   · rw [decide_eq_true (hE.2 ⟨e1,e2⟩)]
     rw [decide_eq_true e2] at h1
     clear hE e2 e1
     refine fm Tryz.func164 Tryz.ntmps164 ?_
     (have kc1:=h1;refine w0 ?_;(repeat' (first|refine W2.mk ?_ ?_|refine W1.mk fun hc=>?_|((first|apply aD rfl|apply aF rfl|apply aG rfl|apply aH rfl);(focus (first|(exact bJ (us:=encRg p.rg) (vs:=encRg q.rg) ⟨rfl,rfl,rfl⟩ rfl rfl rfl (by first|exact .inl ⟨rfl,rfl⟩|exact .inr ⟨rfl,rfl⟩) xN rfl hEo)|((apply az 5;(focus rfl);first|exact ar ⟨rfl,rfl,rfl⟩ rfl inferInstance inferInstance rfl rfl rfl rfl|exact au ⟨rfl,rfl,rfl⟩ rfl inferInstance inferInstance rfl rfl rfl rfl))|(apply bx;(focus rfl);apply ag rfl rfl rfl rfl rfl;first|(exact bJ (us:=encRg p.rg) (vs:=encRg q.rg) ⟨rfl,rfl,rfl⟩ rfl rfl rfl (by first|exact .inl ⟨rfl,rfl⟩|exact .inr ⟨rfl,rfl⟩) xN rfl hEo)|((apply az 5;(focus rfl);first|exact ar ⟨rfl,rfl,rfl⟩ rfl inferInstance inferInstance rfl rfl rfl rfl|exact au ⟨rfl,rfl,rfl⟩ rfl inferInstance inferInstance rfl rfl rfl rfl)))));refine w0 ?_)));all_goals clear kc1)
     (refine ⟨(by first|exact .inl rfl|exact .inr rfl),bR [] rfl rfl .nil ?_⟩)
     exact jv rfl (by first|rfl|(simp;done))
   · rw [decide_eq_false (fun h=>e2 (hE.1 h).2)]
     rw [decide_eq_false e2] at h1
     clear hE e2 e1
     refine fm Tryz.func164 Tryz.ntmps164 ?_
     (have kc1:=h1;refine w0 ?_;(repeat' (first|refine W2.mk ?_ ?_|refine W1.mk fun hc=>?_|((first|apply aD rfl|apply aF rfl|apply aG rfl|apply aH rfl);(focus (first|(exact bJ (us:=encRg p.rg) (vs:=encRg q.rg) ⟨rfl,rfl,rfl⟩ rfl rfl rfl (by first|exact .inl ⟨rfl,rfl⟩|exact .inr ⟨rfl,rfl⟩) xN rfl hEo)|((apply az 5;(focus rfl);first|exact ar ⟨rfl,rfl,rfl⟩ rfl inferInstance inferInstance rfl rfl rfl rfl|exact au ⟨rfl,rfl,rfl⟩ rfl inferInstance inferInstance rfl rfl rfl rfl))|(apply bx;(focus rfl);apply ag rfl rfl rfl rfl rfl;first|(exact bJ (us:=encRg p.rg) (vs:=encRg q.rg) ⟨rfl,rfl,rfl⟩ rfl rfl rfl (by first|exact .inl ⟨rfl,rfl⟩|exact .inr ⟨rfl,rfl⟩) xN rfl hEo)|((apply az 5;(focus rfl);first|exact ar ⟨rfl,rfl,rfl⟩ rfl inferInstance inferInstance rfl rfl rfl rfl|exact au ⟨rfl,rfl,rfl⟩ rfl inferInstance inferInstance rfl rfl rfl rfl)))));refine w0 ?_)));all_goals clear kc1)
     (refine ⟨(by first|exact .inl rfl|exact .inr rfl),bR [] rfl rfl .nil ?_⟩)
     exact jv rfl (by first|rfl|(simp;done))
 · rw [decide_eq_false (fun h=>e1 (hE.1 h).1)]
   have he:Ls p.rg q.rg = false:=by rw [← Bool.not_eq_true,kd];exact e1
   rw [he] at hEo
   clear hE e1 he
   refine fm Tryz.func164 Tryz.ntmps164 ?_
   (have kc1:=h1;refine w0 ?_;(repeat' (first|refine W2.mk ?_ ?_|refine W1.mk fun hc=>?_|((first|apply aD rfl|apply aF rfl|apply aG rfl|apply aH rfl);(focus (first|(exact bJ (us:=encRg p.rg) (vs:=encRg q.rg) ⟨rfl,rfl,rfl⟩ rfl rfl rfl (by first|exact .inl ⟨rfl,rfl⟩|exact .inr ⟨rfl,rfl⟩) xN rfl hEo)|((apply az 5;(focus rfl);first|exact ar ⟨rfl,rfl,rfl⟩ rfl inferInstance inferInstance rfl rfl rfl rfl|exact au ⟨rfl,rfl,rfl⟩ rfl inferInstance inferInstance rfl rfl rfl rfl))|(apply bx;(focus rfl);apply ag rfl rfl rfl rfl rfl;first|(exact bJ (us:=encRg p.rg) (vs:=encRg q.rg) ⟨rfl,rfl,rfl⟩ rfl rfl rfl (by first|exact .inl ⟨rfl,rfl⟩|exact .inr ⟨rfl,rfl⟩) xN rfl hEo)|((apply az 5;(focus rfl);first|exact ar ⟨rfl,rfl,rfl⟩ rfl inferInstance inferInstance rfl rfl rfl rfl|exact au ⟨rfl,rfl,rfl⟩ rfl inferInstance inferInstance rfl rfl rfl rfl)))));refine w0 ?_)));all_goals clear kc1)
   (refine ⟨(by first|exact .inl rfl|exact .inr rfl),bR [] rfl rfl .nil ?_⟩)
   exact jv rfl (by first|rfl|(simp;done))
abbrev LV:Cnt:=.per (aq (.func (.func 164) #[] #[]))
theorem zk (l m:List Pc) (hl:eV l) (hm:eV m) (ol:∀ p ∈ l,bK p.set) (om:∀ p ∈ m,bK p.set):Fn Tryz.prog 163 [bS l,bS m,LV] (bO (decide (l = m))):=by
 have hl0:=hl.1
 refine fi Tryz.func163 Tryz.ntmps163 ?_
 (refine w0 ?_;(repeat' first|refine W2.mk ?_ ?_|refine W1.mk fun hc=>?_))
 · refine aQ ?_
   exact af rfl (by symm;rw [decide_eq_false_iff_not];intro h;subst h;omega)
 have hlm:l.length = m.length:=by omega
 refine ah (fun k=>k ≤ l.length ∧ l.take k = m.take k) (fun k=>aN [(1,bS m),(2,LV),(15,bS l),(16,iC .i64 (l.length:Nat)),(17,iC .i64 (k:Nat))] []) (fun k=>l.length - k) 0 ⟨Nat.zero_le _,rfl⟩ ?_ ?_
 · exact ab
 · rintro k ⟨hk,hpre⟩
   by_cases hlt:k < l.length
   · have hltm:k < m.length:=by omega
     have c1:=F7 l[k] m[k] (ol _ (List.getElem_mem hlt)) (om _ (List.getElem_mem hltm)) (hl.at hlt) (hm.at hltm)
     clear ol om hl hm
     by_cases he:l[k] = m[k]
     · rw [decide_eq_true he] at c1
       (refine w0 ?_;(repeat' (first|refine W2.mk ?_ ?_|refine W1.mk fun hc=>?_|((first|apply aD rfl|apply aF rfl|apply aG rfl|apply aH rfl);(focus (first|(exact vO [] c1)|(apply bx;(focus rfl);apply ag rfl rfl rfl rfl rfl;first|(exact vO [] c1))));refine w0 ?_))))
       refine ⟨k + 1,⟨by omega,?_⟩,by omega,?_⟩
       · rw [aJ l k hlt,aJ m k hltm,hpre,he]
       · exact ab
     · rw [decide_eq_false he] at c1
       have hd:¬ l = m:=fun h=>he (by subst h;rfl)
       rw [decide_eq_false hd]
       clear hd he
       (refine w0 ?_;(repeat' (first|refine W2.mk ?_ ?_|refine W1.mk fun hc=>?_|((first|apply aD rfl|apply aF rfl|apply aG rfl|apply aH rfl);(focus (first|(exact vO [] c1)|(apply bx;(focus rfl);apply ag rfl rfl rfl rfl rfl;first|(exact vO [] c1))));refine w0 ?_))))
       refine aQ ?_
       exact af rfl rfl
   · rw [List.take_of_length_le (by omega),List.take_of_length_le (by omega)] at hpre
     rw [decide_eq_true hpre]
     clear hpre ol om hl hm
     (refine w0 ?_;(repeat' first|refine W2.mk ?_ ?_|refine W1.mk fun hc=>?_))
     refine aQ ?_
     exact af rfl rfl
theorem qO {k:List Pc} (h:aO k):∀ p ∈ k,bK p.set:=fun p hp=>by
 obtain ⟨i,hi,rfl⟩:=List.getElem_of_mem hp
 exact (h i hi hi).2.2.1
theorem F8 (a b:List Pc) (ha:eV a) (hb:eV b) (oa:aO a) (ob:aO b):Fn Tryz.prog 118 [gM a,gM b] (bO (decide (a = b))):=by
 have h1:=qz a oa ha
 have h2:=qz b ob hb
 have h3:=zk a b ha hb (qO oa) (qO ob)
 clear ha hb oa ob
 refine fi Tryz.func118 Tryz.ntmps118 ?_
 (have ko1:=h1;have ko2:=h2;have kc1:=h3;refine w0 ?_;(repeat' first|refine W2.mk ?_ ?_|refine W1.mk fun hc=>?_);all_goals clear kc1 ko2 ko1)
 refine aQ ?_
 exact af rfl rfl
end
theorem AU:∀ (l:List ByteArray) (n:ByteArray) (k:Nat),k ≤ l.length → (∀ j (h:j < l.length),j < k → l[j] < n) → (∀ h:k < l.length,¬ l[k] < n) →
   ((∃ h:k < l.length,l[k] = n) → eT l n = l) ∧ ((¬ ∃ h:k < l.length,l[k] = n) → eT l n = l.take k ++ n :: l.drop k):=by
 intro l
 induction l with
 | nil=>
   intro n k hk _ _
   obtain rfl:k = 0:=by simpa using hk
   exact ⟨fun ⟨h,_⟩=>by simp at h,fun _=>rfl⟩
 | cons x l ih=>
   intro n k hk h1 h2
   cases k with
   | zero=>
     have:=h2 (by simp)
     simp only [List.getElem_cons_zero] at this
     rw [eT,if_neg this]
     refine ⟨fun ⟨_,e⟩=>?_,fun e=>?_⟩
     · simp only [List.getElem_cons_zero] at e
       rw [if_pos e]
     · rw [if_neg (fun q=>e ⟨by simp,by simpa using q⟩)]
       rfl
   | succ k=>
     have h3:=h1 0 (by simp) (by omega)
     simp only [List.getElem_cons_zero] at h3
     have:=ih n k (by simpa using hk) (fun j hj hjk=>by have:=h1 (j + 1) (by simpa using hj) (by omega);simpa using this) (fun h=>by have:=h2 (by simpa using h);simpa using this)
     rw [eT,if_pos h3]
     refine ⟨fun ⟨h,e⟩=>?_,fun e=>?_⟩
     · rw [this.1 ⟨by simpa using h,by simpa using e⟩]
     · rw [this.2 (fun ⟨h,q⟩=>e ⟨by simpa using h,by simpa using q⟩)]
       rfl
abbrev Mm (l:List ByteArray):PV:=ct 1 (l.map strP)
abbrev Mn (l:List ByteArray):Cnt:=.per (Mm l)
theorem CD (e:List ByteArray) (l:List Rg) (k:Nat) (h:k < l.length):gF e (l.take (k + 1)) = iB (gF e (l.take k)) l[k]:=by
 unfold gF
 rw [List.take_succ_eq_append_getElem h,List.foldl_append]
 rfl
theorem F9:∀ (l:List ByteArray) (n:ByteArray),(eT l n).length ≤ l.length + 1:=by
 intro l
 induction l with
 | nil=>intro n;simp [eT]
 | cons x l ih=>
   intro n
   rw [eT]
   split
   · have:=ih n;simp;omega
   · split <;> simp
theorem sH (X Y:List Kn):oU KO X Y = em ofR (X ++ Y):=by
 unfold oU em
 rw [sv,← jd,List.map_zipWith]
 congr 1
 exact sw _ _ (fun t u _ _=>FC t u)
section
theorem uw (l:List ByteArray) (n:ByteArray) (hl:l.length ≤ 1000000000) (hs:∀ t ∈ l,t.size ≤ 1000000000):Fn Tryz.prog 149 [Mn l,sC n] (.per (Mm (eT l n))):=by
 generalize hR:eT l n = R
 refine fi Tryz.func149 Tryz.ntmps149 ?_
 (refine w0 ?_;(repeat' first|refine W2.mk ?_ ?_|refine W1.mk fun hc=>?_))
 refine ah (X:=Nat) (fun k=>k ≤ l.length ∧ ∀ j (h:j < l.length),j < k → l[j] < n)
   (fun k=>aN [(0,Mn l),(1,sC n),(5,iC .i64 ((k:Nat):Int))] []) (fun k=>l.length - k) 0 ⟨Nat.zero_le _,fun j _ h=>by omega⟩ ?_ ?_
 · exact ab
 · rintro k ⟨h1,h2⟩
   by_cases hk:k < l.length
   · have c0:=eR l[k] n (by have:=hs _ (List.getElem_mem hk);omega)
     by_cases hlt:l[k] < n
     · rw [decide_eq_true (show bG l[k] n < 0 from hlt)] at c0
       have h2':∀ j (h:j < l.length),j < k + 1 → l[j] < n:=fun j h hj=>by
         rcases Nat.lt_or_ge j k with q|q
         · exact h2 j h q
         · obtain rfl:j = k:=by omega
           exact hlt
       clear hR h2 hs hlt
       (have kc1:=c0;refine w0 ?_;(repeat' first|refine W2.mk ?_ ?_|refine W1.mk fun hc=>?_);all_goals clear kc1)
       refine ⟨k + 1,⟨hk,h2'⟩,by omega,?_⟩
       exact ab
     · rw [decide_eq_false (show ¬ bG l[k] n < 0 from hlt)] at c0
       have hP:=AU l n k h1 h2 (fun _=>hlt)
       by_cases he:l[k] = n
       · have hR':l = R:=by rw [← hR,hP.1 ⟨hk,he⟩]
         clear hR hP h2 hs hlt
         (have kc1:=c0;refine w0 ?_;(repeat' first|refine W2.mk ?_ ?_|refine W1.mk fun hc=>?_);all_goals clear kc1)
         all_goals first
           | (exfalso;simp [he] at hc;done)
           | (refine aQ ?_
              exact pc rfl hR')
       · have hR':l.take k ++ n :: l.drop k = R:=by rw [← hR,hP.2 (fun ⟨_,q⟩=>he q)]
         clear hR hP h2 hs hlt
         (have kc1:=c0;refine w0 ?_;(repeat' first|refine W2.mk ?_ ?_|refine W1.mk fun hc=>?_);all_goals clear kc1)
         all_goals first
           | (exfalso;rw [gz] at hc;exact he hc)
           | (refine js (bz 34 700 9 1 rfl rfl) ?_
              (refine w0 ?_;(repeat' first|refine W2.mk ?_ ?_|refine W1.mk fun hc=>?_))
              refine ⟨.inl rfl,j7 (iv 700 _ 9 1 rfl rfl) (DW rfl (pw rfl (by rw [← hR'];simp [List.map_take,List.map_drop];rfl)))⟩)
   · have hP:=AU l n k h1 h2 (fun h=>absurd h hk)
     have hR':l.take k ++ n :: l.drop k = R:=by rw [← hR,hP.2 (fun ⟨q,_⟩=>hk q)]
     clear hR hP h2 hs
     (refine w0 ?_;(repeat' first|refine W2.mk ?_ ?_|refine W1.mk fun hc=>?_))
     refine js (bz 34 700 9 1 rfl rfl) ?_
     (refine w0 ?_;(repeat' first|refine W2.mk ?_ ?_|refine W1.mk fun hc=>?_))
     refine ⟨.inl rfl,j7 (iv 700 _ 9 1 rfl rfl) (DW rfl (pw rfl (by rw [← hR'];simp [List.map_take,List.map_drop];rfl)))⟩
theorem CE (A B:List Rg) (hA:A.length ≤ 1000000) (hB:B.length ≤ 1000000):Fn Tryz.prog 97 [dg A,dg B] (.per (Mm (gF [emB] (A ++ B)))):=by
 have hmem:∀ k,∀ t ∈ gF [emB] ((A ++ B).take k),t.size ≤ 1000000000:=fun k t ht=>by
   rcases (gG _ _ _).1 ht with h|⟨r,_,h1,h2⟩
   · have h:t = emB:=by simpa using h
     rw [h];decide
   · have:=(bH r).1 h1
     rcases h2 with h2|⟨_,h2⟩ <;> rw [h2] <;> omega
 have hlen:∀ k,(gF [emB] ((A ++ B).take k)).length ≤ 10000000:=fun k=>by
   have h1:=jC ((A ++ B).take k) [emB]
   have h2:((A ++ B).take k).length ≤ A.length + B.length:=by rw [List.length_take,List.length_append];omega
   simp only [List.length_cons,List.length_nil] at h1
   omega
 refine fi Tryz.func97 Tryz.ntmps97 ?_
 (repeat' (first|refine cN ?_|refine bD ?_|refine cc ?_|refine cd ?_|refine cO ?_|refine bi ?_|refine db dX ?_|refine cL ?_|refine cM (by kernel_rfl) ?_|(refine gw rfl rfl ⟨fun hc=>?_,fun hc=>?_⟩ <;> (repeat rw [List.length_map] at hc) <;> (try exact dy hc))|((first|apply aD rfl|apply aF rfl|apply aG rfl|apply aH rfl);focus (first|((apply az 15;(focus rfl);solve|(apply gX <;> first|exact ⟨rfl,rfl,rfl⟩|rfl|infer_instance|(repeat (first|exact cC.nil|(apply cC.cons;(focus (first|exact aK rfl rfl rfl|exact gq rfl|exact gr rfl))))))))|(apply bx;(focus rfl);apply ag rfl rfl rfl rfl rfl;((apply az 15;(focus rfl);solve|(apply gX <;> first|exact ⟨rfl,rfl,rfl⟩|rfl|infer_instance|(repeat (first|exact cC.nil|(apply cC.cons;(focus (first|exact aK rfl rfl rfl|exact gq rfl|exact gr rfl)))))))))|exact dY|fail))|refine ce ?_|refine cg ?_|refine ci ?_|refine d8 ?_|refine d9 ?_|refine cj ?_|refine bF rfl ?_|((first|refine gx rfl rfl rfl ⟨fun hc=>?_,fun hc=>?_⟩|refine gy rfl rfl rfl ⟨fun hc=>?_,fun hc=>?_⟩) <;> (fail_if_success (have q:(true = true):=hc)) <;> (fail_if_success (have q:(false = false):=hc)) <;> (repeat rw [List.length_map] at hc) <;> (try exact dy hc))|refine br rfl rfl (fun hc=>?_) ?_))
 refine ck (iv 8 _ 9 1 rfl rfl) ?_
 refine ah (X:=Nat) (fun k=>k ≤ A.length + B.length)
   (fun k=>aN [(0,dg A),(1,dg B),(5,Mn (gF [emB] ((A ++ B).take k))),(6,iC .i64 ((k:Nat):Int))] []) (fun k=>A.length + B.length - k) 0 (Nat.zero_le _) ?_ ?_
 · exact ab
 · intro k hk
   by_cases hlt:k < A.length + B.length
   · have hlt':k < (A ++ B).length:=by rw [List.length_append];exact hlt
     have hs:=CD [emB] (A ++ B) k hlt'
     have hm:=hmem k
     have hl:=hlen k
     have hm2:=hmem (k + 1)
     generalize gF [emB] ((A ++ B).take k) = E at *
     obtain ⟨r,hr⟩:∃ r,r = (A ++ B)[k]:=⟨_,rfl⟩
     rw [← hr] at hs
     have c0:=jb r
     have c1:=uw E r.lo (by omega) hm
     have hp:=F9 E r.lo
     have hpm:eJ r = true → ∀ t ∈ eT E r.lo,t.size ≤ 1000000000:=fun h t ht=>by
       rcases (kX _ _ _).1 ht with q|q
       · rw [q];have:=(bH r).1 h;omega
       · exact hm t q
     clear hmem hlen hm2 hm
     by_cases hkA:k < A.length
     · have hrA:A[k] = r:=by rw [hr,List.getElem_append_left hkA]
       rw [← hrA] at c0 c1 hs hp hpm
       clear hr hrA
       cases hR:eJ A[k] with
       | false=>
         rw [hR] at c0
         rw [iB,if_neg (by simp [hR])] at hs
         (have kc1:=c0;refine w0 ?_;(repeat' first|refine W2.mk ?_ ?_|refine W1.mk fun hc=>?_);all_goals clear kc1)
         refine ⟨k + 1,hlt,by omega,?_⟩
         rw [hs]
         exact ab
       | true=>
         rw [hR] at c0
         rw [iB,if_pos hR] at hs
         have hpm:=hpm hR
         cases hO:A[k].op with
         | true=>
           rw [if_pos hO] at hs
           generalize eT E A[k].lo = E1 at *
           (have kc1:=c0;have kf1:=c1;refine w0 ?_;(repeat' first|refine W2.mk ?_ ?_|refine W1.mk fun hc=>?_);all_goals clear kf1 kc1)
           all_goals first
             | (exfalso;simp [hO] at hc;done)
             | (refine ⟨k + 1,hlt,by omega,?_⟩
                rw [hs]
                exact ab)
         | false=>
           rw [if_neg (by simp [hO])] at hs
           have c2:=uw (eT E A[k].lo) A[k].hi (by omega) hpm
           generalize eT E A[k].lo = E1 at *
           generalize eT E1 A[k].hi = E2 at *
           (have kc1:=c0;have kf1:=c1;have kf2:=c2;refine w0 ?_;(repeat' first|refine W2.mk ?_ ?_|refine W1.mk fun hc=>?_);all_goals clear kf2 kf1 kc1)
           all_goals first
             | (exfalso;simp [hO] at hc;done)
             | (refine ⟨k + 1,hlt,by omega,?_⟩
                rw [hs]
                exact ab)
     · have hkB:k - A.length < B.length:=by omega
       have hrB:B[k - A.length] = r:=by rw [hr,List.getElem_append_right (by omega)]
       have eK:((k:Nat):Int) - ((A.length:Nat):Int) = ((k - A.length:Nat):Int):=by omega
       rw [← hrB] at c0 c1 hs hp hpm
       clear hr hrB
       cases hR:eJ B[k - A.length] with
       | false=>
         rw [hR] at c0
         rw [iB,if_neg (by simp [hR])] at hs
         (have ke1:=Lib.hid (eK);have kc1:=c0;refine bq ?_;(repeat' first|refine W2.mk ?_ ?_|refine W1.mk fun hc=>?_);all_goals clear kc1 ke1)
         refine ⟨k + 1,hlt,by omega,?_⟩
         rw [hs]
         exact ab
       | true=>
         rw [hR] at c0
         rw [iB,if_pos hR] at hs
         have hpm:=hpm hR
         cases hO:B[k - A.length].op with
         | true=>
           rw [if_pos hO] at hs
           generalize eT E B[k - A.length].lo = E1 at *
           (have ke1:=Lib.hid (eK);have kc1:=c0;have kf1:=c1;refine bq ?_;(repeat' first|refine W2.mk ?_ ?_|refine W1.mk fun hc=>?_);all_goals clear kf1 kc1 ke1)
           all_goals first
             | (exfalso;simp [hO] at hc;done)
             | (refine ⟨k + 1,hlt,by omega,?_⟩
                rw [hs]
                exact ab)
         | false=>
           rw [if_neg (by simp [hO])] at hs
           have c2:=uw (eT E B[k - A.length].lo) B[k - A.length].hi (by omega) hpm
           generalize eT E B[k - A.length].lo = E1 at *
           generalize eT E1 B[k - A.length].hi = E2 at *
           (have ke1:=Lib.hid (eK);have kc1:=c0;have kf1:=c1;have kf2:=c2;refine bq ?_;(repeat' first|refine W2.mk ?_ ?_|refine W1.mk fun hc=>?_);all_goals clear kf2 kf1 kc1 ke1)
           all_goals first
             | (exfalso;simp [hO] at hc;done)
             | (refine ⟨k + 1,hlt,by omega,?_⟩
                rw [hs]
                exact ab)
   · rw [List.take_of_length_le (by rw [List.length_append];omega)]
     generalize gF [emB] (A ++ B) = E at *
     (refine w0 ?_;(repeat' first|refine W2.mk ?_ ?_|refine W1.mk fun hc=>?_))
     refine aQ ?_
     exact pc rfl rfl
end
section
theorem sI (k:List Pc) (hl:k.length ≤ 1000000000):Fn Tryz.prog 96 [bS k] (.own 82 3 ((bB k).map rgP)):=by
 refine fi Tryz.func96 Tryz.ntmps96 ?_
 (refine w0 ?_;(repeat' first|refine W2.mk ?_ ?_|refine W1.mk fun hc=>?_))
 refine ck (bz 3 700 82 3 rfl rfl) ?_
 refine ah (X:=Nat) (fun z=>z ≤ k.length)
   (fun z=>aN [(0,bS k),(3,.row 700 0),(4,iC .i64 ((z:Nat):Int))] [(700,.row 82 3 ((bB (k.take z)).map rgP))]) (fun z=>k.length - z) 0 (Nat.zero_le _) ?_ ?_
 · exact ab
 · intro z hz
   by_cases hlt:z < k.length
   · have hsn:bB (k.take (z + 1)) = bB (k.take z) ++ [k[z].rg]:=by unfold bB;rw [List.take_succ_eq_append_getElem hlt,List.map_append];rfl
     have hlk:(bB (k.take z)).length ≤ z:=by unfold bB;rw [List.length_map,List.length_take];omega
     generalize bB (k.take z) = A at *
     (refine w0 ?_;(repeat' (first|refine W2.mk ?_ ?_|refine W1.mk fun hc=>?_|((first|apply aD rfl|apply aF rfl|apply aG rfl|apply aH rfl);(focus (first|((apply az 5;(focus rfl);first|exact ar ⟨rfl,rfl,rfl⟩ rfl inferInstance inferInstance rfl rfl rfl rfl|exact au ⟨rfl,rfl,rfl⟩ rfl inferInstance inferInstance rfl rfl rfl rfl))|(apply bx;(focus rfl);apply ag rfl rfl rfl rfl rfl;first|((apply az 5;(focus rfl);first|exact ar ⟨rfl,rfl,rfl⟩ rfl inferInstance inferInstance rfl rfl rfl rfl|exact au ⟨rfl,rfl,rfl⟩ rfl inferInstance inferInstance rfl rfl rfl rfl)))));refine w0 ?_))))
     refine ⟨z + 1,hlt,by omega,ak (aM 700 701) (ak (aM 701 700) ?_)⟩
     rw [hsn]
     exact ab
   · rw [List.take_of_length_le (show k.length ≤ z by omega)]
     generalize bB k = A at *
     (refine w0 ?_;(repeat' first|refine W2.mk ?_ ?_|refine W1.mk fun hc=>?_))
     refine aQ ?_
     exact cv rfl rfl rfl
theorem zl (s:List Kn) (hs:oe s):Fn Tryz.prog 85 [eh s] (kx (em ofR s)):=by
 have h:=qK 1 KO s [] hs.tot ⟨by simp,by simp⟩ (fun r _=>mA (aC s r) (aC [] r) (by have:=dM s r;have:=hs.2;omega) (by simp [aC]))
 rw [sH,List.append_nil] at h
 generalize em ofR s = R at *
 refine fi Tryz.func85 Tryz.ntmps85 ?_
 (have kc1:=h;refine w0 ?_;(repeat' first|refine W2.mk ?_ ?_|refine W1.mk fun hc=>?_);all_goals clear kc1)
 refine aQ ?_
 exact cv rfl rfl rfl
theorem zm (k:List Pc) (s:ByteArray) (hk:b0 k) (hs:s.size ≤ 1000000000):Fn Tryz.prog 150 [bS k,sC s] (kx (fh k s)):=by
 have hk1:=hk.1
 have hO:=zl (k.flatMap (gH s)) (hk.has s)
 rw [show em ofR (k.flatMap (gH s)) = fh k s from rfl] at hO
 generalize fh k s = R at *
 refine fi Tryz.func150 Tryz.ntmps150 ?_
 (refine w0 ?_;(repeat' first|refine W2.mk ?_ ?_|refine W1.mk fun hc=>?_))
 refine ck (bz 5 700 130 2 rfl rfl) ?_
 refine ah (X:=Nat) (fun z=>z ≤ k.length)
   (fun z=>aN [(0,bS k),(1,sC s),(5,.row 700 0),(6,iC .i64 ((z:Nat):Int))] [(700,.row 130 2 (((k.take z).flatMap (gH s)).map Ap))]) (fun z=>k.length - z) 0 (Nat.zero_le _) ?_ ?_
 · exact ab
 · intro z hz
   by_cases hlt:z < k.length
   · have hsn:=ov (gH s) k z hlt
     have h1:=(ou (gH s) k z).2
     have h2:=(hk.has s).1
     have h3:=eU Pc.set (List.getElem_mem hlt)
     have h4:=hk.2.1
     have c1:=ot k[z].rg s hs
     generalize (k.take z).flatMap (gH s) = A at *
     unfold gH at hsn
     clear hk
     cases c:bL k[z].rg s with
     | true=>
       rw [c] at c1 hsn
       rw [if_pos rfl] at hsn
       (have kc1:=c1;refine w0 ?_;(repeat' (first|refine W2.mk ?_ ?_|refine W1.mk fun hc=>?_|((first|apply aD rfl|apply aF rfl|apply aG rfl|apply aH rfl);(focus (first|((apply az 5;(focus rfl);first|exact ar ⟨rfl,rfl,rfl⟩ rfl inferInstance inferInstance rfl rfl rfl rfl|exact au ⟨rfl,rfl,rfl⟩ rfl inferInstance inferInstance rfl rfl rfl rfl))|(apply bx;(focus rfl);apply ag rfl rfl rfl rfl rfl;first|((apply az 5;(focus rfl);first|exact ar ⟨rfl,rfl,rfl⟩ rfl inferInstance inferInstance rfl rfl rfl rfl|exact au ⟨rfl,rfl,rfl⟩ rfl inferInstance inferInstance rfl rfl rfl rfl)))));refine w0 ?_)));all_goals clear kc1)
       refine ⟨z + 1,hlt,by omega,ak (aM 700 701) (ak (aM 701 700) ?_)⟩
       rw [show (k.take (z + 1)).flatMap (gH s) = _ from hsn]
       exact ab
     | false=>
       rw [c] at c1 hsn
       rw [if_neg (by simp),List.append_nil] at hsn
       (have kc1:=c1;refine w0 ?_;(repeat' (first|refine W2.mk ?_ ?_|refine W1.mk fun hc=>?_|((first|apply aD rfl|apply aF rfl|apply aG rfl|apply aH rfl);(focus (first|((apply az 5;(focus rfl);first|exact ar ⟨rfl,rfl,rfl⟩ rfl inferInstance inferInstance rfl rfl rfl rfl|exact au ⟨rfl,rfl,rfl⟩ rfl inferInstance inferInstance rfl rfl rfl rfl))|(apply bx;(focus rfl);apply ag rfl rfl rfl rfl rfl;first|((apply az 5;(focus rfl);first|exact ar ⟨rfl,rfl,rfl⟩ rfl inferInstance inferInstance rfl rfl rfl rfl|exact au ⟨rfl,rfl,rfl⟩ rfl inferInstance inferInstance rfl rfl rfl rfl)))));refine w0 ?_)));all_goals clear kc1)
       refine ⟨z + 1,hlt,by omega,?_⟩
       rw [show (k.take (z + 1)).flatMap (gH s) = _ from hsn]
       exact ab
   · rw [List.take_of_length_le (show k.length ≤ z by omega)]
     clear hk
     generalize k.flatMap (gH s) = A at *
     (have kc1:=hO;refine w0 ?_;(repeat' first|refine W2.mk ?_ ?_|refine W1.mk fun hc=>?_);all_goals clear kc1)
     refine aQ ?_
     exact cv rfl rfl rfl
abbrev KX:Cnt:=.bor 3 []
theorem CF (a b:List Pc) (s:ByteArray) (ha:b0 a) (hb:b0 b) (hs:s.size ≤ 1000000000):Fn Tryz.prog 98 [iC .i64 1,bS a,bS b,KX,sC s] (kx (fh (a ++ b) s)):=by
 have h1:=zm a s ha hs
 have h2:=zm b s hb hs
 have h3:=qK 1 KO (fh a s) (fh b s) (nf ha s).tot (nf hb s).tot (fun r _=>mA _ _ (by have:=dM (fh a s) r;have:=(nf ha s).2;omega) (by have:=dM (fh b s) r;have:=(nf hb s).2;omega))
 rw [AE] at h3
 generalize fh (a ++ b) s = R at *
 generalize fh a s = A at *
 generalize fh b s = B at *
 refine fi Tryz.func98 Tryz.ntmps98 ?_
 (have ko1:=h1;have ko2:=h2;have kc1:=h3;refine w0 ?_;(repeat' first|refine W2.mk ?_ ?_|refine W1.mk fun hc=>?_);all_goals clear kc1 ko2 ko1)
 refine aQ ?_
 exact cv rfl rfl rfl
end
end Go.Proofs.YtembiemaiacdfaaGreat
