/- Texts joined: WkB StR Rkp Rkq. -/
import Derived.Test.YtembiemaiacdfaaGreatJ25
import Derived.Test.YtembiemaiacdfaaGreatJ05
import Derived.Test.YtembiemaiacdfaaGreatJ19
import Derived.Test.YtembiemaiacdfaaGreatJ22
import Derived.Test.YtembiemaiacdfaaGreatJ24
set_option maxRecDepth 10000
set_option maxHeartbeats 8000000
namespace Go.Proofs.YtembiemaiacdfaaGreat
open Go.RowKit
theorem IP {n:Nat} {S:St} (id vr e k:Nat) (es es':List (List PV)) (hv:S.ver id = vr) (hb:S.blk id = .row e k es) (hl:es.length = es'.length) (h:∀ (i:Nat) (ps':List PV),es'[i]? = some ps' → ∃ ps,es[i]? = some ps ∧ PW ps ps'):Le n S (S.putB [(id,vr,.row e k es')]):=by
 rintro C a w ⟨g,hR⟩
 have hB:=hR.blks id
 rw [hb] at hB
 refine ⟨g,Fk hR hv ?_⟩
 rcases hB with ⟨q1,q2⟩|⟨cap,cs,q1,q2,q3,q4,q5,q6,q7⟩
 · refine .inl ⟨q1,?_⟩
   rw [q2] at hl
   exact List.eq_nil_of_length_eq_zero hl.symm
 · refine .inr ⟨cap,cs,by rw [← hl];exact q1,q2,q3,by omega,q5,q6,fun i ps' hi=>?_⟩
   obtain ⟨ps,r1,r2⟩:=h i ps' hi
   obtain ⟨t1,t2⟩:=q7 i ps r1
   refine ⟨by rw [← t1,r2.len],fun j B hj=>?_⟩
   obtain ⟨A,u1,u2⟩:=r2.get j B hj
   obtain ⟨y,z1,z2,z3⟩:=t2 j A u1
   exact ⟨y,z1,z2,u2 _ _ _ z3⟩
def nb (f:List Rg):List Pc:=f.map fun r=>⟨r,[]⟩
theorem Fo (k:List Pc) (f:List Rg):kn (k ++ nb f) = j5 k f:=by
 have e:nb f = f.map fun r=>(⟨r,[]⟩:Pc):=rfl
 unfold kn j5 bI
 rw [List.map_append,e,List.map_map]
 congr 2
 have:(Pc.rg ∘ fun r=>(⟨r,[]⟩:Pc)) = id:=rfl
 rw [this,List.map_id]
theorem Fp (k:List Pc) (f:List Rg):(j5 k f).length ≤ 1 + 2 * (k.length + f.length):=by
 have:=jr (bI k ++ f) [emB]
 unfold j5
 unfold bI at *
 simp only [List.length_cons,List.length_nil,List.length_append,List.length_map,Nat.zero_add] at this
 exact this
theorem IQ {k:List Pc} {f:List Rg} {m:ByteArray} (h:m ∈ j5 k f):m.size ≤ 1000000000:=by
 have:=tR k f m h;omega
theorem qB {k:List Pc} (hk:cJ k) (f:List Rg) (s:ByteArray):cC (jv k f s):=by
 unfold jv
 split
 · have:=EO hk s
   exact ⟨by omega,by omega⟩
 · exact ⟨by simp,by simp⟩
abbrev La (r:Rg):List PV:=[ao (.string r.lo),ao (.string r.hi),ao (.bool r.op),ao (.slice none 0 0)]
section
theorem IR (k:List Pc) (f:List Rg) (s:ByteArray) (hk:cJ k) (hf:cG f) (hfl:f.length ≤ 1000000) (hs:s.size ≤ 1000000000) :
   Fn Tryz.prog 94 [sC s,.per (dX [ef f]),.per (dX [ip k])] (lG (jv k f s)):=by
 have h1:=qx f s hf (by omega) hs
 have h2:=Jz k s hk hs
 unfold jv
 cases hh:bn f s with
 | false=>
   rw [hh] at h1
   simp only [Bool.false_eq_true,if_false]
   refine fi Tryz.func94 Tryz.ntmps94 ?_
   (have kc1:=h1;refine w0 ?_;(repeat' first|refine W2.mk ?_ ?_|refine W1.mk fun hc=>?_);all_goals clear kc1)
   refine aO ?_
   exact sW rfl
 | true=>
   rw [hh] at h1
   simp only [if_true]
   generalize kO k s = A at *
   refine fi Tryz.func94 Tryz.ntmps94 ?_
   (have kc1:=h1;have kc2:=h2;refine w0 ?_;(repeat' first|refine W2.mk ?_ ?_|refine W1.mk fun hc=>?_);all_goals clear kc2 kc1)
   refine aO ?_
   exact cn rfl rfl rfl
theorem oI (k:List Pc) (f:List Rg) (hk:cJ k) (hf:cG f) (hfl:f.length ≤ 100000) (hkl:k.length ≤ 500000) (hof:Fn Tryz.prog 91 [db f] (v8 f)) :
   Fn Tryz.prog 50 [l9 k,.per (ef f)] (m0 (cY k f)):=by
 have h0:=hof.frz
 have h1:=vW [k,nb f] (by simp) (by simp [nb];omega)
 have e1:[k,nb f].flatten = k ++ nb f:=by simp
 rw [e1,Fo] at h1
 have hlE:=Fp k f
 have h2:=vY 94 [dX [ef f],dX [ip k]] (jv k f) (j5 k f) (by omega) (fun s hs=>(IR k f s hk hf (by omega) (IQ hs)).frz.toM) (fun s _=>zR k f s) (fun s _=>qB hk f s)
 rw [show l5 (jv k f) (j5 k f) = cY k f from rfl] at h2
 generalize cY k f = R at *
 generalize j5 k f = E at *
 clear hlE e1 hk
 refine fi Tryz.func50 Tryz.ntmps50 ?_
 (have kc1:=h0;refine w0 ?_;(repeat' first|refine W2.mk ?_ ?_|refine W1.mk fun hc=>?_);all_goals clear kc1)
 refine cc (bv 6 700 110 4 rfl rfl) ?_
 refine ah (X:=Nat) (fun i=>i ≤ f.length) (fun i=>aJ [(2,.ptr 2 0 0),(5,.ptr 5 0 0),(6,.row 700 0),(11,.per (ef f)),(12,iC .i64 (f.length:Nat)),(13,iC .i64 (i:Nat))] [(2,.box 24 [l9 k]),(5,.box 22 [.per (ef f)]),(700,.row 110 4 ((f.take i).map La))]) (fun i=>f.length - i) 0 (Nat.zero_le _) ?_ ?_
 · exact ab
 · intro i hi
   by_cases hlt:i < f.length
   · have hsn:f.take (i + 1) = f.take i ++ [f[i]]:=by rw [List.take_succ_eq_append_getElem hlt]
     have hlk:(f.take i).length ≤ i:=by rw [List.length_take];omega
     generalize f.take i = A at *
     clear h0 h1 h2
     (refine w0 ?_;(repeat' first|refine W2.mk ?_ ?_|refine W1.mk fun hc=>?_))
     refine ⟨i + 1,hlt,by omega,an (aM 700 701) (an (aM 701 700) ?_)⟩
     rw [hsn]
     exact ab
   · rw [List.take_of_length_le (show f.length ≤ i by omega)]
     clear h0
     refine cc (IP 700 _ 110 4 _ ((nb f).map pcP) rfl rfl (by simp [nb]) (fun j ps' hj=>?_)) ?_
     · unfold nb at hj
       rw [List.map_map,List.getElem?_map] at hj
       cases hq:f[j]? with
       | none=>rw [hq] at hj;cases hj
       | some r=>
         rw [hq] at hj;cases hj
         refine ⟨La r,by rw [List.getElem?_map,hq];rfl,?_⟩
         (repeat (first|exact PW.nil|(refine PW.cons (by first|exact Ct.refl|exact j8) ?_)))
     refine cc (gl 700 _ 110 4 rfl rfl) (cc (tc 2 _ 24 rfl rfl rfl) (cc (tc 5 _ 22 rfl rfl rfl) ?_))
     (repeat' (first|refine cl ?_|refine bh ?_|refine bx ?_|refine bz ?_|refine cm ?_|refine aW ?_|refine cv dm ?_|refine cj ?_|refine ck (by kernel_rfl) ?_|(refine eU rfl rfl ⟨fun hc=>?_,fun hc=>?_⟩ <;> (repeat rw [List.length_map] at hc) <;> (try exact cP hc))|((first|apply aB rfl|apply aC rfl|apply aD rfl|apply aF rfl);focus (first|((apply ax 22;(focus rfl);exact zO ⟨rfl,rfl,rfl⟩ rfl rfl rfl))|(apply bt;(focus rfl);apply ag rfl rfl rfl rfl rfl;((apply ax 22;(focus rfl);exact zO ⟨rfl,rfl,rfl⟩ rfl rfl rfl)))|exact dn|((refine Cr (h1) (hg:=?_);((repeat (first|exact GL.nil|(refine GL.cons ?_ ?_;focus (first|exact aL rfl|exact aR rfl|exact bM rfl rfl rfl|exact aU rfl|exact bN rfl|exact bf rfl))));done)))|(apply bt;(focus rfl);apply ag rfl rfl rfl rfl rfl;((refine Cr (h1) (hg:=?_);((repeat (first|exact GL.nil|(refine GL.cons ?_ ?_;focus (first|exact aL rfl|exact aR rfl|exact bM rfl rfl rfl|exact aU rfl|exact bN rfl|exact bf rfl))));done))))|((refine Cr (h2) (hg:=?_);((repeat (first|exact GL.nil|(refine GL.cons ?_ ?_;focus (first|exact aL rfl|exact aR rfl|exact bM rfl rfl rfl|exact aU rfl|exact bN rfl|exact bf rfl))));done)))|(apply bt;(focus rfl);apply ag rfl rfl rfl rfl rfl;((refine Cr (h2) (hg:=?_);((repeat (first|exact GL.nil|(refine GL.cons ?_ ?_;focus (first|exact aL rfl|exact aR rfl|exact bM rfl rfl rfl|exact aU rfl|exact bN rfl|exact bf rfl))));done))))|fail))|refine bB ?_|refine bD ?_|refine bF ?_|refine dv ?_|refine dw ?_|refine bG ?_|refine bi rfl ?_|((first|refine eV rfl rfl rfl ⟨fun hc=>?_,fun hc=>?_⟩|refine eW rfl rfl rfl ⟨fun hc=>?_,fun hc=>?_⟩) <;> (fail_if_success (have q:(true = true):=hc)) <;> (fail_if_success (have q:(false = false):=hc)) <;> (repeat rw [List.length_map] at hc) <;> (try exact cP hc))|refine aZ rfl rfl (fun hc=>?_) ?_))
     refine aO ?_
     exact cn rfl rfl rfl
theorem Fq (p q:Pc) (hp:bX p.set) (hq:bX q.set) (tp:cC p.set) (tq:cC q.set):dY Tryz.prog 164 [Ma p,Ma q] [] (bC (decide (p = q))) []:=by
 have h1:=zA p.set q.set p.set q.set (kN p.set tp hp) (kN q.set tq hq) tp.sz
 have hEo:=DX p.rg q.rg
 have hE:p = q ↔ p.rg = q.rg ∧ p.set = q.set:=by cases p;cases q;simp
 clear hp hq tp tq
 by_cases e1:p.rg = q.rg
 · rw [(mM _ _).2 e1] at hEo
   by_cases e2:p.set = q.set
   · rw [decide_eq_true (hE.2 ⟨e1,e2⟩)]
     rw [decide_eq_true e2] at h1
     clear hE e2 e1
     refine eT Tryz.func164 Tryz.ntmps164 ?_
     (have kc1:=h1;refine w0 ?_;(repeat' (first|refine W2.mk ?_ ?_|refine W1.mk fun hc=>?_|((first|apply aB rfl|apply aC rfl|apply aD rfl|apply aF rfl);(focus (first|(exact bw (us:=encRg p.rg) (vs:=encRg q.rg) ⟨rfl,rfl,rfl⟩ rfl rfl rfl (by first|exact .inl ⟨rfl,rfl⟩|exact .inr ⟨rfl,rfl⟩) zr rfl hEo)|((apply ax 5;(focus rfl);first|exact au ⟨rfl,rfl,rfl⟩ rfl inferInstance inferInstance rfl rfl rfl rfl|exact av ⟨rfl,rfl,rfl⟩ rfl inferInstance inferInstance rfl rfl rfl rfl))|(apply bt;(focus rfl);apply ag rfl rfl rfl rfl rfl;first|(exact bw (us:=encRg p.rg) (vs:=encRg q.rg) ⟨rfl,rfl,rfl⟩ rfl rfl rfl (by first|exact .inl ⟨rfl,rfl⟩|exact .inr ⟨rfl,rfl⟩) zr rfl hEo)|((apply ax 5;(focus rfl);first|exact au ⟨rfl,rfl,rfl⟩ rfl inferInstance inferInstance rfl rfl rfl rfl|exact av ⟨rfl,rfl,rfl⟩ rfl inferInstance inferInstance rfl rfl rfl rfl)))));refine w0 ?_)));all_goals clear kc1)
     (refine ⟨(by first|exact .inl rfl|exact .inr rfl),bS [] rfl rfl .nil ?_⟩)
     exact jk rfl (by first|rfl|(simp;done))
   · rw [decide_eq_false (fun h=>e2 (hE.1 h).2)]
     rw [decide_eq_false e2] at h1
     clear hE e2 e1
     refine eT Tryz.func164 Tryz.ntmps164 ?_
     (have kc1:=h1;refine w0 ?_;(repeat' (first|refine W2.mk ?_ ?_|refine W1.mk fun hc=>?_|((first|apply aB rfl|apply aC rfl|apply aD rfl|apply aF rfl);(focus (first|(exact bw (us:=encRg p.rg) (vs:=encRg q.rg) ⟨rfl,rfl,rfl⟩ rfl rfl rfl (by first|exact .inl ⟨rfl,rfl⟩|exact .inr ⟨rfl,rfl⟩) zr rfl hEo)|((apply ax 5;(focus rfl);first|exact au ⟨rfl,rfl,rfl⟩ rfl inferInstance inferInstance rfl rfl rfl rfl|exact av ⟨rfl,rfl,rfl⟩ rfl inferInstance inferInstance rfl rfl rfl rfl))|(apply bt;(focus rfl);apply ag rfl rfl rfl rfl rfl;first|(exact bw (us:=encRg p.rg) (vs:=encRg q.rg) ⟨rfl,rfl,rfl⟩ rfl rfl rfl (by first|exact .inl ⟨rfl,rfl⟩|exact .inr ⟨rfl,rfl⟩) zr rfl hEo)|((apply ax 5;(focus rfl);first|exact au ⟨rfl,rfl,rfl⟩ rfl inferInstance inferInstance rfl rfl rfl rfl|exact av ⟨rfl,rfl,rfl⟩ rfl inferInstance inferInstance rfl rfl rfl rfl)))));refine w0 ?_)));all_goals clear kc1)
     (refine ⟨(by first|exact .inl rfl|exact .inr rfl),bS [] rfl rfl .nil ?_⟩)
     exact jk rfl (by first|rfl|(simp;done))
 · rw [decide_eq_false (fun h=>e1 (hE.1 h).1)]
   have he:KI p.rg q.rg = false:=by rw [← Bool.not_eq_true,mM];exact e1
   rw [he] at hEo
   clear hE e1 he
   refine eT Tryz.func164 Tryz.ntmps164 ?_
   (have kc1:=h1;refine w0 ?_;(repeat' (first|refine W2.mk ?_ ?_|refine W1.mk fun hc=>?_|((first|apply aB rfl|apply aC rfl|apply aD rfl|apply aF rfl);(focus (first|(exact bw (us:=encRg p.rg) (vs:=encRg q.rg) ⟨rfl,rfl,rfl⟩ rfl rfl rfl (by first|exact .inl ⟨rfl,rfl⟩|exact .inr ⟨rfl,rfl⟩) zr rfl hEo)|((apply ax 5;(focus rfl);first|exact au ⟨rfl,rfl,rfl⟩ rfl inferInstance inferInstance rfl rfl rfl rfl|exact av ⟨rfl,rfl,rfl⟩ rfl inferInstance inferInstance rfl rfl rfl rfl))|(apply bt;(focus rfl);apply ag rfl rfl rfl rfl rfl;first|(exact bw (us:=encRg p.rg) (vs:=encRg q.rg) ⟨rfl,rfl,rfl⟩ rfl rfl rfl (by first|exact .inl ⟨rfl,rfl⟩|exact .inr ⟨rfl,rfl⟩) zr rfl hEo)|((apply ax 5;(focus rfl);first|exact au ⟨rfl,rfl,rfl⟩ rfl inferInstance inferInstance rfl rfl rfl rfl|exact av ⟨rfl,rfl,rfl⟩ rfl inferInstance inferInstance rfl rfl rfl rfl)))));refine w0 ?_)));all_goals clear kc1)
   (refine ⟨(by first|exact .inl rfl|exact .inr rfl),bS [] rfl rfl .nil ?_⟩)
   exact jk rfl (by first|rfl|(simp;done))
abbrev Lb:Cnt:=.per (ao (.func (.func 164) #[] #[]))
theorem yE (l m:List Pc) (hl:eZ l) (hm:eZ m) (ol:∀ p ∈ l,bX p.set) (om:∀ p ∈ m,bX p.set):Fn Tryz.prog 163 [cQ l,cQ m,Lb] (cU (decide (l = m))):=by
 have hl0:=hl.1
 refine fi Tryz.func163 Tryz.ntmps163 ?_
 (refine w0 ?_;(repeat' first|refine W2.mk ?_ ?_|refine W1.mk fun hc=>?_))
 · refine aO ?_
   exact af rfl (by symm;rw [decide_eq_false_iff_not];intro h;subst h;omega)
 have hlm:l.length = m.length:=by omega
 refine ah (fun k=>k ≤ l.length ∧ l.take k = m.take k) (fun k=>aJ [(1,cQ m),(2,Lb),(15,cQ l),(16,iC .i64 (l.length:Nat)),(17,iC .i64 (k:Nat))] []) (fun k=>l.length - k) 0 ⟨Nat.zero_le _,rfl⟩ ?_ ?_
 · exact ab
 · rintro k ⟨hk,hpre⟩
   by_cases hlt:k < l.length
   · have hltm:k < m.length:=by omega
     have c1:=Fq l[k] m[k] (ol _ (List.getElem_mem hlt)) (om _ (List.getElem_mem hltm)) (hl.at hlt) (hm.at hltm)
     clear ol om hl hm
     by_cases he:l[k] = m[k]
     · rw [decide_eq_true he] at c1
       (refine w0 ?_;(repeat' (first|refine W2.mk ?_ ?_|refine W1.mk fun hc=>?_|((first|apply aB rfl|apply aC rfl|apply aD rfl|apply aF rfl);(focus (first|(exact vm [] c1)|(apply bt;(focus rfl);apply ag rfl rfl rfl rfl rfl;first|(exact vm [] c1))));refine w0 ?_))))
       refine ⟨k + 1,⟨by omega,?_⟩,by omega,?_⟩
       · rw [aN l k hlt,aN m k hltm,hpre,he]
       · exact ab
     · rw [decide_eq_false he] at c1
       have hd:¬ l = m:=fun h=>he (by subst h;rfl)
       rw [decide_eq_false hd]
       clear hd he
       (refine w0 ?_;(repeat' (first|refine W2.mk ?_ ?_|refine W1.mk fun hc=>?_|((first|apply aB rfl|apply aC rfl|apply aD rfl|apply aF rfl);(focus (first|(exact vm [] c1)|(apply bt;(focus rfl);apply ag rfl rfl rfl rfl rfl;first|(exact vm [] c1))));refine w0 ?_))))
       refine aO ?_
       exact af rfl rfl
   · rw [List.take_of_length_le (by omega),List.take_of_length_le (by omega)] at hpre
     rw [decide_eq_true hpre]
     clear hpre ol om hl hm
     (refine w0 ?_;(repeat' first|refine W2.mk ?_ ?_|refine W1.mk fun hc=>?_))
     refine aO ?_
     exact af rfl rfl
theorem qC {k:List Pc} (h:bd k):∀ p ∈ k,bX p.set:=fun p hp=>by
 obtain ⟨i,hi,rfl⟩:=List.getElem_of_mem hp
 exact (h i hi hi).2.2.1
theorem Fr (a b:List Pc) (ha:eZ a) (hb:eZ b) (oa:bd a) (ob:bd b):Fn Tryz.prog 118 [l9 a,l9 b] (cU (decide (a = b))):=by
 have h1:=qo a oa ha
 have h2:=qo b ob hb
 have h3:=yE a b ha hb (qC oa) (qC ob)
 clear ha hb oa ob
 refine fi Tryz.func118 Tryz.ntmps118 ?_
 (have ko1:=h1;have ko2:=h2;have kc1:=h3;refine w0 ?_;(repeat' first|refine W2.mk ?_ ?_|refine W1.mk fun hc=>?_);all_goals clear kc1 ko2 ko1)
 refine aO ?_
 exact af rfl rfl
end
theorem zX:∀ (l:List ByteArray) (n:ByteArray) (k:Nat),k ≤ l.length → (∀ j (h:j < l.length),j < k → l[j] < n) → (∀ h:k < l.length,¬ l[k] < n) →
   ((∃ h:k < l.length,l[k] = n) → ez l n = l) ∧ ((¬ ∃ h:k < l.length,l[k] = n) → ez l n = l.take k ++ n :: l.drop k):=by
 intro l
 induction l with
 | nil=>
   intro n k hk _ _
   obtain rfl:k = 0:=by simpa using hk
   exact ⟨fun ⟨h,_⟩=>by simp at h,fun _=>rfl⟩
 | cons x l ih=>
   intro n k hk h1 h2
   cases k with
   | zero=>
     have:=h2 (by simp)
     simp only [List.getElem_cons_zero] at this
     rw [ez,if_neg this]
     refine ⟨fun ⟨_,e⟩=>?_,fun e=>?_⟩
     · simp only [List.getElem_cons_zero] at e
       rw [if_pos e]
     · rw [if_neg (fun q=>e ⟨by simp,by simpa using q⟩)]
       rfl
   | succ k=>
     have h3:=h1 0 (by simp) (by omega)
     simp only [List.getElem_cons_zero] at h3
     have:=ih n k (by simpa using hk) (fun j hj hjk=>by have:=h1 (j + 1) (by simpa using hj) (by omega);simpa using this) (fun h=>by have:=h2 (by simpa using h);simpa using this)
     rw [ez,if_pos h3]
     refine ⟨fun ⟨h,e⟩=>?_,fun e=>?_⟩
     · rw [this.1 ⟨by simpa using h,by simpa using e⟩]
     · rw [this.2 (fun ⟨h,q⟩=>e ⟨by simpa using h,by simpa using q⟩)]
       rfl
abbrev LF (l:List ByteArray):PV:=bK 1 (l.map strP)
abbrev LG (l:List ByteArray):Cnt:=.per (LF l)
theorem BB (e:List ByteArray) (l:List Rg) (k:Nat) (h:k < l.length):gD e (l.take (k + 1)) = ir (gD e (l.take k)) l[k]:=by
 unfold gD
 rw [List.take_succ_eq_append_getElem h,List.foldl_append]
 rfl
theorem Fs:∀ (l:List ByteArray) (n:ByteArray),(ez l n).length ≤ l.length + 1:=by
 intro l
 induction l with
 | nil=>intro n;simp [ez]
 | cons x l ih=>
   intro n
   rw [ez]
   split
   · have:=ih n;simp;omega
   · split <;> simp
theorem BC (X Y:List Kn):oB K1 X Y = fa ofR (X ++ Y):=by
 unfold oB fa
 rw [sb,← oC,List.map_zipWith]
 congr 1
 exact sc _ _ (fun t u _ _=>EJ t u)
section
theorem tU (l:List ByteArray) (n:ByteArray) (hl:l.length ≤ 1000000000) (hs:∀ t ∈ l,t.size ≤ 1000000000):Fn Tryz.prog 149 [LG l,sC n] (.per (LF (ez l n))):=by
 generalize hR:ez l n = R
 refine fi Tryz.func149 Tryz.ntmps149 ?_
 (refine w0 ?_;(repeat' first|refine W2.mk ?_ ?_|refine W1.mk fun hc=>?_))
 refine ah (X:=Nat) (fun k=>k ≤ l.length ∧ ∀ j (h:j < l.length),j < k → l[j] < n)
   (fun k=>aJ [(0,LG l),(1,sC n),(5,iC .i64 ((k:Nat):Int))] []) (fun k=>l.length - k) 0 ⟨Nat.zero_le _,fun j _ h=>by omega⟩ ?_ ?_
 · exact ab
 · rintro k ⟨h1,h2⟩
   by_cases hk:k < l.length
   · have c0:=gn l[k] n (by have:=hs _ (List.getElem_mem hk);omega)
     by_cases hlt:l[k] < n
     · rw [decide_eq_true (show bO l[k] n < 0 from hlt)] at c0
       have h2':∀ j (h:j < l.length),j < k + 1 → l[j] < n:=fun j h hj=>by
         rcases Nat.lt_or_ge j k with q|q
         · exact h2 j h q
         · obtain rfl:j = k:=by omega
           exact hlt
       clear hR h2 hs hlt
       (have kc1:=c0;refine w0 ?_;(repeat' first|refine W2.mk ?_ ?_|refine W1.mk fun hc=>?_);all_goals clear kc1)
       refine ⟨k + 1,⟨hk,h2'⟩,by omega,?_⟩
       exact ab
     · rw [decide_eq_false (show ¬ bO l[k] n < 0 from hlt)] at c0
       have hP:=zX l n k h1 h2 (fun _=>hlt)
       by_cases he:l[k] = n
       · have hR':l = R:=by rw [← hR,hP.1 ⟨hk,he⟩]
         clear hR hP h2 hs hlt
         (have kc1:=c0;refine w0 ?_;(repeat' first|refine W2.mk ?_ ?_|refine W1.mk fun hc=>?_);all_goals clear kc1)
         all_goals first
           | (exfalso;simp [he] at hc;done)
           | (refine aO ?_
              exact o4 rfl hR')
       · have hR':l.take k ++ n :: l.drop k = R:=by rw [← hR,hP.2 (fun ⟨_,q⟩=>he q)]
         clear hR hP h2 hs hlt
         (have kc1:=c0;refine w0 ?_;(repeat' first|refine W2.mk ?_ ?_|refine W1.mk fun hc=>?_);all_goals clear kc1)
         all_goals first
           | (exfalso;rw [gp] at hc;exact he hc)
           | (refine kg (bv 34 700 9 1 rfl rfl) ?_
              (refine w0 ?_;(repeat' first|refine W2.mk ?_ ?_|refine W1.mk fun hc=>?_))
              refine ⟨.inl rfl,jW (gl 700 _ 9 1 rfl rfl) (CU rfl (pf rfl (by rw [← hR'];simp [List.map_take,List.map_drop];rfl)))⟩)
   · have hP:=zX l n k h1 h2 (fun h=>absurd h hk)
     have hR':l.take k ++ n :: l.drop k = R:=by rw [← hR,hP.2 (fun ⟨q,_⟩=>hk q)]
     clear hR hP h2 hs
     (refine w0 ?_;(repeat' first|refine W2.mk ?_ ?_|refine W1.mk fun hc=>?_))
     refine kg (bv 34 700 9 1 rfl rfl) ?_
     (refine w0 ?_;(repeat' first|refine W2.mk ?_ ?_|refine W1.mk fun hc=>?_))
     refine ⟨.inl rfl,jW (gl 700 _ 9 1 rfl rfl) (CU rfl (pf rfl (by rw [← hR'];simp [List.map_take,List.map_drop];rfl)))⟩
theorem BD (A B:List Rg) (hA:A.length ≤ 1000000) (hB:B.length ≤ 1000000):Fn Tryz.prog 97 [db A,db B] (.per (LF (gD [emB] (A ++ B)))):=by
 have hmem:∀ k,∀ t ∈ gD [emB] ((A ++ B).take k),t.size ≤ 1000000000:=fun k t ht=>by
   rcases (gv _ _ _).1 ht with h|⟨r,_,h1,h2⟩
   · have h:t = emB:=by simpa using h
     rw [h];decide
   · have:=(bH r).1 h1
     rcases h2 with h2|⟨_,h2⟩ <;> rw [h2] <;> omega
 have hlen:∀ k,(gD [emB] ((A ++ B).take k)).length ≤ 10000000:=fun k=>by
   have h1:=jr ((A ++ B).take k) [emB]
   have h2:((A ++ B).take k).length ≤ A.length + B.length:=by rw [List.length_take,List.length_append];omega
   simp only [List.length_cons,List.length_nil] at h1
   omega
 refine fi Tryz.func97 Tryz.ntmps97 ?_
 (repeat' (first|refine cl ?_|refine bh ?_|refine bx ?_|refine bz ?_|refine cm ?_|refine aW ?_|refine cv dm ?_|refine cj ?_|refine ck (by kernel_rfl) ?_|(refine eU rfl rfl ⟨fun hc=>?_,fun hc=>?_⟩ <;> (repeat rw [List.length_map] at hc) <;> (try exact cP hc))|((first|apply aB rfl|apply aC rfl|apply aD rfl|apply aF rfl);focus (first|((apply ax 15;(focus rfl);solve|(apply gM <;> first|exact ⟨rfl,rfl,rfl⟩|rfl|infer_instance|(repeat (first|exact cA.nil|(apply cA.cons;(focus (first|exact aG rfl rfl rfl|exact gi rfl|exact gj rfl))))))))|(apply bt;(focus rfl);apply ag rfl rfl rfl rfl rfl;((apply ax 15;(focus rfl);solve|(apply gM <;> first|exact ⟨rfl,rfl,rfl⟩|rfl|infer_instance|(repeat (first|exact cA.nil|(apply cA.cons;(focus (first|exact aG rfl rfl rfl|exact gi rfl|exact gj rfl)))))))))|exact dn|fail))|refine bB ?_|refine bD ?_|refine bF ?_|refine dv ?_|refine dw ?_|refine bG ?_|refine bi rfl ?_|((first|refine eV rfl rfl rfl ⟨fun hc=>?_,fun hc=>?_⟩|refine eW rfl rfl rfl ⟨fun hc=>?_,fun hc=>?_⟩) <;> (fail_if_success (have q:(true = true):=hc)) <;> (fail_if_success (have q:(false = false):=hc)) <;> (repeat rw [List.length_map] at hc) <;> (try exact cP hc))|refine aZ rfl rfl (fun hc=>?_) ?_))
 refine cc (gl 8 _ 9 1 rfl rfl) ?_
 refine ah (X:=Nat) (fun k=>k ≤ A.length + B.length)
   (fun k=>aJ [(0,db A),(1,db B),(5,LG (gD [emB] ((A ++ B).take k))),(6,iC .i64 ((k:Nat):Int))] []) (fun k=>A.length + B.length - k) 0 (Nat.zero_le _) ?_ ?_
 · exact ab
 · intro k hk
   by_cases hlt:k < A.length + B.length
   · have hlt':k < (A ++ B).length:=by rw [List.length_append];exact hlt
     have hs:=BB [emB] (A ++ B) k hlt'
     have hm:=hmem k
     have hl:=hlen k
     have hm2:=hmem (k + 1)
     generalize gD [emB] ((A ++ B).take k) = E at *
     obtain ⟨r,hr⟩:∃ r,r = (A ++ B)[k]:=⟨_,rfl⟩
     rw [← hr] at hs
     have c0:=iM r
     have c1:=tU E r.lo (by omega) hm
     have hp:=Fs E r.lo
     have hpm:eo r = true → ∀ t ∈ ez E r.lo,t.size ≤ 1000000000:=fun h t ht=>by
       rcases (kL _ _ _).1 ht with q|q
       · rw [q];have:=(bH r).1 h;omega
       · exact hm t q
     clear hmem hlen hm2 hm
     by_cases hkA:k < A.length
     · have hrA:A[k] = r:=by rw [hr,List.getElem_append_left hkA]
       rw [← hrA] at c0 c1 hs hp hpm
       clear hr hrA
       cases hR:eo A[k] with
       | false=>
         rw [hR] at c0
         rw [ir,if_neg (by simp [hR])] at hs
         (have kc1:=c0;refine w0 ?_;(repeat' first|refine W2.mk ?_ ?_|refine W1.mk fun hc=>?_);all_goals clear kc1)
         refine ⟨k + 1,hlt,by omega,?_⟩
         rw [hs]
         exact ab
       | true=>
         rw [hR] at c0
         rw [ir,if_pos hR] at hs
         have hpm:=hpm hR
         cases hO:A[k].op with
         | true=>
           rw [if_pos hO] at hs
           generalize ez E A[k].lo = E1 at *
           (have kc1:=c0;have kf1:=c1;refine w0 ?_;(repeat' first|refine W2.mk ?_ ?_|refine W1.mk fun hc=>?_);all_goals clear kf1 kc1)
           all_goals first
             | (exfalso;simp [hO] at hc;done)
             | (refine ⟨k + 1,hlt,by omega,?_⟩
                rw [hs]
                exact ab)
         | false=>
           rw [if_neg (by simp [hO])] at hs
           have c2:=tU (ez E A[k].lo) A[k].hi (by omega) hpm
           generalize ez E A[k].lo = E1 at *
           generalize ez E1 A[k].hi = E2 at *
           (have kc1:=c0;have kf1:=c1;have kf2:=c2;refine w0 ?_;(repeat' first|refine W2.mk ?_ ?_|refine W1.mk fun hc=>?_);all_goals clear kf2 kf1 kc1)
           all_goals first
             | (exfalso;simp [hO] at hc;done)
             | (refine ⟨k + 1,hlt,by omega,?_⟩
                rw [hs]
                exact ab)
     · have hkB:k - A.length < B.length:=by omega
       have hrB:B[k - A.length] = r:=by rw [hr,List.getElem_append_right (by omega)]
       have eK:((k:Nat):Int) - ((A.length:Nat):Int) = ((k - A.length:Nat):Int):=by omega
       rw [← hrB] at c0 c1 hs hp hpm
       clear hr hrB
       cases hR:eo B[k - A.length] with
       | false=>
         rw [hR] at c0
         rw [ir,if_neg (by simp [hR])] at hs
         (have ke1:=Lib.hid (eK);have kc1:=c0;refine bm ?_;(repeat' first|refine W2.mk ?_ ?_|refine W1.mk fun hc=>?_);all_goals clear kc1 ke1)
         refine ⟨k + 1,hlt,by omega,?_⟩
         rw [hs]
         exact ab
       | true=>
         rw [hR] at c0
         rw [ir,if_pos hR] at hs
         have hpm:=hpm hR
         cases hO:B[k - A.length].op with
         | true=>
           rw [if_pos hO] at hs
           generalize ez E B[k - A.length].lo = E1 at *
           (have ke1:=Lib.hid (eK);have kc1:=c0;have kf1:=c1;refine bm ?_;(repeat' first|refine W2.mk ?_ ?_|refine W1.mk fun hc=>?_);all_goals clear kf1 kc1 ke1)
           all_goals first
             | (exfalso;simp [hO] at hc;done)
             | (refine ⟨k + 1,hlt,by omega,?_⟩
                rw [hs]
                exact ab)
         | false=>
           rw [if_neg (by simp [hO])] at hs
           have c2:=tU (ez E B[k - A.length].lo) B[k - A.length].hi (by omega) hpm
           generalize ez E B[k - A.length].lo = E1 at *
           generalize ez E1 B[k - A.length].hi = E2 at *
           (have ke1:=Lib.hid (eK);have kc1:=c0;have kf1:=c1;have kf2:=c2;refine bm ?_;(repeat' first|refine W2.mk ?_ ?_|refine W1.mk fun hc=>?_);all_goals clear kf2 kf1 kc1 ke1)
           all_goals first
             | (exfalso;simp [hO] at hc;done)
             | (refine ⟨k + 1,hlt,by omega,?_⟩
                rw [hs]
                exact ab)
   · rw [List.take_of_length_le (by rw [List.length_append];omega)]
     generalize gD [emB] (A ++ B) = E at *
     (refine w0 ?_;(repeat' first|refine W2.mk ?_ ?_|refine W1.mk fun hc=>?_))
     refine aO ?_
     exact o4 rfl rfl
end
section
theorem sn (k:List Pc) (hl:k.length ≤ 1000000000):Fn Tryz.prog 96 [cQ k] (.own 82 3 ((bI k).map rgP)):=by
 refine fi Tryz.func96 Tryz.ntmps96 ?_
 (refine w0 ?_;(repeat' first|refine W2.mk ?_ ?_|refine W1.mk fun hc=>?_))
 refine cc (bv 3 700 82 3 rfl rfl) ?_
 refine ah (X:=Nat) (fun z=>z ≤ k.length)
   (fun z=>aJ [(0,cQ k),(3,.row 700 0),(4,iC .i64 ((z:Nat):Int))] [(700,.row 82 3 ((bI (k.take z)).map rgP))]) (fun z=>k.length - z) 0 (Nat.zero_le _) ?_ ?_
 · exact ab
 · intro z hz
   by_cases hlt:z < k.length
   · have hsn:bI (k.take (z + 1)) = bI (k.take z) ++ [k[z].rg]:=by unfold bI;rw [List.take_succ_eq_append_getElem hlt,List.map_append];rfl
     have hlk:(bI (k.take z)).length ≤ z:=by unfold bI;rw [List.length_map,List.length_take];omega
     generalize bI (k.take z) = A at *
     (refine w0 ?_;(repeat' (first|refine W2.mk ?_ ?_|refine W1.mk fun hc=>?_|((first|apply aB rfl|apply aC rfl|apply aD rfl|apply aF rfl);(focus (first|((apply ax 5;(focus rfl);first|exact au ⟨rfl,rfl,rfl⟩ rfl inferInstance inferInstance rfl rfl rfl rfl|exact av ⟨rfl,rfl,rfl⟩ rfl inferInstance inferInstance rfl rfl rfl rfl))|(apply bt;(focus rfl);apply ag rfl rfl rfl rfl rfl;first|((apply ax 5;(focus rfl);first|exact au ⟨rfl,rfl,rfl⟩ rfl inferInstance inferInstance rfl rfl rfl rfl|exact av ⟨rfl,rfl,rfl⟩ rfl inferInstance inferInstance rfl rfl rfl rfl)))));refine w0 ?_))))
     refine ⟨z + 1,hlt,by omega,an (aM 700 701) (an (aM 701 700) ?_)⟩
     rw [hsn]
     exact ab
   · rw [List.take_of_length_le (show k.length ≤ z by omega)]
     generalize bI k = A at *
     (refine w0 ?_;(repeat' first|refine W2.mk ?_ ?_|refine W1.mk fun hc=>?_))
     refine aO ?_
     exact cn rfl rfl rfl
theorem Ft (s:List Kn) (hs:qi s):Fn Tryz.prog 85 [dZ s] (lG (fa ofR s)):=by
 have h:=Ff 1 K1 s [] hs.tot ⟨by simp,by simp⟩ (fun r _=>yz (aQ s r) (aQ [] r) (by have:=eX s r;have:=hs.2;omega) (by simp [aQ]))
 rw [BC,List.append_nil] at h
 generalize fa ofR s = R at *
 refine fi Tryz.func85 Tryz.ntmps85 ?_
 (have kc1:=h;refine w0 ?_;(repeat' first|refine W2.mk ?_ ?_|refine W1.mk fun hc=>?_);all_goals clear kc1)
 refine aO ?_
 exact cn rfl rfl rfl
theorem Kg (k:List Pc) (s:ByteArray) (hk:cJ k) (hs:s.size ≤ 1000000000):Fn Tryz.prog 150 [cQ k,sC s] (lG (kO k s)):=by
 have hk1:=hk.1
 have hO:=Ft (k.flatMap (gV s)) (hk.has s)
 rw [show fa ofR (k.flatMap (gV s)) = kO k s from rfl] at hO
 generalize kO k s = R at *
 refine fi Tryz.func150 Tryz.ntmps150 ?_
 (refine w0 ?_;(repeat' first|refine W2.mk ?_ ?_|refine W1.mk fun hc=>?_))
 refine cc (bv 5 700 130 2 rfl rfl) ?_
 refine ah (X:=Nat) (fun z=>z ≤ k.length)
   (fun z=>aJ [(0,cQ k),(1,sC s),(5,.row 700 0),(6,iC .i64 ((z:Nat):Int))] [(700,.row 130 2 (((k.take z).flatMap (gV s)).map zv))]) (fun z=>k.length - z) 0 (Nat.zero_le _) ?_ ?_
 · exact ab
 · intro z hz
   by_cases hlt:z < k.length
   · have hsn:=n8 (gV s) k z hlt
     have h1:=(n7 (gV s) k z).2
     have h2:=(hk.has s).1
     have h3:=eA Pc.set (List.getElem_mem hlt)
     have h4:=hk.2.1
     have c1:=n5 k[z].rg s hs
     generalize (k.take z).flatMap (gV s) = A at *
     unfold gV at hsn
     clear hk
     cases c:bR k[z].rg s with
     | true=>
       rw [c] at c1 hsn
       rw [if_pos rfl] at hsn
       (have kc1:=c1;refine w0 ?_;(repeat' (first|refine W2.mk ?_ ?_|refine W1.mk fun hc=>?_|((first|apply aB rfl|apply aC rfl|apply aD rfl|apply aF rfl);(focus (first|((apply ax 5;(focus rfl);first|exact au ⟨rfl,rfl,rfl⟩ rfl inferInstance inferInstance rfl rfl rfl rfl|exact av ⟨rfl,rfl,rfl⟩ rfl inferInstance inferInstance rfl rfl rfl rfl))|(apply bt;(focus rfl);apply ag rfl rfl rfl rfl rfl;first|((apply ax 5;(focus rfl);first|exact au ⟨rfl,rfl,rfl⟩ rfl inferInstance inferInstance rfl rfl rfl rfl|exact av ⟨rfl,rfl,rfl⟩ rfl inferInstance inferInstance rfl rfl rfl rfl)))));refine w0 ?_)));all_goals clear kc1)
       refine ⟨z + 1,hlt,by omega,an (aM 700 701) (an (aM 701 700) ?_)⟩
       rw [show (k.take (z + 1)).flatMap (gV s) = _ from hsn]
       exact ab
     | false=>
       rw [c] at c1 hsn
       rw [if_neg (by simp),List.append_nil] at hsn
       (have kc1:=c1;refine w0 ?_;(repeat' (first|refine W2.mk ?_ ?_|refine W1.mk fun hc=>?_|((first|apply aB rfl|apply aC rfl|apply aD rfl|apply aF rfl);(focus (first|((apply ax 5;(focus rfl);first|exact au ⟨rfl,rfl,rfl⟩ rfl inferInstance inferInstance rfl rfl rfl rfl|exact av ⟨rfl,rfl,rfl⟩ rfl inferInstance inferInstance rfl rfl rfl rfl))|(apply bt;(focus rfl);apply ag rfl rfl rfl rfl rfl;first|((apply ax 5;(focus rfl);first|exact au ⟨rfl,rfl,rfl⟩ rfl inferInstance inferInstance rfl rfl rfl rfl|exact av ⟨rfl,rfl,rfl⟩ rfl inferInstance inferInstance rfl rfl rfl rfl)))));refine w0 ?_)));all_goals clear kc1)
       refine ⟨z + 1,hlt,by omega,?_⟩
       rw [show (k.take (z + 1)).flatMap (gV s) = _ from hsn]
       exact ab
   · rw [List.take_of_length_le (show k.length ≤ z by omega)]
     clear hk
     generalize k.flatMap (gV s) = A at *
     (have kc1:=hO;refine w0 ?_;(repeat' first|refine W2.mk ?_ ?_|refine W1.mk fun hc=>?_);all_goals clear kc1)
     refine aO ?_
     exact cn rfl rfl rfl
end
end Go.Proofs.YtembiemaiacdfaaGreat
