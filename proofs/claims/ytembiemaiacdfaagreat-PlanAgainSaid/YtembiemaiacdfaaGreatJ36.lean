/- Texts joined: InW Ref34 RefSplit. -/
import Derived.Test.YtembiemaiacdfaaGreatJ24
import Derived.Test.YtembiemaiacdfaaGreatJ10
import Derived.Test.YtembiemaiacdfaaGreatJ23
import Derived.Test.YtembiemaiacdfaaGreatJ05
import Derived.Test.YtembiemaiacdfaaGreatJ09
import Derived.Test.YtembiemaiacdfaaGreatJ35
set_option maxRecDepth 10000
set_option maxHeartbeats 8000000
namespace Go.Proofs.YtembiemaiacdfaaGreat
open Go.RowKit
section
def inI (r:List Rg) (l:List It):List It:=l.filter fun x=>anyR r x.key
theorem item_In (l:List It) (r:List Rg) (hk:kOk l) (hl:l.length ≤ 1000000000) (hr:r.length ≤ 12):Fn Tryz.prog 53 [itsB l,rgsB r] (ownI (inI r l)):=by
 have h1:=(rgs_Of r (by have:=List.length_filter_le rgR r;omega) (by omega)).frz
 have h2:∀ s:ByteArray,s.size ≤ 1000000000 → Fn Tryz.prog 80 [.per (rgsP (rgOf r)),sC s] (boR (anyR r s)):=fun s hs=>by
   have:=rgs_Has (rgOf r) s (by have:=rgOf_len r;omega) hs
   rwa [(rgOf_spec r).2] at this
 generalize rgOf r = R at *
 unfold inI
 generalize hT:l.filter (fun x=>anyR r x.key) = T
 refine fi Tryz.func53 Tryz.ntmps53 ?_
 (have kc1:=h1;refine w0 ?_;(repeat' first|refine W2.mk ?_ ?_|refine W1.mk fun hc=>?_);all_goals clear kc1)
 refine AW_le (Le_nil 5 600 61 7 rfl rfl) ?_
 refine AW_loopP (X:=Nat × List It) (fun x=>x.1 ≤ l.length ∧ x.2.length ≤ x.1 ∧ x.2 ++ (l.drop x.1).filter (fun x=>anyR r x.key) = T)
   (fun x=>mkSt [(1,.per (rgsP R)),(5,.row 600 0),(10,itsB l),(11,iC .i64 (l.length:Nat)),(12,iC .i64 (x.1:Nat))] [(600,itsW x.2)]) (fun x=>l.length - x.1) (0,[]) ⟨Nat.zero_le _,Nat.le_refl _,by simpa using hT⟩ ?_ ?_
 · exact le_auto
 · rintro ⟨k,ac⟩ ⟨g1,g0,g2⟩
   simp only at g1 g0 g2 ⊢
   by_cases hlt:k < l.length
   · have h3:=h2 l[k].key (hk _ (List.getElem_mem hlt))
     rw [List.drop_eq_getElem_cons hlt,List.filter_cons] at g2
     clear h2 hT
     cases hr:anyR r l[k].key with
     | false=>
       rw [hr] at h3 g2
       (have kc1:=h3;refine w0 ?_;(repeat' first|refine W2.mk ?_ ?_|refine W1.mk fun hc=>?_);all_goals clear kc1)
       refine ⟨(k + 1,ac),⟨by simp only;omega,by simp only;omega,by simpa using g2⟩,by simp only;omega,?_⟩
       exact le_auto
     | true=>
       rw [hr] at h3 g2
       (have kc1:=h3;refine w0 ?_;(repeat' first|refine W2.mk ?_ ?_|refine W1.mk fun hc=>?_);all_goals clear kc1)
       refine ⟨(k + 1,ac ++ [l[k]]),⟨by simp only;omega,by simp;omega,by simpa using g2⟩,by simp only;omega,Le_trans (Le_mv 600 601) (Le_trans (Le_mv 601 600) ?_)⟩
       exact le_auto
   · have hkl:k = l.length:=by omega
     subst hkl
     rw [List.drop_length] at g2
     simp at g2
     subst g2
     clear h2 hT
     (refine w0 ?_;(repeat' first|refine W2.mk ?_ ?_|refine W1.mk fun hc=>?_))
     refine rt1 ?_
     exact rv_ownM rfl rfl rfl rfl
theorem ref_In (l:List It) (r:List Rg) (hk:kOk l) (hl:l.length ≤ 1000000000) (hr:r.length ≤ 1000000000):Fn Tryz.prog 76 [itsB l,rgsB r] (ownI (inI r l)):=by
 have h2:∀ s:ByteArray,s.size ≤ 1000000000 → Fn Tryz.prog 43 [rgsB r,sC s] (boR (anyR r s)):=fun s hs=>rrgs_Has r s hr hs
 unfold inI
 generalize hT:l.filter (fun x=>anyR r x.key) = T
 refine fi Tryz.func76 Tryz.ntmps76 ?_
 (refine w0 ?_;(repeat' first|refine W2.mk ?_ ?_|refine W1.mk fun hc=>?_))
 refine AW_le (Le_nil 5 600 61 7 rfl rfl) ?_
 refine AW_loopP (X:=Nat × List It) (fun x=>x.1 ≤ l.length ∧ x.2.length ≤ x.1 ∧ x.2 ++ (l.drop x.1).filter (fun x=>anyR r x.key) = T)
   (fun x=>mkSt [(0,itsB l),(1,rgsB r),(5,.row 600 0),(6,iC .i64 (x.1:Nat))] [(600,itsW x.2)]) (fun x=>l.length - x.1) (0,[]) ⟨Nat.zero_le _,Nat.le_refl _,by simpa using hT⟩ ?_ ?_
 · exact le_auto
 · rintro ⟨k,ac⟩ ⟨g1,g0,g2⟩
   simp only at g1 g0 g2 ⊢
   by_cases hlt:k < l.length
   · have h3:=h2 l[k].key (hk _ (List.getElem_mem hlt))
     rw [List.drop_eq_getElem_cons hlt,List.filter_cons] at g2
     clear h2 hT
     cases hr:anyR r l[k].key with
     | false=>
       rw [hr] at h3 g2
       (have kc1:=h3;refine w0 ?_;(repeat' first|refine W2.mk ?_ ?_|refine W1.mk fun hc=>?_);all_goals clear kc1)
       refine ⟨(k + 1,ac),⟨by simp only;omega,by simp only;omega,by simpa using g2⟩,by simp only;omega,?_⟩
       exact le_auto
     | true=>
       rw [hr] at h3 g2
       (have kc1:=h3;refine w0 ?_;(repeat' first|refine W2.mk ?_ ?_|refine W1.mk fun hc=>?_);all_goals clear kc1)
       refine ⟨(k + 1,ac ++ [l[k]]),⟨by simp only;omega,by simp;omega,by simpa using g2⟩,by simp only;omega,Le_trans (Le_mv 600 601) (Le_trans (Le_mv 601 600) ?_)⟩
       exact le_auto
   · have hkl:k = l.length:=by omega
     subst hkl
     rw [List.drop_length] at g2
     simp at g2
     subst g2
     clear h2 hT
     (refine w0 ?_;(repeat' first|refine W2.mk ?_ ?_|refine W1.mk fun hc=>?_))
     refine rt1 ?_
     exact rv_ownM rfl rfl rfl rfl
end
end Go.Proofs.YtembiemaiacdfaaGreat
