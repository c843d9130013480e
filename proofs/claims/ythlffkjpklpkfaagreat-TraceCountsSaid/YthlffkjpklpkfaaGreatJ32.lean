/- Texts joined: TcU. -/
import Derived.Test.YthlffkjpklpkfaaGreatJ31
import Derived.Test.YthlffkjpklpkfaaGreatJ07
set_option maxRecDepth 10000
set_option maxHeartbeats 8000000
namespace Go.Proofs.YthlffkjpklpkfaaGreat
open Go.RowKit
theorem tal_same (l:List (List UInt8)):eqO Tryz.prog 10000 40 [.int .i64 (cntK 1 l:Nat),.int .i64 (cntK 2 l:Nat),.int .i64 (cntK 3 l:Nat),.int .i64 (cntK 4 l:Nat),.int .i64 (cntK 5 l:Nat),.int .i64 (cntK 6 l:Nat),.int .i64 (cntK 0 l:Nat),.int .i64 (itsN l:Nat)] [.int .i64 (cntK 1 l:Nat),.int .i64 (cntK 2 l:Nat),.int .i64 (cntK 3 l:Nat),.int .i64 (cntK 4 l:Nat),.int .i64 (cntK 5 l:Nat),.int .i64 (cntK 6 l:Nat),.int .i64 (cntK 0 l:Nat),.int .i64 (itsN l:Nat)] = some true:=by
 rw [eqO_tal2];simp
section
theorem lawTraceCounts (l:List Msg) (hs:∀ m ∈ l,m.sum < 18446744073709551616) (b:List (List UInt8)):Fn Tryz.prog 3 [.per (lstP 19 (l.map msCs)),.per (lstP 1 (b.map bysQ'))] (boR true):=by
 have a0:=awake47
 by_cases hl:12 < l.length ∨ 12 < b.length
 · refine fi Tryz.func3 Tryz.ntmps3 ?_
   (have kc1:=a0;refine w0 ?_;(repeat' first|refine W2.mk ?_ ?_|refine W1.mk fun hc=>?_);all_goals clear kc1)
   all_goals first|(exfalso;rcases hl with q|q <;> omega)|skip
   all_goals refine rt1 ?_
   all_goals exact rv_bool rfl rfl
 have hl1:l.length ≤ 12:=by omega
 have hl2:b.length ≤ 12:=by omega
 refine fi Tryz.func3 Tryz.ntmps3 ?_
 (have kc1:=a0;refine w0 ?_;(repeat' first|refine W2.mk ?_ ?_|refine W1.mk fun hc=>?_);all_goals clear kc1)
 clear a0
 refine AW_le (Le_nil 5 600 27 1 rfl rfl) ?_
 refine AW_loopP (X:=Nat) (fun i=>i ≤ l.length ∧ ∀ m ∈ l.take i,longM m = false) (fun i=>mkSt [(1,.per (lstP 1 (b.map bysQ'))),(5,.row 600 0),(23,.per (lstP 19 (l.map msCs))),(24,iC .i64 (l.length:Nat)),(25,iC .i64 (i:Nat))] [(600,.row 27 1 (((l.take i).map fun m=>(putM m).1).map bysQ'))]) (fun i=>l.length - i) 0 ⟨Nat.zero_le _,by simp⟩ ?_ ?_
 · exact le_auto
 · rintro i ⟨h1,h2⟩
   by_cases hi:i < l.length
   · have hsi:=hs _ (List.getElem_mem hi)
     have a1:=rm_Long l[i]
     have hT:(l.take (i + 1)).map (fun m=>(putM m).1) = (l.take i).map (fun m=>(putM m).1) ++ [(putM l[i]).1]:=by rw [take_snoc' l i hi,List.map_append];rfl
     cases hlg:longM l[i] with
     | true=>
       rw [hlg] at a1
       clear hs
       (have kc1:=a1;refine w0 ?_;(repeat' first|refine W2.mk ?_ ?_|refine W1.mk fun hc=>?_);all_goals clear kc1)
       refine rt1 ?_
       exact rv_bool rfl rfl
     | false=>
       rw [hlg] at a1
       have a2:=(rm_Put l[i] (longM_B hlg).1 hsi).frz
       have h3:∀ m ∈ l.take (i + 1),longM m = false:=fun m hm=>by
         rw [take_snoc' l i hi,List.mem_append,List.mem_singleton] at hm
         rcases hm with q|q
         · exact h2 m q
         · rw [q];exact hlg
       have hAl:((l.take i).map (fun m=>(putM m).1)).length ≤ 12:=by rw [List.length_map,List.length_take];omega
       clear hs h2 hlg
       generalize (l.take i).map (fun m=>(putM m).1) = A at *
       generalize (putM l[i]).1 = B at *
       generalize (putM l[i]).2 = f at *
       (have kc1:=a1;have kc2:=a2;refine w0 ?_;(repeat' first|refine W2.mk ?_ ?_|refine W1.mk fun hc=>?_);all_goals clear kc2 kc1)
       refine ⟨i + 1,⟨by omega,h3⟩,by omega,?_⟩
       rw [hT]
       exact le_auto
   · rw [List.take_of_length_le (by omega)] at h2 ⊢
     have hA:∀ x ∈ l.map (fun m=>(putM m).1),x.length ≤ 1000000:=fun x hx=>by
       obtain ⟨m,hm,rfl⟩:=List.mem_map.1 hx
       exact putM_len
     have hAl:(l.map (fun m=>(putM m).1)).length ≤ 12:=by rw [List.length_map];omega
     clear hs h2
     generalize l.map (fun m=>(putM m).1) = A at *
     (refine w0 ?_;(repeat' first|refine W2.mk ?_ ?_|refine W1.mk fun hc=>?_))
     refine AW_loopP (X:=Nat) (fun i=>i ≤ b.length ∧ ∀ x ∈ b.take i,x.length ≤ 300) (fun i=>mkSt [(5,.row 600 0),(41,.per (lstP 1 (b.map bysQ'))),(42,iC .i64 (b.length:Nat)),(43,iC .i64 (i:Nat))] [(600,.row 27 1 ((A ++ b.take i).map bysQ'))]) (fun i=>b.length - i) 0 ⟨Nat.zero_le _,by simp⟩ ?_ ?_
     · rw [List.take_zero,List.append_nil]
       exact le_auto
     · rintro j ⟨g1,g2⟩
       by_cases hj:j < b.length
       · by_cases hx:300 < b[j].length
         · clear hA
           (refine w0 ?_;(repeat' first|refine W2.mk ?_ ?_|refine W1.mk fun hc=>?_))
           refine rt1 ?_
           exact rv_bool rfl rfl
         · have g3:∀ x ∈ b.take (j + 1),x.length ≤ 300:=fun x hx'=>by
             rw [take_snoc' b j hj,List.mem_append,List.mem_singleton] at hx'
             rcases hx' with q|q
             · exact g2 x q
             · rw [q];omega
           have hT:A ++ b.take (j + 1) = (A ++ b.take j) ++ [b[j]]:=by rw [take_snoc' b j hj,List.append_assoc]
           have hDl:(A ++ b.take j).length ≤ 100:=by rw [List.length_append,List.length_take];omega
           clear hA g2
           generalize A ++ b.take j = D at *
           (refine w0 ?_;(repeat' first|refine W2.mk ?_ ?_|refine W1.mk fun hc=>?_))
           refine ⟨j + 1,⟨by omega,g3⟩,by omega,?_⟩
           rw [hT]
           exact le_auto
       · rw [List.take_of_length_le (by omega)] at g2 ⊢
         have hD:∀ x ∈ A ++ b,x.length ≤ 1000000:=fun x hx=>by
           rw [List.mem_append] at hx
           rcases hx with q|q
           · exact hA x q
           · have:=g2 x q;omega
         have hDl:(A ++ b).length ≤ 1000:=by rw [List.length_append];omega
         clear hA g2
         generalize A ++ b = D at *
         have c1:=rtr_Kinds D hDl hD
         have c2:=tr_Count D hDl hD
         have c3:=rtr_Items D hDl hD
         have hE:=tal_same D
         clear hD
         refine AW_le (Le_fz 600 _ 27 1 rfl rfl) ?_
         (have kc1:=c1;have kc2:=c2;have kc3:=c3;refine w0 ?_;(repeat' (first|refine W2.mk ?_ ?_|refine W1.mk fun hc=>?_|((first|apply AL_t rfl|apply AL_0 rfl|apply AD_t rfl|apply AD_0 rfl);(focus (first|(exact op_eqA (us:=[.int .i64 (cntK 1 D:Nat),.int .i64 (cntK 2 D:Nat),.int .i64 (cntK 3 D:Nat),.int .i64 (cntK 4 D:Nat),.int .i64 (cntK 5 D:Nat),.int .i64 (cntK 6 D:Nat),.int .i64 (cntK 0 D:Nat),.int .i64 (itsN D:Nat)]) (vs:=[.int .i64 (cntK 1 D:Nat),.int .i64 (cntK 2 D:Nat),.int .i64 (cntK 3 D:Nat),.int .i64 (cntK 4 D:Nat),.int .i64 (cntK 5 D:Nat),.int .i64 (cntK 6 D:Nat),.int .i64 (cntK 0 D:Nat),.int .i64 (itsN D:Nat)]) ⟨rfl,rfl,rfl⟩ rfl rfl rfl (by first|exact .inl ⟨rfl,rfl⟩|exact .inr ⟨rfl,rfl⟩) talG rfl hE)|(apply u_g;(focus rfl);apply op_gyes rfl rfl rfl rfl rfl;first|(exact op_eqA (us:=[.int .i64 (cntK 1 D:Nat),.int .i64 (cntK 2 D:Nat),.int .i64 (cntK 3 D:Nat),.int .i64 (cntK 4 D:Nat),.int .i64 (cntK 5 D:Nat),.int .i64 (cntK 6 D:Nat),.int .i64 (cntK 0 D:Nat),.int .i64 (itsN D:Nat)]) (vs:=[.int .i64 (cntK 1 D:Nat),.int .i64 (cntK 2 D:Nat),.int .i64 (cntK 3 D:Nat),.int .i64 (cntK 4 D:Nat),.int .i64 (cntK 5 D:Nat),.int .i64 (cntK 6 D:Nat),.int .i64 (cntK 0 D:Nat),.int .i64 (itsN D:Nat)]) ⟨rfl,rfl,rfl⟩ rfl rfl rfl (by first|exact .inl ⟨rfl,rfl⟩|exact .inr ⟨rfl,rfl⟩) talG rfl hE))));refine w0 ?_)));all_goals clear kc3 kc2 kc1)
         refine rt1 ?_
         exact rv_bool rfl rfl
end
end Go.Proofs.YthlffkjpklpkfaaGreat
