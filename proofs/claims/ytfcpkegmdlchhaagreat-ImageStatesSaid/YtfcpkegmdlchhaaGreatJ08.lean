/- Texts joined: Ic RefIt Cmp Ord. -/
import Derived.Test.YtfcpkegmdlchhaaGreatJ07
import Derived.Test.YtfcpkegmdlchhaaGreatJ06
import Derived.Test.YtfcpkegmdlchhaaGreatJ05
set_option maxRecDepth 10000
set_option maxHeartbeats 8000000
namespace Go.Proofs.YtfcpkegmdlchhaaGreat
open Go.RowKit
def restNums (x:It):List Int:=[x.rep,x.cnt,x.rank,x.prio,if x.dead then 1 else 0]
def restB (x:It):List UInt8:=(restNums x).flatMap numI ++ textB x.body
theorem itR_nums {x:It} (h:itR x = true):(∀ n ∈ restNums x,okNum n) ∧ x.body.size ≤ 64 ∧ 1 ≤ x.key.size ∧ x.key.size ≤ 16:=by
 simp only [itR,keyR,verR,Bool.and_eq_true,decide_eq_true_eq] at h
 obtain ⟨⟨h1,h2⟩,h3⟩:=h
 refine ⟨?_,by omega,by omega,by omega⟩
 intro n hn
 simp only [restNums,List.mem_cons,List.not_mem_nil,or_false] at hn
 unfold okNum
 rcases hn with rfl|rfl|rfl|rfl|rfl
 · omega
 · omega
 · omega
 · omega
 · split <;> omega
theorem textB_len (s:ByteArray) (h:s.size ≤ 127):(textB s).length = 1 + s.size:=by
 unfold textB;rw [numB_lt (by omega)];simp;omega

theorem icode_put (l:List UInt8) (ns:List Int) (hb:l.length + 9 * ns.length ≤ 1000000000000) (hok:∀ n ∈ ns,okNum n) :
   Fn Tryz.prog 132 [bytesB l,intsB ns] (ownB (l ++ ns.flatMap numI)):=by
 refine fi Tryz.func132 Tryz.ntmps132 ?_
 (repeat' (first|refine AW_seq ?_|refine AW_block ?_|refine AW_skip ?_|refine AW_exit ?_|refine AW_ret ?_|refine AW_region ?_|refine AW_draw mixed0 ?_|refine AL_nil ?_|refine AD_nil (by kernel_rfl) ?_|refine thenA_n ?_|refine thenA_r ?_|refine thenA_e ?_|refine inB_n ?_|refine inB_r ?_|refine inB_hit ?_|refine inB_miss rfl ?_|(refine AW_cond_per rfl rfl (fun hc=>?_) (fun hc=>?_) <;> (try rw [Bool.not_eq_true'] at hc) <;> (try rw [Bool.not_eq_false'] at hc) <;> (try first|rw [decide_eq_true_eq] at hc|rw [decide_eq_false_iff_not] at hc|rw [beq_iff_eq] at hc|rw [beq_eq_false_iff_ne] at hc|rw [bne_iff_ne] at hc|rw [bne_eq_false_iff_eq] at hc) <;> (repeat rw [List.length_map] at hc) <;> (try first|contradiction|(exfalso;omega)|(exfalso;simp [*] at hc;done)))|((first|apply AL_t rfl|apply AL_0 rfl|apply AD_t rfl|apply AD_0 rfl);focus (first|exact o_auto|(apply u_g;(focus rfl);(first|apply op_guard_raw rfl rfl rfl rfl rfl (as_guard rfl)|apply op_guard_raw rfl rfl rfl rfl rfl rfl);intro g1 g2;(first|(apply u_k 20;(focus rfl);apply u_call;(case hp=>exact ⟨rfl,rfl,rfl⟩);(case ho=>exact ⟨_,rfl⟩);(case' hf=>apply varint_Put);(case hpl=>rfl);(case hg=>(repeat (first|exact GL.nil|(refine GL.cons ?_ ?_;focus (first|exact gl_per (get_gr rfl (by rw [g2];rfl))|exact gl_per (get_gc rfl (by rw [g2];rfl))|exact gl_lst (get_gc rfl (by rw [g2];rfl))|exact gl_bor (get_gc rfl (by rw [g2];rfl))|exact gl_per rfl|exact gl_lst rfl|exact gl_bor rfl)))));all_goals (first|assumption|omega|(simp;done)|(simp;omega)))))|(apply u_g;(focus rfl);(first|apply op_guard rfl rfl rfl rfl rfl (as_guard rfl)|apply op_guard rfl rfl rfl rfl rfl rfl);intro g1 g2;(first|(apply u_k 20;(focus rfl);apply u_call;(case hp=>exact ⟨rfl,rfl,rfl⟩);(case ho=>exact ⟨_,rfl⟩);(case' hf=>apply varint_Put);(case hpl=>rfl);(case hg=>(repeat (first|exact GL.nil|(refine GL.cons ?_ ?_;focus (first|exact gl_per (get_gr rfl (by rw [g2];rfl))|exact gl_per (get_gc rfl (by rw [g2];rfl))|exact gl_lst (get_gc rfl (by rw [g2];rfl))|exact gl_bor (get_gc rfl (by rw [g2];rfl))|exact gl_per rfl|exact gl_lst rfl|exact gl_bor rfl)))));all_goals (first|assumption|omega|(simp;done)|(simp;omega)))))|(apply u_k 20;(focus rfl);first|(apply u_call;(case hp=>exact ⟨rfl,rfl,rfl⟩);(case ho=>exact ⟨_,rfl⟩);(case' hf=>apply varint_Put);(case hpl=>rfl);(case hg=>(repeat (first|exact GL.nil|(refine GL.cons ?_ ?_;focus (first|exact gl_per rfl|exact gl_lst rfl|exact gl_row rfl rfl rfl|exact gl_bor rfl|exact gl_nil rfl|exact gl_nil' rfl)))));all_goals (first|assumption|omega|(simp;done)|(simp;omega)))|(apply u_call_own;(case hp=>exact ⟨rfl,rfl,rfl⟩);(case ho=>exact ⟨_,rfl⟩);(case' hf=>apply varint_Put);(case hg=>(repeat (first|exact GL.nil|(refine GL.cons ?_ ?_;focus (first|exact gl_per rfl|exact gl_lst rfl|exact gl_row rfl rfl rfl|exact gl_bor rfl|exact gl_nil rfl|exact gl_nil' rfl)))));all_goals (first|assumption|omega|(simp;done)|(simp;omega)))|(apply u_call_own2;(case hp=>exact ⟨rfl,rfl,rfl⟩);(case ho=>exact ⟨_,rfl⟩);(case' hf=>apply varint_Put);(case hg=>(repeat (first|exact GL.nil|(refine GL.cons ?_ ?_;focus (first|exact gl_per rfl|exact gl_lst rfl|exact gl_row rfl rfl rfl|exact gl_bor rfl|exact gl_nil rfl|exact gl_nil' rfl)))));all_goals (first|assumption|omega|(simp;done)|(simp;omega))))))))
 refine rt1 ?_
 exact rv_own rfl rfl rfl
theorem icode_rest (l:List UInt8) (x:It) (hr:itR x = true) (hb:l.length ≤ 1000000) :
   Fn Tryz.prog 133 [bytesB l,itC x] (ownB (l ++ restB x)):=by
 obtain ⟨hnums,hbody,_,_⟩:=itR_nums hr
 have hlen:=nums_len _ hnums
 have htl:=textB_len x.body (by omega)
 obtain ⟨key,rep,cnt,rank,prio,dead,body⟩:=x
 cases dead
 all_goals
   simp only [restNums,Bool.false_eq_true,if_true,if_false] at hnums hlen hbody htl
   simp at hlen
   refine fi Tryz.func133 Tryz.ntmps133 ?_
   (repeat' (first|refine AW_seq ?_|refine AW_block ?_|refine AW_skip ?_|refine AW_exit ?_|refine AW_ret ?_|refine AW_region ?_|refine AW_draw mixed0 ?_|refine AL_nil ?_|refine AD_nil (by kernel_rfl) ?_|refine thenA_n ?_|refine thenA_r ?_|refine thenA_e ?_|refine inB_n ?_|refine inB_r ?_|refine inB_hit ?_|refine inB_miss rfl ?_|(refine AW_cond_per rfl rfl (fun hc=>?_) (fun hc=>?_) <;> (try rw [Bool.not_eq_true'] at hc) <;> (try rw [Bool.not_eq_false'] at hc) <;> (try first|rw [decide_eq_true_eq] at hc|rw [decide_eq_false_iff_not] at hc|rw [beq_iff_eq] at hc|rw [beq_eq_false_iff_ne] at hc|rw [bne_iff_ne] at hc|rw [bne_eq_false_iff_eq] at hc) <;> (repeat rw [List.length_map] at hc) <;> (try first|contradiction|(exfalso;omega)|(exfalso;simp [*] at hc;done)))|((first|apply AL_t rfl|apply AL_0 rfl|apply AD_t rfl|apply AD_0 rfl);focus (first|exact o_auto|(apply u_g;(focus rfl);(first|apply op_guard_raw rfl rfl rfl rfl rfl (as_guard rfl)|apply op_guard_raw rfl rfl rfl rfl rfl rfl);intro g1 g2;(first|(apply u_k 20;(focus rfl);apply u_call;(case hp=>exact ⟨rfl,rfl,rfl⟩);(case ho=>exact ⟨_,rfl⟩);(case' hf=>apply icode_put l [rep,cnt,rank,prio,1]);(case hpl=>rfl);(case hg=>(repeat (first|exact GL.nil|(refine GL.cons ?_ ?_;focus (first|exact gl_per (get_gr rfl (by rw [g2];rfl))|exact gl_per (get_gc rfl (by rw [g2];rfl))|exact gl_lst (get_gc rfl (by rw [g2];rfl))|exact gl_bor (get_gc rfl (by rw [g2];rfl))|exact gl_per rfl|exact gl_lst rfl|exact gl_bor rfl)))));all_goals (first|assumption|omega|(simp;done)|(simp;omega)))|(apply u_k 20;(focus rfl);apply u_call;(case hp=>exact ⟨rfl,rfl,rfl⟩);(case ho=>exact ⟨_,rfl⟩);(case' hf=>apply icode_put l [rep,cnt,rank,prio,0]);(case hpl=>rfl);(case hg=>(repeat (first|exact GL.nil|(refine GL.cons ?_ ?_;focus (first|exact gl_per (get_gr rfl (by rw [g2];rfl))|exact gl_per (get_gc rfl (by rw [g2];rfl))|exact gl_lst (get_gc rfl (by rw [g2];rfl))|exact gl_bor (get_gc rfl (by rw [g2];rfl))|exact gl_per rfl|exact gl_lst rfl|exact gl_bor rfl)))));all_goals (first|assumption|omega|(simp;done)|(simp;omega)))|(apply u_k 20;(focus rfl);apply u_call;(case hp=>exact ⟨rfl,rfl,rfl⟩);(case ho=>exact ⟨_,rfl⟩);(case' hf=>apply varint_Text _ [body]);(case hpl=>rfl);(case hg=>(repeat (first|exact GL.nil|(refine GL.cons ?_ ?_;focus (first|exact gl_per (get_gr rfl (by rw [g2];rfl))|exact gl_per (get_gc rfl (by rw [g2];rfl))|exact gl_lst (get_gc rfl (by rw [g2];rfl))|exact gl_bor (get_gc rfl (by rw [g2];rfl))|exact gl_per rfl|exact gl_lst rfl|exact gl_bor rfl)))));all_goals (first|assumption|omega|(simp;done)|(simp;omega)))))|(apply u_g;(focus rfl);(first|apply op_guard rfl rfl rfl rfl rfl (as_guard rfl)|apply op_guard rfl rfl rfl rfl rfl rfl);intro g1 g2;(first|(apply u_k 20;(focus rfl);apply u_call;(case hp=>exact ⟨rfl,rfl,rfl⟩);(case ho=>exact ⟨_,rfl⟩);(case' hf=>apply icode_put l [rep,cnt,rank,prio,1]);(case hpl=>rfl);(case hg=>(repeat (first|exact GL.nil|(refine GL.cons ?_ ?_;focus (first|exact gl_per (get_gr rfl (by rw [g2];rfl))|exact gl_per (get_gc rfl (by rw [g2];rfl))|exact gl_lst (get_gc rfl (by rw [g2];rfl))|exact gl_bor (get_gc rfl (by rw [g2];rfl))|exact gl_per rfl|exact gl_lst rfl|exact gl_bor rfl)))));all_goals (first|assumption|omega|(simp;done)|(simp;omega)))|(apply u_k 20;(focus rfl);apply u_call;(case hp=>exact ⟨rfl,rfl,rfl⟩);(case ho=>exact ⟨_,rfl⟩);(case' hf=>apply icode_put l [rep,cnt,rank,prio,0]);(case hpl=>rfl);(case hg=>(repeat (first|exact GL.nil|(refine GL.cons ?_ ?_;focus (first|exact gl_per (get_gr rfl (by rw [g2];rfl))|exact gl_per (get_gc rfl (by rw [g2];rfl))|exact gl_lst (get_gc rfl (by rw [g2];rfl))|exact gl_bor (get_gc rfl (by rw [g2];rfl))|exact gl_per rfl|exact gl_lst rfl|exact gl_bor rfl)))));all_goals (first|assumption|omega|(simp;done)|(simp;omega)))|(apply u_k 20;(focus rfl);apply u_call;(case hp=>exact ⟨rfl,rfl,rfl⟩);(case ho=>exact ⟨_,rfl⟩);(case' hf=>apply varint_Text _ [body]);(case hpl=>rfl);(case hg=>(repeat (first|exact GL.nil|(refine GL.cons ?_ ?_;focus (first|exact gl_per (get_gr rfl (by rw [g2];rfl))|exact gl_per (get_gc rfl (by rw [g2];rfl))|exact gl_lst (get_gc rfl (by rw [g2];rfl))|exact gl_bor (get_gc rfl (by rw [g2];rfl))|exact gl_per rfl|exact gl_lst rfl|exact gl_bor rfl)))));all_goals (first|assumption|omega|(simp;done)|(simp;omega)))))|(apply u_k 20;(focus rfl);first|(apply u_call;(case hp=>exact ⟨rfl,rfl,rfl⟩);(case ho=>exact ⟨_,rfl⟩);(case' hf=>apply icode_put l [rep,cnt,rank,prio,1]);(case hpl=>rfl);(case hg=>(repeat (first|exact GL.nil|(refine GL.cons ?_ ?_;focus (first|exact gl_per rfl|exact gl_lst rfl|exact gl_row rfl rfl rfl|exact gl_bor rfl|exact gl_nil rfl|exact gl_nil' rfl)))));all_goals (first|assumption|omega|(simp;done)|(simp;omega)))|(apply u_call_own;(case hp=>exact ⟨rfl,rfl,rfl⟩);(case ho=>exact ⟨_,rfl⟩);(case' hf=>apply icode_put l [rep,cnt,rank,prio,1]);(case hg=>(repeat (first|exact GL.nil|(refine GL.cons ?_ ?_;focus (first|exact gl_per rfl|exact gl_lst rfl|exact gl_row rfl rfl rfl|exact gl_bor rfl|exact gl_nil rfl|exact gl_nil' rfl)))));all_goals (first|assumption|omega|(simp;done)|(simp;omega)))|(apply u_call_own2;(case hp=>exact ⟨rfl,rfl,rfl⟩);(case ho=>exact ⟨_,rfl⟩);(case' hf=>apply icode_put l [rep,cnt,rank,prio,1]);(case hg=>(repeat (first|exact GL.nil|(refine GL.cons ?_ ?_;focus (first|exact gl_per rfl|exact gl_lst rfl|exact gl_row rfl rfl rfl|exact gl_bor rfl|exact gl_nil rfl|exact gl_nil' rfl)))));all_goals (first|assumption|omega|(simp;done)|(simp;omega))))|(apply u_k 20;(focus rfl);first|(apply u_call;(case hp=>exact ⟨rfl,rfl,rfl⟩);(case ho=>exact ⟨_,rfl⟩);(case' hf=>apply icode_put l [rep,cnt,rank,prio,0]);(case hpl=>rfl);(case hg=>(repeat (first|exact GL.nil|(refine GL.cons ?_ ?_;focus (first|exact gl_per rfl|exact gl_lst rfl|exact gl_row rfl rfl rfl|exact gl_bor rfl|exact gl_nil rfl|exact gl_nil' rfl)))));all_goals (first|assumption|omega|(simp;done)|(simp;omega)))|(apply u_call_own;(case hp=>exact ⟨rfl,rfl,rfl⟩);(case ho=>exact ⟨_,rfl⟩);(case' hf=>apply icode_put l [rep,cnt,rank,prio,0]);(case hg=>(repeat (first|exact GL.nil|(refine GL.cons ?_ ?_;focus (first|exact gl_per rfl|exact gl_lst rfl|exact gl_row rfl rfl rfl|exact gl_bor rfl|exact gl_nil rfl|exact gl_nil' rfl)))));all_goals (first|assumption|omega|(simp;done)|(simp;omega)))|(apply u_call_own2;(case hp=>exact ⟨rfl,rfl,rfl⟩);(case ho=>exact ⟨_,rfl⟩);(case' hf=>apply icode_put l [rep,cnt,rank,prio,0]);(case hg=>(repeat (first|exact GL.nil|(refine GL.cons ?_ ?_;focus (first|exact gl_per rfl|exact gl_lst rfl|exact gl_row rfl rfl rfl|exact gl_bor rfl|exact gl_nil rfl|exact gl_nil' rfl)))));all_goals (first|assumption|omega|(simp;done)|(simp;omega))))|(apply u_k 20;(focus rfl);first|(apply u_call;(case hp=>exact ⟨rfl,rfl,rfl⟩);(case ho=>exact ⟨_,rfl⟩);(case' hf=>apply varint_Text _ [body]);(case hpl=>rfl);(case hg=>(repeat (first|exact GL.nil|(refine GL.cons ?_ ?_;focus (first|exact gl_per rfl|exact gl_lst rfl|exact gl_row rfl rfl rfl|exact gl_bor rfl|exact gl_nil rfl|exact gl_nil' rfl)))));all_goals (first|assumption|omega|(simp;done)|(simp;omega)))|(apply u_call_own;(case hp=>exact ⟨rfl,rfl,rfl⟩);(case ho=>exact ⟨_,rfl⟩);(case' hf=>apply varint_Text _ [body]);(case hg=>(repeat (first|exact GL.nil|(refine GL.cons ?_ ?_;focus (first|exact gl_per rfl|exact gl_lst rfl|exact gl_row rfl rfl rfl|exact gl_bor rfl|exact gl_nil rfl|exact gl_nil' rfl)))));all_goals (first|assumption|omega|(simp;done)|(simp;omega)))|(apply u_call_own2;(case hp=>exact ⟨rfl,rfl,rfl⟩);(case ho=>exact ⟨_,rfl⟩);(case' hf=>apply varint_Text _ [body]);(case hg=>(repeat (first|exact GL.nil|(refine GL.cons ?_ ?_;focus (first|exact gl_per rfl|exact gl_lst rfl|exact gl_row rfl rfl rfl|exact gl_bor rfl|exact gl_nil rfl|exact gl_nil' rfl)))));all_goals (first|assumption|omega|(simp;done)|(simp;omega))))))))
   refine rt1 ?_
   exact rv_ownM rfl rfl rfl (by simp [restB,restNums])
theorem take_snoc' {α:Type} (l:List α) (k:Nat) (h:k < l.length):l.take (k + 1) = l.take k ++ [l[k]]:=by rw [List.take_succ_eq_append_getElem h]
abbrev itsP (l:List It):PV:=lstP 7 (l.map itP)
abbrev itsB (l:List It):Cnt:=.bor 7 (l.map itP)
def itE (x y:It):Bool:=(x.key == y.key) && (((x.rep == y.rep) && ((x.cnt == y.cnt) && true)) && ((x.rank == y.rank) && ((x.prio == y.prio) && ((x.dead == y.dead) && ((x.body == y.body) && true)))))
theorem sbeq (s u:ByteArray):(s == u) = true ↔ s = u:=by
 rw [beq_toListBytes,beq_iff_eq,str_toList,str_toList,Array.toList_inj]
 exact ⟨fun h=>by cases s;cases u;simp_all,fun h=>by rw [h]⟩
theorem itE_iff (x y:It):itE x y = true ↔ x = y:=by
 obtain ⟨a,b,c,d,e,f,g⟩:=x
 obtain ⟨a',b',c',d',e',f',g'⟩:=y
 simp only [itE,Bool.and_eq_true,sbeq,beq_iff_eq,and_true,It.mk.injEq]
 constructor
 · rintro ⟨h1,⟨h2,h3⟩,h4,h5,h6,h7⟩;exact ⟨h1,h2,h3,h4,h5,h6,h7⟩
 · rintro ⟨h1,h2,h3,h4,h5,h6,h7⟩;exact ⟨h1,⟨h2,h3⟩,h4,h5,h6,h7⟩
theorem itE_o (x y:It):eqO Tryz.prog 10000 70 (encIt x) (encIt y) = some (itE x y):=by kernel_rfl
theorem itG:Tryz.prog.eqGuardType Tryz.prog.depth 70 = false:=by kernel_rfl
theorem item_Same (l m:List It) (hl:l.length ≤ 1000000000):Fn Tryz.prog 54 [itsB l,itsB m] (boR (decide (l = m))):=by
 refine fi Tryz.func54 Tryz.ntmps54 ?_
 (repeat' (first|refine AW_seq ?_|refine AW_block ?_|refine AW_skip ?_|refine AW_exit ?_|refine AW_ret ?_|refine AW_region ?_|refine AW_draw mixed0 ?_|refine AL_nil ?_|refine AD_nil (by kernel_rfl) ?_|refine thenA_n ?_|refine thenA_r ?_|refine thenA_e ?_|refine inB_n ?_|refine inB_r ?_|refine inB_hit ?_|refine inB_miss rfl ?_|(refine AW_cond_per rfl rfl (fun hc=>?_) (fun hc=>?_) <;> (try rw [Bool.not_eq_true'] at hc) <;> (try rw [Bool.not_eq_false'] at hc) <;> (try first|rw [decide_eq_true_eq] at hc|rw [decide_eq_false_iff_not] at hc|rw [beq_iff_eq] at hc|rw [beq_eq_false_iff_ne] at hc|rw [bne_iff_ne] at hc|rw [bne_eq_false_iff_eq] at hc) <;> (repeat rw [List.length_map] at hc) <;> (try first|contradiction|(exfalso;omega)|(exfalso;simp [*] at hc;done)))|((first|apply AL_t rfl|apply AL_0 rfl|apply AD_t rfl|apply AD_0 rfl);focus (first|exact o_auto))))
 · refine rt1 ?_
   exact rv_bool rfl (by symm;rw [decide_eq_false_iff_not];intro h;subst h;omega)
 have hlm:l.length = m.length:=by omega
 refine AW_loopP (fun k=>k ≤ l.length ∧ l.take k = m.take k) (fun k=>mkSt [(0,itsB l),(1,itsB m),(4,bC false),(5,iC .i64 (k:Nat))] []) (fun k=>l.length - k) 0 ⟨Nat.zero_le _,rfl⟩ ?_ ?_
 · exact le_auto
 · rintro k ⟨hk,hpre⟩
   by_cases hlt:k < l.length
   · have hltm:k < m.length:=by omega
     (repeat' (first|refine AW_seq ?_|refine AW_block ?_|refine AW_skip ?_|refine AW_exit ?_|refine AW_ret ?_|refine AW_region ?_|refine AW_draw mixed0 ?_|refine AL_nil ?_|refine AD_nil (by kernel_rfl) ?_|refine thenA_n ?_|refine thenA_r ?_|refine thenA_e ?_|refine inB_n ?_|refine inB_r ?_|refine inB_hit ?_|refine inB_miss rfl ?_|(refine AW_cond_per rfl rfl (fun hc=>?_) (fun hc=>?_) <;> (try rw [Bool.not_eq_true'] at hc) <;> (try rw [Bool.not_eq_false'] at hc) <;> (try first|rw [decide_eq_true_eq] at hc|rw [decide_eq_false_iff_not] at hc|rw [beq_iff_eq] at hc|rw [beq_eq_false_iff_ne] at hc|rw [bne_iff_ne] at hc|rw [bne_eq_false_iff_eq] at hc) <;> (repeat rw [List.length_map] at hc) <;> (try first|contradiction|(exfalso;omega)|(exfalso;simp [*] at hc;done)))|((first|apply AL_t rfl|apply AL_0 rfl|apply AD_t rfl|apply AD_0 rfl);focus (first|exact o_auto|(exact op_eqA (us:=encIt l[k]) (vs:=encIt m[k]) ⟨rfl,rfl,rfl⟩ rfl rfl rfl (.inr ⟨rfl,rfl⟩) itG rfl (itE_o l[k] m[k]))))))
     · refine rt1 ?_
       exact rv_bool rfl (by symm;rw [decide_eq_false_iff_not];intro h;subst h;simp [(itE_iff l[k] l[k]).2 rfl] at *)
     · refine ⟨k + 1,⟨by omega,?_⟩,by omega,?_⟩
       · rw [take_snoc' l k hlt,take_snoc' m k hltm,hpre,(itE_iff l[k] m[k]).1 (by simpa using hc)]
       · exact le_auto
   · (repeat' (first|refine AW_seq ?_|refine AW_block ?_|refine AW_skip ?_|refine AW_exit ?_|refine AW_ret ?_|refine AW_region ?_|refine AW_draw mixed0 ?_|refine AL_nil ?_|refine AD_nil (by kernel_rfl) ?_|refine thenA_n ?_|refine thenA_r ?_|refine thenA_e ?_|refine inB_n ?_|refine inB_r ?_|refine inB_hit ?_|refine inB_miss rfl ?_|(refine AW_cond_per rfl rfl (fun hc=>?_) (fun hc=>?_) <;> (try rw [Bool.not_eq_true'] at hc) <;> (try rw [Bool.not_eq_false'] at hc) <;> (try first|rw [decide_eq_true_eq] at hc|rw [decide_eq_false_iff_not] at hc|rw [beq_iff_eq] at hc|rw [beq_eq_false_iff_ne] at hc|rw [bne_iff_ne] at hc|rw [bne_eq_false_iff_eq] at hc) <;> (repeat rw [List.length_map] at hc) <;> (try first|contradiction|(exfalso;omega)|(exfalso;simp [*] at hc;done)))|((first|apply AL_t rfl|apply AL_0 rfl|apply AD_t rfl|apply AD_0 rfl);focus (first|exact o_auto))))
     refine rt1 ?_
     exact rv_bool rfl (by symm;rw [decide_eq_true_eq,← List.take_of_length_le (show l.length ≤ k by omega),hpre,List.take_of_length_le (by omega)])
def itL (x:It):Bool:=decide (x.key.size > 60) || decide (x.body.size > 200)
def longB (l:List It) (most:Int):Bool:=decide ((l.length:Int) > most) || l.any itL
theorem any_snoc (l:List It) (k:Nat) (h:k < l.length):(l.take (k + 1)).any itL = ((l.take k).any itL || itL l[k]):=by rw [take_snoc' l k h,List.any_append];simp
theorem item_Long (l:List It) (most:Int) (hl:most ≤ 1000000000000):Fn Tryz.prog 24 [itsB l,iC .i64 most] (boR (longB l most)):=by
 refine fi Tryz.func24 Tryz.ntmps24 ?_
 (repeat' (first|refine AW_seq ?_|refine AW_block ?_|refine AW_skip ?_|refine AW_exit ?_|refine AW_ret ?_|refine AW_region ?_|refine AW_draw mixed0 ?_|refine AL_nil ?_|refine AD_nil (by kernel_rfl) ?_|refine thenA_n ?_|refine thenA_r ?_|refine thenA_e ?_|refine inB_n ?_|refine inB_r ?_|refine inB_hit ?_|refine inB_miss rfl ?_|(refine AW_cond_per rfl rfl (fun hc=>?_) (fun hc=>?_) <;> (try rw [Bool.not_eq_true'] at hc) <;> (try rw [Bool.not_eq_false'] at hc) <;> (try first|rw [decide_eq_true_eq] at hc|rw [decide_eq_false_iff_not] at hc|rw [beq_iff_eq] at hc|rw [beq_eq_false_iff_ne] at hc|rw [bne_iff_ne] at hc|rw [bne_eq_false_iff_eq] at hc) <;> (repeat rw [List.length_map] at hc) <;> (try first|contradiction|(exfalso;omega)|(exfalso;simp [*] at hc;done)))|((first|apply AL_t rfl|apply AL_0 rfl|apply AD_t rfl|apply AD_0 rfl);focus (first|exact o_auto))))
 · refine rt1 ?_
   exact rv_bool rfl (by unfold longB;rw [decide_eq_true hc];rfl)
 refine AW_loopP (fun k=>k ≤ l.length ∧ (l.take k).any itL = false) (fun k=>mkSt [(0,itsB l),(1,iC .i64 most),(4,bC false),(5,iC .i64 (k:Nat))] []) (fun k=>l.length - k) 0 ⟨Nat.zero_le _,rfl⟩ ?_ ?_
 · exact le_auto
 · rintro k ⟨hk,hpre⟩
   by_cases hlt:k < l.length
   · have hsn:=any_snoc l k hlt
     (repeat' (first|refine AW_seq ?_|refine AW_block ?_|refine AW_skip ?_|refine AW_exit ?_|refine AW_ret ?_|refine AW_region ?_|refine AW_draw mixed0 ?_|refine AL_nil ?_|refine AD_nil (by kernel_rfl) ?_|refine thenA_n ?_|refine thenA_r ?_|refine thenA_e ?_|refine inB_n ?_|refine inB_r ?_|refine inB_hit ?_|refine inB_miss rfl ?_|(refine AW_cond_per rfl rfl (fun hc=>?_) (fun hc=>?_) <;> (try rw [Bool.not_eq_true'] at hc) <;> (try rw [Bool.not_eq_false'] at hc) <;> (try first|rw [decide_eq_true_eq] at hc|rw [decide_eq_false_iff_not] at hc|rw [beq_iff_eq] at hc|rw [beq_eq_false_iff_ne] at hc|rw [bne_iff_ne] at hc|rw [bne_eq_false_iff_eq] at hc) <;> (repeat rw [List.length_map] at hc) <;> (try first|contradiction|(exfalso;omega)|(exfalso;simp [*] at hc;done)))|((first|apply AL_t rfl|apply AL_0 rfl|apply AD_t rfl|apply AD_0 rfl);focus (first|exact o_auto))))
     · refine rt1 ?_
       exact rv_bool rfl (by symm;unfold longB;rw [Bool.or_eq_true,List.any_eq_true];refine .inr ⟨l[k],List.getElem_mem hlt,?_⟩;grind [itL])
     · refine ⟨k + 1,⟨by omega,?_⟩,by omega,?_⟩
       · rw [hsn,hpre];grind [itL]
       · exact le_auto
   · (repeat' (first|refine AW_seq ?_|refine AW_block ?_|refine AW_skip ?_|refine AW_exit ?_|refine AW_ret ?_|refine AW_region ?_|refine AW_draw mixed0 ?_|refine AL_nil ?_|refine AD_nil (by kernel_rfl) ?_|refine thenA_n ?_|refine thenA_r ?_|refine thenA_e ?_|refine inB_n ?_|refine inB_r ?_|refine inB_hit ?_|refine inB_miss rfl ?_|(refine AW_cond_per rfl rfl (fun hc=>?_) (fun hc=>?_) <;> (try rw [Bool.not_eq_true'] at hc) <;> (try rw [Bool.not_eq_false'] at hc) <;> (try first|rw [decide_eq_true_eq] at hc|rw [decide_eq_false_iff_not] at hc|rw [beq_iff_eq] at hc|rw [beq_eq_false_iff_ne] at hc|rw [bne_iff_ne] at hc|rw [bne_eq_false_iff_eq] at hc) <;> (repeat rw [List.length_map] at hc) <;> (try first|contradiction|(exfalso;omega)|(exfalso;simp [*] at hc;done)))|((first|apply AL_t rfl|apply AL_0 rfl|apply AD_t rfl|apply AD_0 rfl);focus (first|exact o_auto))))
     refine rt1 ?_
     have e:l.take k = l:=List.take_of_length_le (by omega)
     rw [e] at hpre
     exact rv_bool rfl (by symm;unfold longB;rw [hpre,Bool.or_false,decide_eq_false_iff_not];assumption)
theorem ref_rest (x:It) (hr:itR x = true):Fn Tryz.prog 105 [itC x] (ownB (restB x)):=by
 obtain ⟨hnums,hbody,_,_⟩:=itR_nums hr
 have hlen:=nums_len _ hnums
 have htl:=textB_len x.body (by omega)
 obtain ⟨key,rep,cnt,rank,prio,dead,body⟩:=x
 cases dead
 all_goals
   simp only [restNums,Bool.false_eq_true,if_true,if_false] at hnums hlen hbody htl
   simp at hlen
   refine fi Tryz.func105 Tryz.ntmps105 ?_
   (repeat' (first|refine AW_seq ?_|refine AW_block ?_|refine AW_skip ?_|refine AW_exit ?_|refine AW_ret ?_|refine AW_region ?_|refine AW_draw mixed0 ?_|refine AL_nil ?_|refine AD_nil (by kernel_rfl) ?_|refine thenA_n ?_|refine thenA_r ?_|refine thenA_e ?_|refine inB_n ?_|refine inB_r ?_|refine inB_hit ?_|refine inB_miss rfl ?_|(refine AW_cond_per rfl rfl (fun hc=>?_) (fun hc=>?_) <;> (try rw [Bool.not_eq_true'] at hc) <;> (try rw [Bool.not_eq_false'] at hc) <;> (try first|rw [decide_eq_true_eq] at hc|rw [decide_eq_false_iff_not] at hc|rw [beq_iff_eq] at hc|rw [beq_eq_false_iff_ne] at hc|rw [bne_iff_ne] at hc|rw [bne_eq_false_iff_eq] at hc) <;> (repeat rw [List.length_map] at hc) <;> (try first|contradiction|(exfalso;omega)|(exfalso;simp [*] at hc;done)))|((first|apply AL_t rfl|apply AL_0 rfl|apply AD_t rfl|apply AD_0 rfl);focus (first|exact o_auto|(apply u_g;(focus rfl);(first|apply op_guard_raw rfl rfl rfl rfl rfl (as_guard rfl)|apply op_guard_raw rfl rfl rfl rfl rfl rfl);intro g1 g2;(first|(apply u_k 20;(focus rfl);apply u_call;(case hp=>exact ⟨rfl,rfl,rfl⟩);(case ho=>exact ⟨_,rfl⟩);(case' hf=>apply ref_Put [rep,cnt,rank,prio,1]);(case hpl=>rfl);(case hg=>(repeat (first|exact GL.nil|(refine GL.cons ?_ ?_;focus (first|exact gl_per (get_gr rfl (by rw [g2];rfl))|exact gl_per (get_gc rfl (by rw [g2];rfl))|exact gl_lst (get_gc rfl (by rw [g2];rfl))|exact gl_bor (get_gc rfl (by rw [g2];rfl))|exact gl_per rfl|exact gl_lst rfl|exact gl_bor rfl)))));all_goals (first|assumption|omega|(simp;done)|(simp;omega)))|(apply u_k 20;(focus rfl);apply u_call;(case hp=>exact ⟨rfl,rfl,rfl⟩);(case ho=>exact ⟨_,rfl⟩);(case' hf=>apply ref_Put [rep,cnt,rank,prio,0]);(case hpl=>rfl);(case hg=>(repeat (first|exact GL.nil|(refine GL.cons ?_ ?_;focus (first|exact gl_per (get_gr rfl (by rw [g2];rfl))|exact gl_per (get_gc rfl (by rw [g2];rfl))|exact gl_lst (get_gc rfl (by rw [g2];rfl))|exact gl_bor (get_gc rfl (by rw [g2];rfl))|exact gl_per rfl|exact gl_lst rfl|exact gl_bor rfl)))));all_goals (first|assumption|omega|(simp;done)|(simp;omega)))|(apply u_k 20;(focus rfl);apply u_call;(case hp=>exact ⟨rfl,rfl,rfl⟩);(case ho=>exact ⟨_,rfl⟩);(case' hf=>apply ref_Text body);(case hpl=>rfl);(case hg=>(repeat (first|exact GL.nil|(refine GL.cons ?_ ?_;focus (first|exact gl_per (get_gr rfl (by rw [g2];rfl))|exact gl_per (get_gc rfl (by rw [g2];rfl))|exact gl_lst (get_gc rfl (by rw [g2];rfl))|exact gl_bor (get_gc rfl (by rw [g2];rfl))|exact gl_per rfl|exact gl_lst rfl|exact gl_bor rfl)))));all_goals (first|assumption|omega|(simp;done)|(simp;omega)))))|(apply u_g;(focus rfl);(first|apply op_guard rfl rfl rfl rfl rfl (as_guard rfl)|apply op_guard rfl rfl rfl rfl rfl rfl);intro g1 g2;(first|(apply u_k 20;(focus rfl);apply u_call;(case hp=>exact ⟨rfl,rfl,rfl⟩);(case ho=>exact ⟨_,rfl⟩);(case' hf=>apply ref_Put [rep,cnt,rank,prio,1]);(case hpl=>rfl);(case hg=>(repeat (first|exact GL.nil|(refine GL.cons ?_ ?_;focus (first|exact gl_per (get_gr rfl (by rw [g2];rfl))|exact gl_per (get_gc rfl (by rw [g2];rfl))|exact gl_lst (get_gc rfl (by rw [g2];rfl))|exact gl_bor (get_gc rfl (by rw [g2];rfl))|exact gl_per rfl|exact gl_lst rfl|exact gl_bor rfl)))));all_goals (first|assumption|omega|(simp;done)|(simp;omega)))|(apply u_k 20;(focus rfl);apply u_call;(case hp=>exact ⟨rfl,rfl,rfl⟩);(case ho=>exact ⟨_,rfl⟩);(case' hf=>apply ref_Put [rep,cnt,rank,prio,0]);(case hpl=>rfl);(case hg=>(repeat (first|exact GL.nil|(refine GL.cons ?_ ?_;focus (first|exact gl_per (get_gr rfl (by rw [g2];rfl))|exact gl_per (get_gc rfl (by rw [g2];rfl))|exact gl_lst (get_gc rfl (by rw [g2];rfl))|exact gl_bor (get_gc rfl (by rw [g2];rfl))|exact gl_per rfl|exact gl_lst rfl|exact gl_bor rfl)))));all_goals (first|assumption|omega|(simp;done)|(simp;omega)))|(apply u_k 20;(focus rfl);apply u_call;(case hp=>exact ⟨rfl,rfl,rfl⟩);(case ho=>exact ⟨_,rfl⟩);(case' hf=>apply ref_Text body);(case hpl=>rfl);(case hg=>(repeat (first|exact GL.nil|(refine GL.cons ?_ ?_;focus (first|exact gl_per (get_gr rfl (by rw [g2];rfl))|exact gl_per (get_gc rfl (by rw [g2];rfl))|exact gl_lst (get_gc rfl (by rw [g2];rfl))|exact gl_bor (get_gc rfl (by rw [g2];rfl))|exact gl_per rfl|exact gl_lst rfl|exact gl_bor rfl)))));all_goals (first|assumption|omega|(simp;done)|(simp;omega)))))|(apply u_k 20;(focus rfl);first|(apply u_call;(case hp=>exact ⟨rfl,rfl,rfl⟩);(case ho=>exact ⟨_,rfl⟩);(case' hf=>apply ref_Put [rep,cnt,rank,prio,1]);(case hpl=>rfl);(case hg=>(repeat (first|exact GL.nil|(refine GL.cons ?_ ?_;focus (first|exact gl_per rfl|exact gl_lst rfl|exact gl_row rfl rfl rfl|exact gl_bor rfl|exact gl_nil rfl|exact gl_nil' rfl)))));all_goals (first|assumption|omega|(simp;done)|(simp;omega)))|(apply u_call_own;(case hp=>exact ⟨rfl,rfl,rfl⟩);(case ho=>exact ⟨_,rfl⟩);(case' hf=>apply ref_Put [rep,cnt,rank,prio,1]);(case hg=>(repeat (first|exact GL.nil|(refine GL.cons ?_ ?_;focus (first|exact gl_per rfl|exact gl_lst rfl|exact gl_row rfl rfl rfl|exact gl_bor rfl|exact gl_nil rfl|exact gl_nil' rfl)))));all_goals (first|assumption|omega|(simp;done)|(simp;omega)))|(apply u_call_own2;(case hp=>exact ⟨rfl,rfl,rfl⟩);(case ho=>exact ⟨_,rfl⟩);(case' hf=>apply ref_Put [rep,cnt,rank,prio,1]);(case hg=>(repeat (first|exact GL.nil|(refine GL.cons ?_ ?_;focus (first|exact gl_per rfl|exact gl_lst rfl|exact gl_row rfl rfl rfl|exact gl_bor rfl|exact gl_nil rfl|exact gl_nil' rfl)))));all_goals (first|assumption|omega|(simp;done)|(simp;omega))))|(apply u_k 20;(focus rfl);first|(apply u_call;(case hp=>exact ⟨rfl,rfl,rfl⟩);(case ho=>exact ⟨_,rfl⟩);(case' hf=>apply ref_Put [rep,cnt,rank,prio,0]);(case hpl=>rfl);(case hg=>(repeat (first|exact GL.nil|(refine GL.cons ?_ ?_;focus (first|exact gl_per rfl|exact gl_lst rfl|exact gl_row rfl rfl rfl|exact gl_bor rfl|exact gl_nil rfl|exact gl_nil' rfl)))));all_goals (first|assumption|omega|(simp;done)|(simp;omega)))|(apply u_call_own;(case hp=>exact ⟨rfl,rfl,rfl⟩);(case ho=>exact ⟨_,rfl⟩);(case' hf=>apply ref_Put [rep,cnt,rank,prio,0]);(case hg=>(repeat (first|exact GL.nil|(refine GL.cons ?_ ?_;focus (first|exact gl_per rfl|exact gl_lst rfl|exact gl_row rfl rfl rfl|exact gl_bor rfl|exact gl_nil rfl|exact gl_nil' rfl)))));all_goals (first|assumption|omega|(simp;done)|(simp;omega)))|(apply u_call_own2;(case hp=>exact ⟨rfl,rfl,rfl⟩);(case ho=>exact ⟨_,rfl⟩);(case' hf=>apply ref_Put [rep,cnt,rank,prio,0]);(case hg=>(repeat (first|exact GL.nil|(refine GL.cons ?_ ?_;focus (first|exact gl_per rfl|exact gl_lst rfl|exact gl_row rfl rfl rfl|exact gl_bor rfl|exact gl_nil rfl|exact gl_nil' rfl)))));all_goals (first|assumption|omega|(simp;done)|(simp;omega))))|(apply u_k 20;(focus rfl);first|(apply u_call;(case hp=>exact ⟨rfl,rfl,rfl⟩);(case ho=>exact ⟨_,rfl⟩);(case' hf=>apply ref_Text body);(case hpl=>rfl);(case hg=>(repeat (first|exact GL.nil|(refine GL.cons ?_ ?_;focus (first|exact gl_per rfl|exact gl_lst rfl|exact gl_row rfl rfl rfl|exact gl_bor rfl|exact gl_nil rfl|exact gl_nil' rfl)))));all_goals (first|assumption|omega|(simp;done)|(simp;omega)))|(apply u_call_own;(case hp=>exact ⟨rfl,rfl,rfl⟩);(case ho=>exact ⟨_,rfl⟩);(case' hf=>apply ref_Text body);(case hg=>(repeat (first|exact GL.nil|(refine GL.cons ?_ ?_;focus (first|exact gl_per rfl|exact gl_lst rfl|exact gl_row rfl rfl rfl|exact gl_bor rfl|exact gl_nil rfl|exact gl_nil' rfl)))));all_goals (first|assumption|omega|(simp;done)|(simp;omega)))|(apply u_call_own2;(case hp=>exact ⟨rfl,rfl,rfl⟩);(case ho=>exact ⟨_,rfl⟩);(case' hf=>apply ref_Text body);(case hg=>(repeat (first|exact GL.nil|(refine GL.cons ?_ ?_;focus (first|exact gl_per rfl|exact gl_lst rfl|exact gl_row rfl rfl rfl|exact gl_bor rfl|exact gl_nil rfl|exact gl_nil' rfl)))));all_goals (first|assumption|omega|(simp;done)|(simp;omega))))))))
   refine rt1 ?_
   exact rv_own rfl rfl (eqRw (by rw [← List.map_append];simp [restB,restNums]))
def cmpL:List UInt8 → List UInt8 → Int
 | [],[]=>0
 | [],_ :: _=>-1
 | _ :: _,[]=>1
 | x :: a,y :: b=>if x.toNat < y.toNat then -1 else if y.toNat < x.toNat then 1 else cmpL a b
def cmpB (s t:ByteArray):Int:=cmpL s.data.toList t.data.toList
theorem cmpL_step (a b:List UInt8) (k:Nat) (h1:k < a.length) (h2:k < b.length):cmpL (a.drop k) (b.drop k) = if a[k].toNat < b[k].toNat then -1 else if b[k].toNat < a[k].toNat then 1 else cmpL (a.drop (k + 1)) (b.drop (k + 1)):=by
 rw [List.drop_eq_getElem_cons h1,List.drop_eq_getElem_cons h2,cmpL]
theorem cmpL_end (a b:List UInt8) (k:Nat) (h:a.length ≤ k ∨ b.length ≤ k) (h1:k ≤ a.length) (h2:k ≤ b.length):cmpL (a.drop k) (b.drop k) = if a.length < b.length then -1 else if a.length > b.length then 1 else 0:=by
 by_cases e1:a.length ≤ k
 · rw [List.drop_eq_nil_of_le e1]
   by_cases e2:b.length ≤ k
   · rw [List.drop_eq_nil_of_le e2,cmpL,if_neg (by omega),if_neg (by omega)]
   · rw [List.drop_eq_getElem_cons (by omega:k < b.length),cmpL,if_pos (by omega)]
 · have e2:b.length ≤ k:=by omega
   rw [List.drop_eq_nil_of_le e2,List.drop_eq_getElem_cons (by omega:k < a.length),cmpL,if_neg (by omega),if_pos (by omega)]
def cmpV (r c r' c':Int):Int:=if r = r' ∧ c = c' then 0 else if r < r' ∨ r = r' ∧ c < c' then -1 else 1
def cmpI (x y:It):Int:=if x.rank > y.rank then 1 else if x.rank < y.rank then -1 else cmpV x.rep x.cnt y.rep y.cnt
section
theorem key_Cmp (s t:ByteArray) (hs:s.size ≤ 1000000000000):Fn Tryz.prog 113 [sC s,sC t] (inR (cmpB s t)):=by
 generalize hR:cmpB s t = R
 refine fi Tryz.func113 Tryz.ntmps113 ?_
 (refine w0 ?_;(repeat' first|refine W2.mk ?_ ?_|refine W1.mk fun hc=>?_))
 refine AW_loopP (fun k=>k ≤ s.size ∧ k ≤ t.size ∧ cmpL (s.data.toList.drop k) (t.data.toList.drop k) = R) (fun k=>mkSt [(0,sC s),(1,sC t),(10,iC .i64 (min (s.size:Int) (t.size:Int))),(11,iC .i64 (k:Nat))] []) (fun k=>s.size - k) 0 ⟨Nat.zero_le _,Nat.zero_le _,hR⟩ ?_ ?_
 · exact le_auto
 · rintro k ⟨h1,h2,h3⟩
   have hst:=cmpL_step s.data.toList t.data.toList k
   have hen:=cmpL_end s.data.toList t.data.toList k
   simp only [str_len] at hst hen
   rw [h3] at hst hen
   by_cases hk:k < s.size ∧ k < t.size
   · have hst:=hst hk.1 hk.2
     have hm:(k:Int) < min (s.size:Int) (t.size:Int):=by omega
     (refine w0 ?_;(repeat' first|refine W2.mk ?_ ?_|refine W1.mk fun hc=>?_))
     · rw [if_pos (by omega)] at hst
       refine rt1 ?_
       exact rv_int rfl hst.symm
     · rw [if_neg (by omega),if_pos (by omega)] at hst
       refine rt1 ?_
       exact rv_int rfl hst.symm
     · rw [if_neg (by omega),if_neg (by omega)] at hst
       refine ⟨k + 1,⟨by omega,by omega,hst.symm⟩,by omega,?_⟩
       exact le_auto
   · have hen:=hen (by omega) h1 h2
     have hm:¬ (k:Int) < min (s.size:Int) (t.size:Int):=by omega
     (refine w0 ?_;(repeat' first|refine W2.mk ?_ ?_|refine W1.mk fun hc=>?_))
     all_goals refine rt1 ?_
     · rw [if_pos (by omega)] at hen
       exact rv_int rfl hen.symm
     · rw [if_neg (by omega),if_pos (by omega)] at hen
       exact rv_int rfl hen.symm
     · rw [if_neg (by omega),if_neg (by omega)] at hen
       exact rv_int rfl hen.symm
theorem ref_Less (s t:ByteArray) (hs:s.size ≤ 1000000000000):Fn Tryz.prog 85 [sC s,sC t] (boR (decide (cmpB s t < 0))):=by
 generalize hR:cmpB s t = R
 refine fi Tryz.func85 Tryz.ntmps85 ?_
 (refine w0 ?_;(repeat' first|refine W2.mk ?_ ?_|refine W1.mk fun hc=>?_))
 refine AW_loopP (fun k=>k ≤ s.size ∧ k ≤ t.size ∧ cmpL (s.data.toList.drop k) (t.data.toList.drop k) = R) (fun k=>mkSt [(0,sC s),(1,sC t),(5,iC .i64 (k:Nat))] []) (fun k=>s.size - k) 0 ⟨Nat.zero_le _,Nat.zero_le _,hR⟩ ?_ ?_
 · exact le_auto
 · rintro k ⟨h1,h2,h3⟩
   have hst:=cmpL_step s.data.toList t.data.toList k
   have hen:=cmpL_end s.data.toList t.data.toList k
   simp only [str_len] at hst hen
   rw [h3] at hst hen
   by_cases hk:k < s.size ∧ k < t.size
   · have hst:=hst hk.1 hk.2
     (refine w0 ?_;(repeat' first|refine W2.mk ?_ ?_|refine W1.mk fun hc=>?_))
     · refine rt1 ?_
       refine rv_bool rfl ?_
       rw [hst]
       clear hst hen h3
       generalize (s.data.toList[k]'(by simpa using hk.1)).toNat = x at *
       generalize (t.data.toList[k]'(by simpa using hk.2)).toNat = y at *
       split
       · rw [decide_eq_true (by omega),decide_eq_true (by omega)]
       · rw [if_pos (by omega),decide_eq_false (by omega),decide_eq_false (by omega)]
     · rw [if_neg (by omega),if_neg (by omega)] at hst
       refine ⟨k + 1,⟨by omega,by omega,hst.symm⟩,by omega,?_⟩
       exact le_auto
   · have hen:=hen (by omega) h1 h2
     (refine w0 ?_;(repeat' first|refine W2.mk ?_ ?_|refine W1.mk fun hc=>?_))
     all_goals refine rt1 ?_
     all_goals refine rv_bool rfl ?_
     · rw [hen,if_neg (by omega)]
       split <;> simp
     · rw [hen]
       split
       · simp;omega
       · split <;> (simp;omega)
theorem eqO_ver (r c r' c':Int):eqO Tryz.prog 10000 68 [.int .i64 r,.int .i64 c] [.int .i64 r',.int .i64 c'] = some (decide (r = r') && (decide (c = c') && true)):=by kernel_rfl
theorem verG:Tryz.prog.eqGuardType Tryz.prog.depth 68 = false:=by kernel_rfl
end
end Go.Proofs.YtfcpkegmdlchhaaGreat
namespace Go.Proofs.YtfcpkegmdlchhaaGreat
theorem oL_anti:∀ (a b:List UInt8),cmpL b a = - cmpL a b ∧ (cmpL a b = 0 → a = b):=by
 intro a
 induction a with
 | nil=>intro b;cases b <;> simp [cmpL]
 | cons x a ih=>
   intro b
   cases b with
   | nil=>simp [cmpL]
   | cons y b=>
     obtain ⟨h1,h2⟩:=ih b
     simp only [cmpL]
     refine ⟨?_,?_⟩
     · rcases Nat.lt_trichotomy x.toNat y.toNat with q|q|q
       · rw [if_neg (by omega),if_pos q,if_pos q];rfl
       · rw [if_neg (by omega),if_neg (by omega),if_neg (by omega),if_neg (by omega)];exact h1
       · rw [if_pos q,if_neg (by omega),if_pos q]
     · split
       · intro h;omega
       · split
         · intro h;omega
         · intro h
           rw [h2 h,UInt8.toNat_inj.1 (show x.toNat = y.toNat by omega)]
theorem oL_lt:∀ (a b c:List UInt8),cmpL a a = 0 ∧ (cmpL a b ≤ 0 → cmpL b c ≤ 0 → cmpL a c ≤ 0):=by
 intro a
 induction a with
 | nil=>intro b c;cases b <;> cases c <;> simp [cmpL]
 | cons x a ih=>
   intro b c
   refine ⟨by simp [cmpL,(ih a a).1],?_⟩
   cases b with
   | nil=>cases c <;> simp [cmpL]
   | cons y b=>
     cases c with
     | nil=>simp [cmpL]
     | cons z c=>
       obtain ⟨_,h1⟩:=ih b c
       simp only [cmpL]
       intro q1 q2
       split at q1
       · split at q2
         · rw [if_pos (by omega)];decide
         · split at q2
           · omega
           · rw [if_pos (by omega)];decide
       · split at q1
         · omega
         · split at q2
           · rw [if_pos (by omega)];decide
           · split at q2
             · omega
             · rw [if_neg (by omega),if_neg (by omega)];exact h1 q1 q2
instance oLE:LE ByteArray:=⟨fun s t=>cmpB s t ≤ 0⟩
instance oLT:LT ByteArray:=⟨fun s t=>cmpB s t < 0⟩
instance oDlt (s t:ByteArray):Decidable (s < t):=inferInstanceAs (Decidable (cmpB s t < 0))
instance oDle (s t:ByteArray):Decidable (s ≤ t):=inferInstanceAs (Decidable (cmpB s t ≤ 0))
theorem o_anti (s t:ByteArray):cmpB t s = - cmpB s t:=(oL_anti _ _).1
theorem o_self (s:ByteArray):cmpB s s = 0:=(oL_lt _ [] []).1
theorem o_eq (s t:ByteArray):cmpB s t = 0 ↔ s = t:=by
 refine ⟨fun h=>?_,fun h=>h ▸ o_self s⟩
 have:=(oL_anti s.data.toList t.data.toList).2 h
 exact ByteArray.ext (Array.toList_inj.1 this)
theorem o_le (s t:ByteArray):cmpB s t ≤ 0 ↔ s ≤ t:=Iff.rfl
theorem o_lt (s t:ByteArray):cmpB s t < 0 ↔ s < t:=Iff.rfl
instance oLin:Std.IsLinearOrder ByteArray where
 le_refl a:=(o_le _ _).1 (Int.le_of_eq (o_self a))
 le_trans a b c h1 h2:=(oL_lt _ _ _).2 h1 h2
 le_antisymm a b h1 h2:=(o_eq a b).1 (Int.le_antisymm h1 (by have:=(o_le b a).2 h2;rw [o_anti] at this;omega))
 le_total a b:=by rw [← o_le,← o_le,o_anti a b];omega
instance oLaw:Std.LawfulOrderLT ByteArray where
 lt_iff a b:=by rw [← o_le,← o_le,← o_lt,o_anti a b];omega
end Go.Proofs.YtfcpkegmdlchhaaGreat
