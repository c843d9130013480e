/- Texts joined: Lw29 OpenP OpenRg OpenKn OpenIm. -/
import Derived.Test.YtfcpkegmdlchhaaGreatJ40
import Derived.Test.YtfcpkegmdlchhaaGreatJ41
import Derived.Test.YtfcpkegmdlchhaaGreatJ07
import Derived.Test.YtfcpkegmdlchhaaGreatJ06
import Derived.Test.YtfcpkegmdlchhaaGreatJ26
import Derived.Test.YtfcpkegmdlchhaaGreatJ09
import Derived.Test.YtfcpkegmdlchhaaGreatJ12
import Derived.Test.YtfcpkegmdlchhaaGreatJ30
set_option maxRecDepth 10000
set_option maxHeartbeats 8000000
namespace Go.Proofs.YtfcpkegmdlchhaaGreat
open Go.RowKit
theorem prB_nil:PrB [] [] []:=by
 have h0:=numI_len (0:Int) (by decide)
 refine ⟨by simp,fewK_nil,by simp,?_,?_,?_⟩
 · unfold rgsBy;simp;omega
 · unfold itemsB;simp [itemsT];omega
 · unfold knowB;simp;omega
theorem plain_B {n:Nt} (h:ntR n = true):ntB (plainN n) = ntB n ∧ ntR (plainN n) = true ∧ plainN (plainN n) = plainN n:=by
 have hk:=ntR_kind h
 by_cases c1:n.kind = 1
 · refine ⟨by simp [ntB,plainN,c1],?_,by simp [plainN,c1]⟩
   unfold ntR at h;rw [if_pos c1] at h;simp [ntR,plainN,c1,h]
 by_cases c2:n.kind = 2
 · refine ⟨by simp [ntB,plainN,c2],?_,by simp [plainN,c2]⟩
   unfold ntR at h;rw [if_neg c1,if_pos c2] at h;simp [ntR,plainN,c2];simpa using h
 by_cases c3:n.kind = 3
 · refine ⟨by simp [ntB,plainN,c3],?_,by simp [plainN,c3]⟩
   unfold ntR at h;rw [if_neg c1,if_neg c2,if_pos c3] at h;simp [ntR,plainN,c3,h]
 by_cases c4:n.kind = 4
 · refine ⟨by simp [ntB,plainN,c4],?_,by simp [plainN,c4]⟩
   unfold ntR at h;rw [if_neg c1,if_neg c2,if_neg c3,if_pos c4] at h;simp [ntR,plainN,c4];simpa using h
 · have c5:n.kind = 5:=by omega
   refine ⟨by simp [ntB,plainN,c5],?_,by simp [plainN,c5]⟩
   unfold ntR at h;rw [if_neg c1,if_neg c2,if_neg c3,if_neg c4] at h;simp [ntR,plainN,c5]
   simp at h
   simp [h]
theorem nt_put' {n:Nt} (h:ntR n = true) (h1:n.kind = 1 → PrB n.st.flt n.st.its n.st.know) (h5:n.kind = 5 → PrB [] n.its n.know) (hs:n.kind = 1 → (staB n.st).length ≤ 100000000):rdNt (ntB n) = (plainN n,0):=by
 obtain ⟨e1,e2,e3⟩:=plain_B h
 have hz:(staB {}).length ≤ 1000000000:=by
   have h0:=numI_len (0:Int) (by decide)
   have q1:=txB_len (rgsBy []) (by have:=prB_nil.bf;exact this)
   have q2:=txB_len (itemsB []) (by have:=prB_nil.bi;exact this)
   have q3:=txB_len (knowB []) (by have:=prB_nil.bk;exact this)
   have p1:=prB_nil.bf
   have p2:=prB_nil.bi
   have p3:=prB_nil.bk
   unfold staB
   simp only [List.length_append]
   omega
 have e:=nt_put (n:=plainN n) e2 (by
   unfold plainN
   by_cases c1:n.kind = 1
   · rw [if_pos c1];exact h1 c1
   rw [if_neg c1]
   split
   · exact prB_nil
   split
   · exact prB_nil
   split
   · exact prB_nil
   split
   · exact prB_nil
   · exact prB_nil) (by
   unfold plainN
   split
   · exact prB_nil
   split
   · exact prB_nil
   split
   · exact prB_nil
   split
   · exact prB_nil
   split
   · rename_i c5;exact h5 c5
   · exact prB_nil) (by
   unfold plainN
   by_cases c1:n.kind = 1
   · rw [if_pos c1];have:=hs c1;simp only;omega
   rw [if_neg c1]
   split
   · exact hz
   split
   · exact hz
   split
   · exact hz
   split
   · exact hz
   · exact hz)
 rw [e1,e3] at e
 exact e
abbrev ex29:Nt:={ kind:=3,key:=⟨#[107]⟩ }
abbrev ex29Cs:List PV:=[rawP (.int .i64 3),zI',nilP',nilP',nilP',zI',rawP (.string ⟨#[107]⟩),zI',zS',zI',zI',zI',nilP',nilP']
theorem ex29_R:ntR ex29 = true:=by decide
theorem ex29_L:ntB ex29 = [3,1,107]:=by
 have h:∀ n:Nat,n < 128 → numI (n:Int) = [UInt8.ofNat n]:=fun n hn=>by unfold numI;rw [Int.toNat_natCast,numB_lt hn]
 unfold ntB
 rw [if_neg (by decide),if_neg (by decide),if_pos (by decide)]
 have e:numI ex29.kind = numI ((3:Nat):Int):=rfl
 have e2:textB ex29.key = [1,107]:=by
   unfold textB
   rw [show ex29.key.size = 1 from rfl,numB_lt (by decide)]
   rfl
 rw [e,h 3 (by decide),e2]
 rfl
theorem ex29_B:NtB ex29:=⟨stB_z,fun h=>absurd h (by decide),fun h=>absurd h (by decide),by simp,kOk_nil,pcsSz_nl,fewK_nil,by simp,fun _=>prB_nil.bi,fun _=>prB_nil.bk⟩
theorem ex29_rd:rdNt [3,1,107] = (ex29,0):=by
 rw [← ex29_L,nt_put' ex29_R (fun h=>absurd h (by decide)) (fun h=>absurd h (by decide)) (fun h=>absurd h (by decide))]
 rfl
section
theorem awake29:Fn Tryz.prog 6 [] (boR true):=by
 have a1:Fn Tryz.prog 15 [.per (aggP ex29Cs)] _:=(im_Of ex29 ex29_B).arg1 aI
 rw [ex29_R,if_pos rfl,if_pos rfl,ex29_L] at a1
 have a2:=im_Read [3,1,107] (by decide)
 rw [ex29_rd] at a2
 have a3:=ref_BytesEq [3,1,107] [3,1,107] (by decide)
 rw [decide_eq_true rfl] at a3
 refine fi Tryz.func6 Tryz.ntmps6 ?_
 (have kc1:=a1;have kc2:=a2;have kc3:=a3;refine w0 ?_;(repeat' first|refine W2.mk ?_ ?_|refine W1.mk fun hc=>?_);all_goals clear kc3 kc2 kc1)
 all_goals
   refine rt1 ?_
   refine rv_bool rfl ?_
   first|rfl|(simp;done)
theorem lawImageStates (s:Sta):Fn Tryz.prog 3 [stC s] (boR true):=by
 have a0:=awake29
 have a1:=rst_Long s
 cases hlg:longS s with
 | true=>
   rw [hlg] at a1
   refine fi Tryz.func3 Tryz.ntmps3 ?_
   (have kc1:=a0;have kc2:=a1;refine w0 ?_;(repeat' first|refine W2.mk ?_ ?_|refine W1.mk fun hc=>?_);all_goals clear kc2 kc1)
   refine rt1 ?_
   exact rv_bool rfl rfl
 | false=>
   rw [hlg] at a1
   obtain ⟨hB,hQ⟩:=longS_B hlg
   have a2:=im_State s hB (fun h=>(hQ h).1)
   have a3:=rst_Right s hB
   cases hr:stR s with
   | false=>
     rw [hr] at a2 a3
     rw [if_neg (by simp),if_neg (by simp)] at a2
     clear hB hQ hlg
     refine fi Tryz.func3 Tryz.ntmps3 ?_
     (have kc1:=a0;have kc2:=a1;have kc3:=a2;have kc4:=a3;refine w0 ?_;(repeat' first|refine W2.mk ?_ ?_|refine W1.mk fun hc=>?_);all_goals clear kc4 kc3 kc2 kc1)
     all_goals
       refine rt1 ?_
       refine rv_bool rfl ?_
       first|rfl|(simp;done)
   | true=>
     rw [hr] at a2 a3
     rw [if_pos rfl,if_pos rfl] at a2
     obtain ⟨q1,q2⟩:=hQ hr
     have a4:=im_ReadState (staB s) (by omega)
     rw [st_put hr q1] at a4
     have a5:=(rim_State s hr q1).frz
     have a6:=ref_BytesEq (staB s) (staB s) (by omega)
     rw [decide_eq_true rfl] at a6
     have a7:=rst_Same s s (by have:=hB.flt;omega) (pcsMid_sz hB.kmid) (by have:=hB.its;omega) rfl
     clear hB hQ hlg q1 q2 hr
     generalize staB s = B at *
     refine fi Tryz.func3 Tryz.ntmps3 ?_
     (have kc1:=a0;have kc2:=a1;have kc3:=a2;have kc4:=a3;have kc5:=a4;have kc6:=a5;have kc7:=a6;have kc8:=a7;refine w0 ?_;(repeat' first|refine W2.mk ?_ ?_|refine W1.mk fun hc=>?_);all_goals clear kc8 kc7 kc6 kc5 kc4 kc3 kc2 kc1)
     all_goals
       refine rt1 ?_
       refine rv_bool rfl ?_
       first|rfl|(simp;done)
theorem lawImageNotes (n:Nt):Fn Tryz.prog 4 [ntC n] (boR true):=by
 have a0:=awake29
 have a1:=rim_Long n
 cases hlg:longN n with
 | true=>
   rw [hlg] at a1
   refine fi Tryz.func4 Tryz.ntmps4 ?_
   (have kc1:=a0;have kc2:=a1;refine w0 ?_;(repeat' first|refine W2.mk ?_ ?_|refine W1.mk fun hc=>?_);all_goals clear kc2 kc1)
   refine rt1 ?_
   exact rv_bool rfl rfl
 | false=>
   rw [hlg] at a1
   obtain ⟨hB,hP,hL⟩:=longN_B hlg
   have a2:=im_Of n hB
   have a3:=rim_Right n hB.st hB.keys (by have:=hB.its;omega) hB.ksz
   cases hr:ntR n with
   | false=>
     rw [hr] at a2 a3
     rw [if_neg (by simp),if_neg (by simp)] at a2
     clear hB hP hL hlg
     refine fi Tryz.func4 Tryz.ntmps4 ?_
     (have kc1:=a0;have kc2:=a1;have kc3:=a2;have kc4:=a3;refine w0 ?_;(repeat' first|refine W2.mk ?_ ?_|refine W1.mk fun hc=>?_);all_goals clear kc4 kc3 kc2 kc1)
     all_goals
       refine rt1 ?_
       refine rv_bool rfl ?_
       first|rfl|(simp;done)
   | true=>
     rw [hr] at a2 a3
     rw [if_pos rfl,if_pos rfl] at a2
     have hst:n.kind = 1 → stR n.st = true:=fun c=>by unfold ntR at hr;rw [if_pos c] at hr;exact hr
     have a4:=im_Read (ntB n) (hL hr)
     rw [nt_put' hr (fun c=>hB.sp (hst c)) (fun c=>hP c hr) (fun c=>hB.bs (hst c))] at a4
     have a5:=(rim_Of n hr (fun c=>hB.sp (hst c)) (fun c=>hB.bs (hst c)) (fun c=>hP c hr)).frz
     have a6:=ref_BytesEq (ntB n) (ntB n) (by have:=hL hr;omega)
     rw [decide_eq_true rfl] at a6
     have a8:=rim_Plain n
     have hz:(plainN n).st.flt.length ≤ 1000000000 ∧ pcsSz (plainN n).st.know ∧ (plainN n).st.its.length ≤ 1000000000 ∧ pcsSz (plainN n).know ∧ (plainN n).its.length ≤ 1000000000:=by
       have g1:=hB.st.flt
       have g2:=pcsMid_sz hB.st.kmid
       have g3:=hB.st.its
       have g4:=hB.ksz
       have g5:=hB.its
       have z:=pcsSz_nl
       unfold plainN
       split
       · exact ⟨by simp only;omega,g2,by simp only;omega,z,by simp⟩
       split
       · exact ⟨by simp,z,by simp,z,by simp⟩
       split
       · exact ⟨by simp,z,by simp,z,by simp⟩
       split
       · exact ⟨by simp,z,by simp,z,by simp⟩
       split
       · exact ⟨by simp,z,by simp,g4,by simp only;omega⟩
       · exact ⟨by simp,z,by simp,z,by simp⟩
     have a7:=rim_Same (plainN n) (plainN n) rfl hz.1 hz.2.1 hz.2.2.1 hz.2.2.2.1 hz.2.2.2.2
     clear hB hP hL hlg hst hz hr
     generalize ntB n = B at *
     generalize plainN n = m at *
     refine fi Tryz.func4 Tryz.ntmps4 ?_
     (have kc1:=a0;have kc2:=a1;have kc3:=a2;have kc4:=a3;have kc5:=a4;have kc6:=a5;have kc7:=a6;have kc8:=a7;have kc9:=a8;refine w0 ?_;(repeat' first|refine W2.mk ?_ ?_|refine W1.mk fun hc=>?_);all_goals clear kc9 kc8 kc7 kc6 kc5 kc4 kc3 kc2 kc1)
     all_goals
       refine rt1 ?_
       refine rv_bool rfl ?_
       first|rfl|(simp;done)
theorem lawImageReads (b:List UInt8):Fn Tryz.prog 5 [.per (bysP b)] (boR true):=by
 have a0:=awake29
 by_cases hb:1200 < b.length
 · refine fi Tryz.func5 Tryz.ntmps5 ?_
   (have kc1:=a0;refine w0 ?_;(repeat' first|refine W2.mk ?_ ?_|refine W1.mk fun hc=>?_);all_goals clear kc1)
   refine rt1 ?_
   exact rv_bool rfl rfl
 have a1:=im_ReadState b (by omega)
 have a2:=rim_ReadState b (by omega)
 have a3:=im_Read b (by omega)
 have a4:=rim_Read b (by omega)
 have hS:=rdSt_B (l:=b) (by omega)
 have hP:=rdSt_P (l:=b) (by omega)
 have hK:=st_back (l:=b)
 obtain ⟨n1,n2,n3,n4,n5⟩:=rdNt_B (b:=b) (by omega)
 have hM:=nt_back (l:=b)
 generalize rdSt b = Q at *
 obtain ⟨s,f⟩:=Q
 generalize rdNt b = Q at *
 obtain ⟨n,h⟩:=Q
 dsimp only at a1 a2 a3 a4 hS hP hK n1 n2 n3 n4 n5 hM
 have a5:=rst_Same s s (by have:=hS.flt;omega) (pcsMid_sz hS.kmid) (by have:=hS.its;omega) rfl
 have a6:=rim_Same n n rfl (by have:=n1.flt;omega) (pcsMid_sz n1.kmid) (by have:=n1.its;omega) n2 (by omega)
 have a7:=ref_BytesEq b b (by omega)
 rw [decide_eq_true rfl] at a7
 by_cases hf:f = 0
 · obtain ⟨k1,k2⟩:=hK hf
   have a8:=(rim_State s k2 (hP hf)).frz
   rw [k1] at a8
   by_cases hh:h = 0
   · obtain ⟨m1,m2⟩:=hM hh
     obtain ⟨p1,p2⟩:=n5 hh
     have a9:=(rim_Of n m2 (fun c=>(p1 c).1) (fun c=>(p1 c).2) p2).frz
     rw [m1] at a9
     subst hf hh
     clear hS hP hK n1 n2 n3 n4 n5 hM k1 k2 m1 m2 p1 p2
     refine fi Tryz.func5 Tryz.ntmps5 ?_
     (have kc1:=a0;have kc2:=a1;have kc3:=a2;have kc4:=a3;have kc5:=a4;have kc6:=a5;have kc7:=a6;have kc8:=a7;have kc9:=a8;have kc10:=a9;refine w0 ?_;(repeat' first|refine W2.mk ?_ ?_|refine W1.mk fun hc=>?_);all_goals clear kc10 kc9 kc8 kc7 kc6 kc5 kc4 kc3 kc2 kc1)
     all_goals
       refine rt1 ?_
       refine rv_bool rfl ?_
       first|rfl|(simp;done)
   · subst hf
     clear hS hP hK n1 n2 n3 n4 n5 hM k1 k2
     refine fi Tryz.func5 Tryz.ntmps5 ?_
     (have kc1:=a0;have kc2:=a1;have kc3:=a2;have kc4:=a3;have kc5:=a4;have kc6:=a5;have kc7:=a6;have kc8:=a7;have kc9:=a8;refine w0 ?_;(repeat' first|refine W2.mk ?_ ?_|refine W1.mk fun hc=>?_);all_goals clear kc9 kc8 kc7 kc6 kc5 kc4 kc3 kc2 kc1)
     all_goals
       refine rt1 ?_
       refine rv_bool rfl ?_
       first|rfl|(simp;done)
 · by_cases hh:h = 0
   · obtain ⟨m1,m2⟩:=hM hh
     obtain ⟨p1,p2⟩:=n5 hh
     have a9:=(rim_Of n m2 (fun c=>(p1 c).1) (fun c=>(p1 c).2) p2).frz
     rw [m1] at a9
     subst hh
     clear hS hP hK n1 n2 n3 n4 n5 hM m1 m2 p1 p2
     refine fi Tryz.func5 Tryz.ntmps5 ?_
     (have kc1:=a0;have kc2:=a1;have kc3:=a2;have kc4:=a3;have kc5:=a4;have kc6:=a5;have kc7:=a6;have kc8:=a7;have kc9:=a9;refine w0 ?_;(repeat' first|refine W2.mk ?_ ?_|refine W1.mk fun hc=>?_);all_goals clear kc9 kc8 kc7 kc6 kc5 kc4 kc3 kc2 kc1)
     all_goals
       refine rt1 ?_
       refine rv_bool rfl ?_
       first|rfl|(simp;done)
   · clear hS hP hK n1 n2 n3 n4 n5 hM
     refine fi Tryz.func5 Tryz.ntmps5 ?_
     (have kc1:=a0;have kc2:=a1;have kc3:=a2;have kc4:=a3;have kc5:=a4;have kc6:=a5;have kc7:=a6;have kc8:=a7;refine w0 ?_;(repeat' first|refine W2.mk ?_ ?_|refine W1.mk fun hc=>?_);all_goals clear kc8 kc7 kc6 kc5 kc4 kc3 kc2 kc1)
     all_goals
       refine rt1 ?_
       refine rv_bool rfl ?_
       first|rfl|(simp;done)
end
abbrev NIn (w:World):BP:=g0.N (cx w)
/-- cells that read as y is written -/
def Wr {β:Type} (w:World) (k:Nat) (f:β → List PV) (cs:List Value) (y:β):Prop:=
 cs.length = k ∧ (f y).length = k ∧ ∀ (j:Nat) (A:PV) (u:Value),(f y)[j]? = some A → cs[j]? = some u → u.oneCell' = true ∧ A.p (NIn w) w u
def RdP {β:Type} (P:Program) (w:World) (t:TypeId) (k:Nat) (f:β → List PV) (Q:β → Prop):Prop:=Rd P w t (fun cs=>∃ y:β,Q y ∧ Wr w k f cs y)
section
variable {P:Program} {w:World} {t e:TypeId} {β:Type} {k:Nat} {f:β → List PV} {Q:β → Prop}
theorem Wr.ones {cs:List Value} {y:β} (h:Wr w k f cs y):∀ u ∈ cs,u.oneCell' = true:=fun u hu=>by
 obtain ⟨j,hj,rfl⟩:=List.getElem_of_mem hu
 have hj':j < (f y).length:=by have:=h.1;have:=h.2.1;omega
 exact (h.2.2 j _ _ (List.getElem?_eq_getElem hj') (List.getElem?_eq_getElem hj)).1
theorem RdP.slice (h:RdP P w e k f Q) (ht:P.underlying t = some (.slice e)) (hk:P.cellsOf e = k) (hk0:0 < k) :
   Rd P w t (fun cs=>∃ (v:Value) (l:List β),cs = [v] ∧ (lstP k (l.map f)).p (NIn w) w v ∧ ∀ y ∈ l,Q y):=by
 refine (Rd.slice (α:={ cs:List Value // cs.length = k ∧ ∀ u ∈ cs,u.oneCell' = true }) (enc:=fun x=>x.1) (G:=fun x=>∃ y:β,Q y ∧ Wr w k f x.1 y) ht hk hk0 h fun cs ⟨y,h1,h2⟩=>⟨⟨cs,h2.1,h2.ones⟩,rfl,y,h1,h2⟩).mono ?_
 rintro cs ⟨v,lv,rfl,⟨a,c,b,o,rfl,h1,h2,h3,h0,h4⟩,hG⟩
 obtain ⟨l,hl,hg⟩:=list_of_each (G:=fun i y=>∀ (h:i < lv.length),Q y ∧ Wr w k f lv[i].1 y) lv.length (fun i hi=>by
   obtain ⟨y,q1,q2⟩:=hG lv[i] (List.getElem_mem hi)
   exact ⟨y,fun _=>⟨q1,q2⟩⟩)
 refine ⟨_,l,rfl,⟨a,c,b,o,by rw [List.length_map,hl],by rw [List.length_map,hl];exact h1,h2,h0,fun hn=>?_,fun i cs hi=>?_⟩,fun y hy=>?_⟩
 · rw [List.length_map,hl] at hn
   refine ⟨h3 hn,?_,fun hb=>hb.elim id (fun h=>h rfl)⟩
   have hp:=lv[0].2.1
   have:=h4 0 lv[0] (by simp [hn]) 0 (lv[0].1[0]'(by omega)) (by simp)
   rcases Nat.lt_or_ge b w.heap.size with hb|hb
   · exact hb
   · simp [World.cell?,Array.getElem?_eq_none hb] at this
 · rw [List.getElem?_map] at hi
   cases hx:l[i]? with
   | none=>rw [hx] at hi;cases hi
   | some y=>
     rw [hx] at hi;cases hi
     have hil:i < lv.length:=by
       have:=(List.getElem?_eq_some_iff.1 hx).1;omega
     obtain ⟨_,q1,q2,q3⟩:=hg i y hx hil
     refine ⟨q2,fun j A hj=>?_⟩
     have hjk:j < lv[i].1.length:=by
       have:=(List.getElem?_eq_some_iff.1 hj).1;omega
     obtain ⟨r1,r2⟩:=q3 j A _ hj (List.getElem?_eq_getElem hjk)
     exact ⟨_,h4 i lv[i] (List.getElem?_eq_getElem hil) j _ (List.getElem?_eq_getElem hjk),r1,r2⟩
 · obtain ⟨i,hi,rfl⟩:=List.getElem_of_mem hy
   exact (hg i _ (List.getElem?_eq_getElem hi) (by omega)).1
/-- flat things -/
theorem RdP.flat {enc:β → List Value} (hE:Enc k enc) (h:Rd P w e (fun cs=>∃ y,cs = enc y ∧ Q y)):RdP P w e k (rawsE enc) Q:=
 h.mono fun cs ⟨y,h1,h2⟩=>⟨y,h2,by rw [h1,hE.len],by unfold rawsE;rw [List.length_map,hE.len],fun j A u hj hu=>by
   unfold rawsE at hj
   rw [List.getElem?_map] at hj
   rw [h1] at hu
   rw [hu] at hj;cases hj
   exact ⟨hE.one y u (List.mem_of_getElem? hu),rfl⟩⟩
end
theorem list3 {α:Type} (l:List α) (h:l.length = 3):∃ a b c,l = [a,b,c]:=by
 match l,h with|[a,b,c],_=>exact ⟨a,b,c,rfl⟩
theorem list4 {α:Type} (l:List α) (h:l.length = 4):∃ a b c d,l = [a,b,c,d]:=by
 match l,h with|[a,b,c,d],_=>exact ⟨a,b,c,d,rfl⟩
def RgWf (x:Rg):Prop:=x.lo.size ≤ maxLen ∧ x.hi.size ≤ maxLen
theorem rdRg (w:World):Rd Tryz.prog w 114 (fun cs=>∃ x,cs = encRg x ∧ RgWf x):=by
 refine (Rd.struct' Tryz.underlying114).mono ?_
 rintro cs ⟨hl,hf⟩
 obtain ⟨c0,c1,c2,rfl⟩:=list3 cs (hl.trans (by kernel_rfl))
 obtain ⟨s0,h0,w0⟩:=hf 0 0 9 1 _ rfl (by kernel_rfl) (Rd.string Tryz.underlying9)
 obtain ⟨s1,h1,w1⟩:=hf 1 1 9 1 _ rfl (by kernel_rfl) (Rd.string Tryz.underlying9)
 obtain ⟨b2,h2⟩:=hf 2 2 4 1 _ rfl (by kernel_rfl) (Rd.bool Tryz.underlying4)
 simp at h0 h1 h2
 subst h0 h1 h2
 exact ⟨⟨s0,s1,b2⟩,rfl,w0,w1⟩
theorem Arg.range {w:World} {v:Value} (h:Arg Tryz.prog w 114 v):∃ x,v = .agg (encRg x).toArray ∧ RgWf x:=by
 obtain ⟨cs,rfl⟩:=h.cells (by rw [Tryz.underlying114])
 obtain ⟨x,h1,h2⟩:=h.rd _ (rdRg w)
 refine ⟨x,?_,h2⟩
 rw [← h1];simp [Value.cells]
theorem rdRn (w:World):Rd Tryz.prog w 134 (fun cs=>∃ x,cs = encRn x ∧ True):=by
 refine (Rd.struct' Tryz.underlying134).mono ?_
 rintro cs ⟨hl,hf⟩
 obtain ⟨c0,c1,rfl⟩:=list2 cs (hl.trans (by kernel_rfl))
 obtain ⟨n0,h0,w0⟩:=hf 0 0 3 1 _ rfl (by kernel_rfl) (Rd.int Tryz.underlying3)
 obtain ⟨n1,h1,w1⟩:=hf 1 1 3 1 _ rfl (by kernel_rfl) (Rd.int Tryz.underlying3)
 simp at h0 h1
 subst h0 h1
 exact ⟨⟨n0,n1⟩,rfl,trivial⟩
theorem rdpRn (w:World):RdP Tryz.prog w 134 2 rnP (fun _=>True):=RdP.flat encRn_ok (rdRn w)
theorem rdpKn (w:World):RdP Tryz.prog w 132 2 knP (fun _=>True):=by
 refine (Rd.struct' Tryz.underlying132).mono ?_
 rintro cs ⟨hl,hf⟩
 obtain ⟨c0,c1,rfl⟩:=list2 cs (hl.trans (by kernel_rfl))
 obtain ⟨n0,h0,w0⟩:=hf 0 0 3 1 _ rfl (by kernel_rfl) (Rd.int Tryz.underlying3)
 obtain ⟨v,l,h1,h2,_⟩:=hf 1 1 130 1 _ rfl (by kernel_rfl) ((rdpRn w).slice Tryz.underlying130 (by kernel_rfl) (by decide))
 simp at h0 h1
 subst h0 h1
 refine ⟨⟨n0,l⟩,trivial,rfl,rfl,fun j A u hj hu=>?_⟩
 match j,hj,hu with
 | 0,hj,hu=>cases hj;cases hu;exact ⟨rfl,rfl⟩
 | 1,hj,hu=>cases hj;cases hu;exact ⟨by obtain ⟨a,c,b,o,rfl,_⟩:=h2;rfl,h2⟩
 | _ + 2,hj,_=>simp at hj
theorem rdpPc (w:World):RdP Tryz.prog w 117 4 pcP (fun p=>RgWf p.rg):=by
 refine (Rd.struct' Tryz.underlying117).mono ?_
 rintro cs ⟨hl,hf⟩
 obtain ⟨c0,c1,c2,c3,rfl⟩:=list4 cs (hl.trans (by kernel_rfl))
 obtain ⟨r,h0,w0⟩:=hf 0 0 114 3 _ rfl (by kernel_rfl) (rdRg w)
 obtain ⟨v,l,h1,h2,_⟩:=hf 1 3 115 1 _ rfl (by kernel_rfl) ((rdpKn w).slice Tryz.underlying115 (by kernel_rfl) (by decide))
 simp [encRg] at h0 h1
 obtain ⟨rfl,rfl,rfl⟩:=h0
 subst h1
 refine ⟨⟨r,l⟩,w0,rfl,rfl,fun j A u hj hu=>?_⟩
 match j,hj,hu with
 | 0,hj,hu=>cases hj;cases hu;exact ⟨rfl,rfl⟩
 | 1,hj,hu=>cases hj;cases hu;exact ⟨rfl,rfl⟩
 | 2,hj,hu=>cases hj;cases hu;exact ⟨rfl,rfl⟩
 | 3,hj,hu=>cases hj;cases hu;exact ⟨by obtain ⟨a,c,b,o,rfl,_⟩:=h2;rfl,h2⟩
 | _ + 4,hj,_=>simp at hj
theorem one_lst' {N:BP} {w:World} {k:Nat} {es:List (List PV)} {v:Value} (h:(lstP k es).p N w v):v.oneCell' = true:=by obtain ⟨a,c,b,o,rfl,_⟩:=h;rfl
theorem list5 {α:Type} (l:List α) (h:l.length = 5):∃ a0 a1 a2 a3 a4,l = [a0,a1,a2,a3,a4]:=by
 match l,h with|[a0,a1,a2,a3,a4],_=>exact ⟨a0,a1,a2,a3,a4,rfl⟩
theorem list14 {α:Type} (l:List α) (h:l.length = 14):∃ a0 a1 a2 a3 a4 a5 a6 a7 a8 a9 a10 a11 a12 a13,l = [a0,a1,a2,a3,a4,a5,a6,a7,a8,a9,a10,a11,a12,a13]:=by
 match l,h with|[a0,a1,a2,a3,a4,a5,a6,a7,a8,a9,a10,a11,a12,a13],_=>exact ⟨a0,a1,a2,a3,a4,a5,a6,a7,a8,a9,a10,a11,a12,a13,rfl⟩
def StWf (s:Sta):Prop:=(∀ r ∈ s.flt,RgWf r) ∧ (∀ p ∈ s.know,RgWf p.rg) ∧ (∀ x ∈ s.its,ItWf x)
theorem rdSta (w:World):Rd Tryz.prog w 26 (fun cs=>∃ s:Sta,StWf s ∧ Wr w 5 stCs cs s):=by
 refine (Rd.struct' Tryz.underlying26).mono ?_
 rintro cs ⟨hl,hf⟩
 obtain ⟨c0,c1,c2,c3,c4,rfl⟩:=list5 cs (hl.trans (by kernel_rfl))
 obtain ⟨n0,h0,_⟩:=hf 0 0 3 1 _ rfl (by kernel_rfl) (Rd.int Tryz.underlying3)
 obtain ⟨v1,l1,h1,p1,w1⟩:=hf 1 1 22 1 _ rfl (by kernel_rfl) ((RdP.flat encRg_ok (rdRg w)).slice Tryz.underlying22 (by kernel_rfl) (by decide))
 obtain ⟨v2,l2,h2,p2,w2⟩:=hf 2 2 23 1 _ rfl (by kernel_rfl) ((RdP.flat encIt_ok (rdIt w)).slice Tryz.underlying23 (by kernel_rfl) (by decide))
 obtain ⟨v3,l3,h3,p3,w3⟩:=hf 3 3 24 1 _ rfl (by kernel_rfl) ((rdpPc w).slice Tryz.underlying24 (by kernel_rfl) (by decide))
 obtain ⟨n4,h4,_⟩:=hf 4 4 3 1 _ rfl (by kernel_rfl) (Rd.int Tryz.underlying3)
 simp at h0 h1 h2 h3 h4
 subst h0 h1 h2 h3 h4
 refine ⟨⟨n0,l1,l2,l3,n4⟩,⟨w1,w3,w2⟩,rfl,rfl,fun j A u hj hu=>?_⟩
 match j,hj,hu with
 | 0,hj,hu|4,hj,hu=>cases hj;cases hu;exact ⟨rfl,rfl⟩
 | 1,hj,hu=>cases hj;cases hu;exact ⟨one_lst' p1,p1⟩
 | 2,hj,hu=>cases hj;cases hu;exact ⟨one_lst' p2,p2⟩
 | 3,hj,hu=>cases hj;cases hu;exact ⟨one_lst' p3,p3⟩
 | _ + 5,hj,_=>simp at hj
theorem Arg.state {w:World} {v:Value} (h:Arg Tryz.prog w 26 v):∃ s:Sta,StWf s ∧ In w v (stC s):=by
 obtain ⟨cs,rfl⟩:=h.cells (by rw [Tryz.underlying26])
 obtain ⟨s,h1,h2,h3,h4⟩:=h.rd _ (rdSta w)
 refine ⟨s,h1,cs,rfl,?_,fun j A hj=>?_⟩
 · have:cs.toList.length = 5:=h2
   simpa using this
 · have hjl:j < cs.toList.length:=by
     have:=(List.getElem?_eq_some_iff.1 hj).1
     show j < (Value.agg cs).cells.toList.length
     rw [h2];exact this
   obtain ⟨q1,q2⟩:=h4 j A cs.toList[j] hj (List.getElem?_eq_getElem hjl)
   exact ⟨cs.toList[j],by simp at hjl ⊢,q1,q2⟩
theorem rdNote (w:World):Rd Tryz.prog w 39 (fun cs=>∃ n:Nt,True ∧ Wr w 14 ntCs cs n):=by
 refine (Rd.struct' Tryz.underlying39).mono ?_
 rintro cs ⟨hl,hf⟩
 obtain ⟨c0,c1,c2,c3,c4,c5,c6,c7,c8,c9,c10,c11,c12,c13,rfl⟩:=list14 cs (hl.trans (by kernel_rfl))
 obtain ⟨n0,h0,_⟩:=hf 0 0 3 1 _ rfl (by kernel_rfl) (Rd.int Tryz.underlying3)
 obtain ⟨s,_,g1,g2,g3⟩:=hf 1 1 26 5 _ rfl (by kernel_rfl) (rdSta w)
 obtain ⟨n6,h6,_⟩:=hf 2 6 9 1 _ rfl (by kernel_rfl) (Rd.string Tryz.underlying9)
 obtain ⟨n7,h7,_⟩:=hf 3 7 3 1 _ rfl (by kernel_rfl) (Rd.int Tryz.underlying3)
 obtain ⟨n8,h8,_⟩:=hf 4 8 9 1 _ rfl (by kernel_rfl) (Rd.string Tryz.underlying9)
 obtain ⟨n9,h9,_⟩:=hf 5 9 3 1 _ rfl (by kernel_rfl) (Rd.int Tryz.underlying3)
 obtain ⟨n10,h10,_⟩:=hf 6 10 3 1 _ rfl (by kernel_rfl) (Rd.int Tryz.underlying3)
 obtain ⟨n11,h11,_⟩:=hf 7 11 3 1 _ rfl (by kernel_rfl) (Rd.int Tryz.underlying3)
 obtain ⟨v12,l12,h12,p12,w12⟩:=hf 8 12 23 1 _ rfl (by kernel_rfl) ((RdP.flat encIt_ok (rdIt w)).slice Tryz.underlying23 (by kernel_rfl) (by decide))
 obtain ⟨v13,l13,h13,p13,w13⟩:=hf 9 13 24 1 _ rfl (by kernel_rfl) ((rdpPc w).slice Tryz.underlying24 (by kernel_rfl) (by decide))
 simp at h0 h6 h7 h8 h9 h10 h11 h12 h13
 subst h0 h6 h7 h8 h9 h10 h11 h12 h13
 refine ⟨⟨n0,s,n6,n7,n8,n9,n10,n11,l12,l13⟩,trivial,rfl,rfl,fun j A u hj hu=>?_⟩
 have g1':[c1,c2,c3,c4,c5].length = 5:=rfl
 match j,hj,hu with
 | 0,hj,hu|6,hj,hu|7,hj,hu|8,hj,hu|9,hj,hu|10,hj,hu|11,hj,hu=>cases hj;cases hu;exact ⟨rfl,rfl⟩
 | 1,hj,hu=>exact g3 0 A u hj hu
 | 2,hj,hu=>exact g3 1 A u hj hu
 | 3,hj,hu=>exact g3 2 A u hj hu
 | 4,hj,hu=>exact g3 3 A u hj hu
 | 5,hj,hu=>exact g3 4 A u hj hu
 | 12,hj,hu=>cases hj;cases hu;exact ⟨one_lst' p12,p12⟩
 | 13,hj,hu=>cases hj;cases hu;exact ⟨one_lst' p13,p13⟩
 | _ + 14,hj,_=>simp at hj
theorem Arg.note {w:World} {v:Value} (h:Arg Tryz.prog w 39 v):∃ n:Nt,In w v (ntC n):=by
 obtain ⟨cs,rfl⟩:=h.cells (by rw [Tryz.underlying39])
 obtain ⟨n,_,h2,h3,h4⟩:=h.rd _ (rdNote w)
 refine ⟨n,cs,rfl,?_,fun j A hj=>?_⟩
 · have:cs.toList.length = 14:=h2
   simpa using this
 · have hjl:j < cs.toList.length:=by
     have:=(List.getElem?_eq_some_iff.1 hj).1
     show j < (Value.agg cs).cells.toList.length
     rw [h2];exact this
   obtain ⟨q1,q2⟩:=h4 j A cs.toList[j] hj (List.getElem?_eq_getElem hjl)
   exact ⟨cs.toList[j],by simp at hjl ⊢,q1,q2⟩
end Go.Proofs.YtfcpkegmdlchhaaGreat
