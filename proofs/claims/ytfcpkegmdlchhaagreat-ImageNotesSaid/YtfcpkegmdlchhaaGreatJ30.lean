/- Texts joined: MsQ MixR CrcW FrW FrR MsC Map MsW ImQ ImW. -/
import Derived.Test.YtfcpkegmdlchhaaGreatJ19
import Derived.Test.YtfcpkegmdlchhaaGreatJ06
import Derived.Test.YtfcpkegmdlchhaaGreatJ18
import Derived.Test.YtfcpkegmdlchhaaGreatJ07
import Derived.Laws.BitsAllLaws
import Derived.Laws.IdiomStrings
import Derived.Test.YtfcpkegmdlchhaaGreatJ11
import Derived.Test.YtfcpkegmdlchhaaGreatJ10
import Derived.Test.YtfcpkegmdlchhaaGreatJ26
import Derived.Test.YtfcpkegmdlchhaaGreatJ17
import Derived.Maps.OwnOps
import Derived.Maps.Views
import Derived.Test.YtfcpkegmdlchhaaGreatJ20
import Derived.Test.YtfcpkegmdlchhaaGreatJ29
set_option maxRecDepth 10000
set_option maxHeartbeats 8000000
namespace Go.Proofs.YtfcpkegmdlchhaaGreat
open Go.RowKit
section
variable {P:Program} {n t:Nat} {ops:Array Oper} {o:Oper} {S:St}
/-- '[]byte(s)': bytes that nobody turns -/
theorem op_bs {src dst e:TypeId} {x:Operand} {s:ByteArray} (hp:Pl n o t) (ho:o.op = .convert src dst x) (hs:Und P src .string) (hd:Und P dst (.slice e)) (he:Und P e (.int .u8)) (hx:S.opd x = sC s) (hb:s.size ≤ 1000000000000) :
   OpOk n P ops o (opdN x) (.per (lstP 1 (s.data.toList.map byteP))) [] S:=by
 refine ⟨?_⟩
 intro C T hA a w ⟨g,hR⟩
 have hxe:=raw_opd (x:=x) hA (fun k h=>by simp [h]) hR hx
 unfold Exec
 rw [if_pos (hp.wanted a)]
 unfold Oper.wp
 have hex:(execOp a.eval o).run P w = .ok (.value (.slice (some ⟨w.heap.size,0,none⟩) s.size (grownCap w s.size 0 e))) (w.drew.alloc (.cells (bytesRow s (grownCap w s.size 0 e)) e ((bytesRow s (grownCap w s.size 0 e)).size,(bytesRow s (grownCap w s.size 0 e)).size + 1))):=by
   simp only [execOp,ho,Sem.run_bind,hxe,run_bytes_of_string w src dst e s hs.h hd.h he.h];rfl
 rw [hex,Oper.upon_value]
 refine ⟨g,hR.app0 ((Ext.refl w).drew.alloc _) hp.dOk ?_⟩
 show lstAt (g.N C) (g.N C) 1 (s.data.toList.map byteP) _ _
 have hl:(s.data.toList.map byteP).length = s.size:=by rw [List.length_map,Array.length_toList];rfl
 refine ⟨_,_,w.heap.size,0,by rw [hl],by rw [hl];exact grownCap_ge w _ _ _,grownCap_le_maxLen w _ _ _ (by unfold maxLen;omega),by simp,fun _=>⟨rfl,alloc_lt w.drew _,fun hn=>?_⟩,fun i ps hi=>?_⟩
 · rcases hn with hn|hn
   · exact n0_lt hR _ (Nat.le_refl _) hn
   · exact hn (ow_none hR _ (Nat.le_refl _))
 · rw [List.getElem?_map] at hi
   cases hc:s.data.toList[i]? with
   | none=>rw [hc] at hi;cases hi
   | some c=>
     rw [hc] at hi;cases hi
     refine ⟨rfl,fun j A hj=>?_⟩
     cases j with
     | succ j=>simp [byteP] at hj
     | zero=>
       simp [byteP] at hj;subst hj
       refine ⟨.int .u8 (c.toNat:Int),?_,rfl,rfl⟩
       have hq:=cell_at (heap_alloc_new w.drew (.cells (bytesRow s (grownCap w s.size 0 e)) e ((bytesRow s (grownCap w s.size 0 e)).size,(bytesRow s (grownCap w s.size 0 e)).size + 1))) (0 + i * 1 + 0)
       refine hq.trans ?_
       have hil:i < s.data.size:=by have:=(List.getElem?_eq_some_iff.1 hc).1;simpa using this
       have hcx:s.data[i] = c:=by
         have:=(List.getElem?_eq_some_iff.1 hc).2
         simpa using this
       unfold bytesRow
       rw [Nat.zero_add,Nat.mul_one,Nat.add_zero,Array.getElem?_append_left (by simpa using hil)]
       simp only [Array.getElem?_map,Array.getElem?_eq_getElem hil,hcx]
       rfl
end
theorem varint_PutBad (l:List UInt8) (ns:List Int) (h:¬ ∀ n ∈ ns,okNum n):Fn Tryz.prog 58 [bytesB l,intsB ns] (.tup2 (ownB []) (.per (rawP (.int .i64 2)))):=by
 refine ⟨⟨_,Tryz.func58,by kernel_rfl,by kernel_rfl⟩,fun N0 w vs _ ha=>?_⟩
 obtain ⟨v,u,rfl,h1,h2⟩:=args2 ha
 refine Calls.mono (put_bad v u ns w (lst_sl h2) h) ?_
 rintro e w' ⟨rfl,rfl⟩
 exact ⟨_,rfl,Ext.refl _,_,_,rfl,.inl ⟨rfl,rfl⟩,rfl⟩
section
variable {P:Program} {n t:Nat} {ops:Array Oper} {o:Oper} {S:St}
end
section
end
section
end
section
end
end Go.Proofs.YtfcpkegmdlchhaaGreat
namespace Go.Proofs.YtfcpkegmdlchhaaGreat
open Go.RowKit Go.WideMaps Go
section
variable {P:Program} {n t:Nat} {ops:Array Oper} {o:Oper} {S:St} {K E:TypeId}
end
section
variable {P:Program} {n t:Nat} {ops:Array Oper} {o:Oper} {S:St} {K E:TypeId}
end
section
theorem txB_len (p:List UInt8) (h:p.length ≤ 100000000):(txB p).length ≤ p.length + 9:=by
 unfold txB textB
 have hs:(⟨p.toArray⟩:ByteArray).size = p.length:=by simp [ByteArray.size]
 rw [hs,List.length_append]
 have:=numI_len (p.length:Int) (by omega)
 unfold numI at this
 simp at this ⊢
 omega
end
/-- what has bytes of its own: a function, what it is bound to, its bytes, what is wrong -/
structure Prt where
 f:FuncId
 A:PV
 b:List UInt8
 e:Int
abbrev prtQ (p:Prt):List PV:=[bndP p.f [p.A]]
def partsS (l:List UInt8):List Prt → List UInt8 × Int
 | []=>(l,0)
 | p :: ps=>if p.e = 0 then partsS (l ++ txB p.b) ps else ([],2)
instance:AggC Tryz.prog 60 false:=⟨_,Tryz.underlying60,rfl⟩
instance:Siz Tryz.prog 60 1:=⟨by kernel_rfl⟩
instance:Zro Tryz.prog 60 .nilFunc:=⟨by kernel_rfl⟩
abbrev lstsC (f:List Rg) (i:List It) (k:List Pc):Cnt:=.per (aggP [rgsP f,itsP i,pcsP k])
section
theorem im_put (b:List UInt8) (ns:List Int) (hb:b.length ≤ 1000000000) (hn:ns.length ≤ 100) (hok:∀ n ∈ ns,okNum n):Fn Tryz.prog 28 [bytesB b,intsB ns] (.per (bysP (b ++ ns.flatMap numI))):=by
 have h1:=(varint_Put b ns (by omega) hok).frz
 clear hok
 generalize b ++ ns.flatMap numI = R at *
 refine fi Tryz.func28 Tryz.ntmps28 ?_
 (have kc1:=h1;refine w0 ?_;(repeat' first|refine W2.mk ?_ ?_|refine W1.mk fun hc=>?_);all_goals clear kc1)
 refine rt1 ?_
 exact rv_per rfl
theorem im_parts (l:List UInt8) (ps:List Prt) (hl:l.length ≤ 1000000000) (hn:ps.length ≤ 10) (hs:∀ p ∈ ps,p.b.length ≤ 100000000) (hf:∀ p ∈ ps,Fn Tryz.prog p.f [.per p.A] (.tup2 (.per (bysP p.b)) (inR p.e))) :
   Fn Tryz.prog 27 [.per (bysP l),.bor 1 (ps.map prtQ)] (.tup2 (.per (bysP (partsS l ps).1)) (inR (partsS l ps).2)):=by
 generalize hR:partsS l ps = R
 refine fi Tryz.func27 Tryz.ntmps27 ?_
 (refine w0 ?_;(repeat' first|refine W2.mk ?_ ?_|refine W1.mk fun hc=>?_))
 refine AW_loopP (X:=Nat × List UInt8) (fun x=>x.1 ≤ ps.length ∧ x.2.length ≤ 1000000000 + 100000009 * x.1 ∧ partsS x.2 (ps.drop x.1) = R)
   (fun x=>mkSt [(0,.per (bysP x.2)),(10,.bor 1 (ps.map prtQ)),(11,iC .i64 (ps.length:Nat)),(12,iC .i64 (x.1:Nat))] []) (fun x=>ps.length - x.1) (0,l) ⟨Nat.zero_le _,by simp only;omega,hR⟩ ?_ ?_
 · exact le_auto
 · rintro ⟨i,acc⟩ ⟨h1,h2,h3⟩
   simp only at h1 h2 h3 ⊢
   by_cases hi:i < ps.length
   · rw [List.drop_eq_getElem_cons hi,partsS] at h3
     have hp:=hs _ (List.getElem_mem hi)
     have c2:=hf _ (List.getElem_mem hi)
     have hl:=txB_len ps[i].b hp
     have e:[(⟨ps[i].b.toArray⟩:ByteArray)].flatMap textB = txB ps[i].b:=by simp [txB]
     have c1:=(varint_Text acc [⟨ps[i].b.toArray⟩] (by rw [e];omega)).frz
     rw [e] at c1
     clear e hs hR hf
     by_cases he:ps[i].e = 0
     · rw [if_pos he] at h3
       rw [he] at c2
       (have kc1:=c1;refine w0 ?_;(repeat' (first|refine W2.mk ?_ ?_|refine W1.mk fun hc=>?_|((first|apply AL_t rfl|apply AL_0 rfl|apply AD_t rfl|apply AD_0 rfl);(focus (first|((exact op_callB (As:=[ps[i].A]) c2))|(apply u_g;(focus rfl);apply op_gyes rfl rfl rfl rfl rfl;first|((exact op_callB (As:=[ps[i].A]) c2)))));refine w0 ?_)));all_goals clear kc1)
       refine ⟨(i + 1,acc ++ txB ps[i].b),⟨by simp only;omega,by simp only [List.length_append];omega,h3⟩,by simp only;omega,?_⟩
       exact le_auto
     · rw [if_neg he] at h3
       subst h3
       (have kc1:=c1;refine w0 ?_;(repeat' (first|refine W2.mk ?_ ?_|refine W1.mk fun hc=>?_|((first|apply AL_t rfl|apply AL_0 rfl|apply AD_t rfl|apply AD_0 rfl);(focus (first|((exact op_callB (As:=[ps[i].A]) c2))|(apply u_g;(focus rfl);apply op_gyes rfl rfl rfl rfl rfl;first|((exact op_callB (As:=[ps[i].A]) c2)))));refine w0 ?_)));all_goals clear kc1)
       refine rt2 ?_ ?_
       · exact rv_nill rfl
       · exact rv_int rfl rfl
   · rw [List.drop_of_length_le (by omega)] at h3
     have h3:(acc,0) = R:=h3
     subst h3
     clear hs hf
     (refine w0 ?_;(repeat' first|refine W2.mk ?_ ?_|refine W1.mk fun hc=>?_))
     refine rt2 ?_ ?_
     · exact rv_per rfl
     · exact rv_int rfl rfl
theorem im_filter (f:List Rg) (i:List It) (k:List Pc) (hl:f.length ≤ 4096) (b:Bool) (hb:b = true ↔ rgsOk f):Fn Tryz.prog 29 [lstsC f i k] (.tup2 (.per (bysP (if b then rgsBy f else []))) (inR (if b then 0 else 2))):=by
 have h1:=(fcode_Ranges f hl b hb).frz
 clear hb
 generalize (if b then rgsBy f else []) = R at *
 generalize (if b then (0:Int) else 2) = e at *
 refine fi Tryz.func29 Tryz.ntmps29 ?_
 (have kc1:=h1;refine w0 ?_;(repeat' first|refine W2.mk ?_ ?_|refine W1.mk fun hc=>?_);all_goals clear kc1)
 refine rt2 ?_ ?_
 · exact rv_per rfl
 · exact rv_int rfl rfl
theorem im_list (f:List Rg) (i:List It) (k:List Pc) (hl:i.length ≤ 4096):Fn Tryz.prog 30 [lstsC f i k] (.tup2 (.per (bysP (if i.all itR then itemsB i else []))) (inR (if i.all itR then 0 else 2))):=by
 have h1:=(icode_Items i hl).frz
 generalize (if i.all itR then itemsB i else []) = R at *
 generalize (if i.all itR then (0:Int) else 2) = e at *
 refine fi Tryz.func30 Tryz.ntmps30 ?_
 (have kc1:=h1;refine w0 ?_;(repeat' first|refine W2.mk ?_ ?_|refine W1.mk fun hc=>?_);all_goals clear kc1)
 refine rt2 ?_ ?_
 · exact rv_per rfl
 · exact rv_int rfl rfl
theorem im_known (f:List Rg) (i:List It) (k:List Pc) (hk:pcsSz k) (hf:fewK k) (hl:k.length ≤ 4096) (b:Bool) (hb:b = true ↔ pcsOk k):Fn Tryz.prog 31 [lstsC f i k] (.tup2 (.per (bysP (if b then knowB k else []))) (inR (if b then 0 else 2))):=by
 have h1:=(kc_Know k hk hf hl b hb).frz
 clear hb hk hf
 generalize (if b then knowB k else []) = R at *
 generalize (if b then (0:Int) else 2) = e at *
 refine fi Tryz.func31 Tryz.ntmps31 ?_
 (have kc1:=h1;refine w0 ?_;(repeat' first|refine W2.mk ?_ ?_|refine W1.mk fun hc=>?_);all_goals clear kc1)
 refine rt2 ?_ ?_
 · exact rv_per rfl
 · exact rv_int rfl rfl
theorem im_State (s:Sta) (hB:StB s) (hPr:stR s = true → PrB s.flt s.its s.know):Fn Tryz.prog 8 [stC s] (.tup2 (.per (bysP (if stR s then staB s else []))) (inR (if stR s then 0 else 2))):=by
 have a1:=st_Right s hB
 cases hr:stR s with
 | false=>
   rw [hr] at a1
   clear hB hPr
   refine fi Tryz.func8 Tryz.ntmps8 ?_
   (have kc1:=a1;refine w0 ?_;(repeat' first|refine W2.mk ?_ ?_|refine W1.mk fun hc=>?_);all_goals clear kc1)
   refine rt2 ?_ ?_
   · exact rv_nill rfl
   · exact rv_int rfl rfl
 | true=>
   rw [hr] at a1
   have hP:=hPr hr
   clear hPr
   obtain ⟨h1,h2,h3,h4,h5,h6⟩:=stR_iff hr
   have a2:=im_put [] [s.id,s.cnt] (by simp) (by simp) (fun n hn=>by
     simp at hn
     rcases hn with rfl|rfl
     · exact ⟨by omega,by omega⟩
     · exact ⟨by omega,by omega⟩)
   have e2:[] ++ [s.id,s.cnt].flatMap numI = numI s.id ++ numI s.cnt:=by simp
   rw [e2] at a2
   have b1:=im_filter s.flt s.its s.know hP.flt true (by simp [h4])
   have b2:=im_list s.flt s.its s.know h3
   have b3:=im_known s.flt s.its s.know (pcsMid_sz hB.kmid) hP.few hP.kln true (by simp [h6])
   rw [listB_all h5] at b2
   simp only [if_true] at b1 b2 b3 ⊢
   have hn2:(numI s.id ++ numI s.cnt).length ≤ 1000:=by
     rw [List.length_append]
     have q1:=numI_le s.id ⟨by omega,by omega⟩
     have q2:=numI_le s.cnt ⟨by omega,by omega⟩
     omega
   have a3:=im_parts (numI s.id ++ numI s.cnt) [⟨29,aggP [rgsP s.flt,itsP s.its,pcsP s.know],rgsBy s.flt,0⟩,⟨30,aggP [rgsP s.flt,itsP s.its,pcsP s.know],itemsB s.its,0⟩,⟨31,aggP [rgsP s.flt,itsP s.its,pcsP s.know],knowB s.know,0⟩] (by omega) (by simp) (fun p hp=>by
       simp at hp
       rcases hp with rfl|rfl|rfl
       · exact hP.bf
       · exact hP.bi
       · exact hP.bk) (fun p hp=>by
       simp at hp
       rcases hp with rfl|rfl|rfl
       · exact b1
       · exact b2
       · exact b3)
   have e3:partsS (numI s.id ++ numI s.cnt) [⟨29,aggP [rgsP s.flt,itsP s.its,pcsP s.know],rgsBy s.flt,0⟩,⟨30,aggP [rgsP s.flt,itsP s.its,pcsP s.know],itemsB s.its,0⟩,⟨31,aggP [rgsP s.flt,itsP s.its,pcsP s.know],knowB s.know,0⟩] = (staB s,0):=by
     simp [partsS,staB]
   rw [e3] at a3
   clear e3 e2 b1 b2 b3 hB hP hr h4 h5 h6
   generalize staB s = R at *
   generalize numI s.id ++ numI s.cnt = N at *
   refine fi Tryz.func8 Tryz.ntmps8 ?_
   (have kc1:=a1;have kc2:=a2;have kc3:=a3;refine w0 ?_;(repeat' (first|refine W2.mk ?_ ?_|refine W1.mk fun hc=>?_|((first|apply AL_t rfl|apply AL_0 rfl|apply AD_t rfl|apply AD_0 rfl);(focus (first|((exact op_mkB1 ⟨rfl,rfl,rfl⟩ rfl rfl))|((apply u_k 15;(focus rfl);solve|(apply u_bslice <;> first|exact ⟨rfl,rfl,rfl⟩|rfl|infer_instance|(repeat (first|exact PartsL.nil|(apply PartsL.cons;(focus (exact part_bnd rfl))))))))|(apply u_g;(focus rfl);apply op_gyes rfl rfl rfl rfl rfl;first|((exact op_mkB1 ⟨rfl,rfl,rfl⟩ rfl rfl))|((apply u_k 15;(focus rfl);solve|(apply u_bslice <;> first|exact ⟨rfl,rfl,rfl⟩|rfl|infer_instance|(repeat (first|exact PartsL.nil|(apply PartsL.cons;(focus (exact part_bnd rfl)))))))))));refine w0 ?_)));all_goals clear kc3 kc2 kc1)
   refine rt2 ?_ ?_
   · exact rv_per rfl
   · exact rv_int rfl rfl
end
abbrev ntCs (n:Nt):List PV:=[rawP (.int .i64 n.kind),rawP (.int .i64 n.st.id),rgsP n.st.flt,itsP n.st.its,pcsP n.st.know,rawP (.int .i64 n.st.cnt),rawP (.string n.key),rawP (.int .i64 n.prio),rawP (.string n.body),rawP (.int .i64 n.ses),rawP (.int .i64 n.num),rawP (.int .i64 n.nxt),itsP n.its,pcsP n.know]
abbrev ntP (n:Nt):PV:=aggP (ntCs n)
abbrev ntC (n:Nt):Cnt:=.per (ntP n)
abbrev nilP':PV:=rawP (.slice none 0 0)
/-- how big a note may be -/
structure NtB (n:Nt):Prop where
 st:StB n.st
 sp:stR n.st = true → PrB n.st.flt n.st.its n.st.know
 bs:stR n.st = true → (staB n.st).length ≤ 100000000
 its:n.its.length ≤ 4096
 keys:kOk n.its
 ksz:pcsSz n.know
 kfew:fewK n.know
 kln:n.know.length ≤ 4096
 bi:n.its.all itR = true → (itemsB n.its).length ≤ 100000000
 bk:pcsOk n.know → (knowB n.know).length ≤ 100000000
/-- what the program looks at -/
def rgtN (n:Nt):Bool:=
 if n.kind = 1 then stR n.st
 else if n.kind = 2 then keyR n.key && decide (0 ≤ n.prio ∧ n.prio ≤ 255 ∧ n.body.size ≤ 64)
 else if n.kind = 3 then keyR n.key
 else if n.kind = 4 then decide (1 ≤ n.ses) && isNum n.ses
 else decide (n.kind = 5) && decide (1 ≤ n.ses) && listB n.its
theorem ntR_rgt {n:Nt} (h:n.kind ≠ 5):ntR n = rgtN n:=by
 unfold ntR rgtN
 by_cases c1:n.kind = 1
 · rw [if_pos c1,if_pos c1]
 rw [if_neg c1,if_neg c1]
 by_cases c2:n.kind = 2
 · rw [if_pos c2,if_pos c2]
 rw [if_neg c2,if_neg c2]
 by_cases c3:n.kind = 3
 · rw [if_pos c3,if_pos c3]
 rw [if_neg c3,if_neg c3]
 by_cases c4:n.kind = 4
 · rw [if_pos c4,if_pos c4]
 rw [if_neg c4,if_neg c4,decide_eq_false h]
 simp
theorem ntR_rgt5 {n:Nt} (h:n.kind = 5) (hl:n.its.length ≤ 4096):ntR n = (rgtN n && isNum n.ses && isNum n.num && isNum n.nxt && decide (pcsOk n.know)):=by
 unfold ntR rgtN
 rw [if_neg (by omega),if_neg (by omega),if_neg (by omega),if_neg (by omega),if_neg (by omega),if_neg (by omega),if_neg (by omega),if_neg (by omega),decide_eq_true h,decide_eq_true hl]
 generalize decide (1 ≤ n.ses) = a
 generalize listB n.its = b
 generalize isNum n.ses = c
 generalize isNum n.num = d
 generalize isNum n.nxt = e
 cases a <;> cases b <;> cases c <;> cases d <;> cases e <;> simp
theorem isNum_of {n:Int} (h:okNum n):isNum n = true:=by
 unfold okNum at h
 unfold isNum
 simp;omega
section
theorem im_right (n:Nt) (hS:StB n.st) (hk:kOk n.its) (hl:n.its.length ≤ 1000000):Fn Tryz.prog 55 [ntC n] (boR (rgtN n)):=by
 have a1:=st_Right n.st hS
 have a2:=item_List n.its hk (by omega) (listB n.its) listB_iff
 unfold rgtN isNum
 clear hS hk
 by_cases c1:n.kind = 1
 · rw [if_pos c1]
   refine fi Tryz.func55 Tryz.ntmps55 ?_
   (have kc1:=a1;refine w0 ?_;(repeat' first|refine W2.mk ?_ ?_|refine W1.mk fun hc=>?_);all_goals clear kc1)
   refine rt1 ?_
   exact rv_bool rfl rfl
 rw [if_neg c1]
 by_cases c2:n.kind = 2
 · rw [if_pos c2]
   have a3:=key_Right n.key
   generalize keyR n.key = q at *
   refine fi Tryz.func55 Tryz.ntmps55 ?_
   (have kc1:=a3;refine w0 ?_;(repeat' first|refine W2.mk ?_ ?_|refine W1.mk fun hc=>?_);all_goals clear kc1)
   all_goals
     refine rt1 ?_
     refine rv_bool rfl ?_
     first|rfl|(simp [*];done)|(rw [Bool.eq_iff_iff];simp [*];done)|(rw [Bool.eq_iff_iff];simp [*];omega)
 rw [if_neg c2]
 by_cases c3:n.kind = 3
 · rw [if_pos c3]
   have a3:=key_Right n.key
   generalize keyR n.key = q at *
   refine fi Tryz.func55 Tryz.ntmps55 ?_
   (have kc1:=a3;refine w0 ?_;(repeat' first|refine W2.mk ?_ ?_|refine W1.mk fun hc=>?_);all_goals clear kc1)
   refine rt1 ?_
   exact rv_bool rfl rfl
 rw [if_neg c3]
 by_cases c4:n.kind = 4
 · rw [if_pos c4]
   refine fi Tryz.func55 Tryz.ntmps55 ?_
   (refine w0 ?_;(repeat' first|refine W2.mk ?_ ?_|refine W1.mk fun hc=>?_))
   all_goals
     refine rt1 ?_
     refine rv_bool rfl ?_
     first|(simp [*];done)|(rw [Bool.eq_iff_iff];simp [*];done)|(rw [Bool.eq_iff_iff];simp [*];omega)
 rw [if_neg c4]
 by_cases c5:n.kind = 5
 · rw [decide_eq_true c5,Bool.true_and]
   generalize listB n.its = q at *
   refine fi Tryz.func55 Tryz.ntmps55 ?_
   (have kc1:=a2;refine w0 ?_;(repeat' first|refine W2.mk ?_ ?_|refine W1.mk fun hc=>?_);all_goals clear kc1)
   all_goals
     refine rt1 ?_
     refine rv_bool rfl ?_
     first|(simp [*];done)|(rw [Bool.eq_iff_iff];simp [*];done)|(rw [Bool.eq_iff_iff];simp [*];omega)
 · rw [decide_eq_false c5,Bool.false_and,Bool.false_and]
   refine fi Tryz.func55 Tryz.ntmps55 ?_
   (refine w0 ?_;(repeat' first|refine W2.mk ?_ ?_|refine W1.mk fun hc=>?_))
   refine rt1 ?_
   exact rv_bool rfl rfl
theorem im_nstate (n:Nt) (hB:NtB n):Fn Tryz.prog 56 [ntC n] (.tup2 (.per (bysP (if stR n.st then staB n.st else []))) (inR (if stR n.st then 0 else 2))):=by
 have a1:=im_State n.st hB.st hB.sp
 clear hB
 generalize (if stR n.st then staB n.st else []) = R at *
 generalize (if stR n.st then (0:Int) else 2) = e at *
 refine fi Tryz.func56 Tryz.ntmps56 ?_
 (have kc1:=a1;refine w0 ?_;(repeat' first|refine W2.mk ?_ ?_|refine W1.mk fun hc=>?_);all_goals clear kc1)
 refine rt2 ?_ ?_
 · exact rv_per rfl
 · exact rv_int rfl rfl
theorem im_Of_no (n:Nt) (h:rgtN n = false) (a1:Fn Tryz.prog 55 [ntC n] (boR (rgtN n))):Fn Tryz.prog 15 [ntC n] (.tup2 (.per (bysP [])) (inR 2)):=by
 rw [h] at a1
 refine fi Tryz.func15 Tryz.ntmps15 ?_
 (have kc1:=a1;refine w0 ?_;(repeat' first|refine W2.mk ?_ ?_|refine W1.mk fun hc=>?_);all_goals clear kc1)
 refine rt2 ?_ ?_
 · exact rv_nill rfl
 · exact rv_int rfl rfl
theorem im_Of_1 (n:Nt) (hB:NtB n) (c:n.kind = 1) (h:rgtN n = true) (a1:Fn Tryz.prog 55 [ntC n] (boR (rgtN n))):Fn Tryz.prog 15 [ntC n] (.tup2 (.per (bysP (ntB n))) (inR 0)):=by
 rw [h] at a1
 have hr:stR n.st = true:=by unfold rgtN at h;rw [if_pos c] at h;exact h
 have b1:=im_nstate n hB
 rw [hr] at b1
 simp only [if_true] at b1
 have a2:=im_put [] [n.kind] (by simp) (by simp) (fun k hk=>by simp at hk;subst hk;exact ⟨by omega,by omega⟩)
 rw [show [] ++ [n.kind].flatMap numI = numI n.kind by simp] at a2
 have hn:=numI_le n.kind ⟨by omega,by omega⟩
 have a3:=im_parts (numI n.kind) [⟨56,ntP n,staB n.st,0⟩] (by omega) (by simp) (fun p hp=>by
   simp at hp;subst hp;exact hB.bs hr) (fun p hp=>by simp at hp;subst hp;exact b1)
 rw [show partsS (numI n.kind) [⟨56,ntP n,staB n.st,0⟩] = (ntB n,0) by simp [partsS,ntB,c]] at a3
 clear b1 hB hr h hn
 generalize ntB n = R at *
 generalize numI n.kind = N at *
 refine fi Tryz.func15 Tryz.ntmps15 ?_
 (have kc1:=a1;have kc2:=a2;have kc3:=a3;refine w0 ?_;(repeat' (first|refine W2.mk ?_ ?_|refine W1.mk fun hc=>?_|((first|apply AL_t rfl|apply AL_0 rfl|apply AD_t rfl|apply AD_0 rfl);(focus (first|((exact op_mkB1 ⟨rfl,rfl,rfl⟩ rfl rfl))|((apply u_k 15;(focus rfl);solve|(apply u_bslice <;> first|exact ⟨rfl,rfl,rfl⟩|rfl|infer_instance|(repeat (first|exact PartsL.nil|(apply PartsL.cons;(focus (exact part_bnd rfl))))))))|(apply u_g;(focus rfl);apply op_gyes rfl rfl rfl rfl rfl;first|((exact op_mkB1 ⟨rfl,rfl,rfl⟩ rfl rfl))|((apply u_k 15;(focus rfl);solve|(apply u_bslice <;> first|exact ⟨rfl,rfl,rfl⟩|rfl|infer_instance|(repeat (first|exact PartsL.nil|(apply PartsL.cons;(focus (exact part_bnd rfl)))))))))));refine w0 ?_)));all_goals clear kc3 kc2 kc1)
 refine rt2 ?_ ?_
 · exact rv_per rfl
 · exact rv_int rfl rfl
theorem im_Of_2 (n:Nt) (c:n.kind = 2) (h:rgtN n = true) (a1:Fn Tryz.prog 55 [ntC n] (boR (rgtN n))):Fn Tryz.prog 15 [ntC n] (.tup2 (.per (bysP (ntB n))) (inR 0)):=by
 rw [h] at a1
 have hr:keyR n.key = true ∧ 0 ≤ n.prio ∧ n.prio ≤ 255 ∧ n.body.size ≤ 64:=by
   unfold rgtN at h;rw [if_neg (by omega),if_pos c] at h;simpa using h
 obtain ⟨h1,h2,h3,h4⟩:=hr
 have h5:=keyR_sz h1
 have a2:=im_put [] [n.kind] (by simp) (by simp) (fun k hk=>by simp at hk;subst hk;exact ⟨by omega,by omega⟩)
 rw [show [] ++ [n.kind].flatMap numI = numI n.kind by simp] at a2
 have hn:=numI_le n.kind ⟨by omega,by omega⟩
 have q1:=textB_len n.key (by omega)
 have a3:=(varint_Text (numI n.kind) [n.key] (by simp;omega)).frz
 rw [show numI n.kind ++ [n.key].flatMap textB = numI n.kind ++ textB n.key by simp] at a3
 have a4:=im_put (numI n.kind ++ textB n.key) [n.prio] (by rw [List.length_append];omega) (by simp) (fun k hk=>by simp at hk;subst hk;exact ⟨by omega,by omega⟩)
 rw [show (numI n.kind ++ textB n.key) ++ [n.prio].flatMap numI = numI n.kind ++ textB n.key ++ numI n.prio by simp] at a4
 have q2:=numI_le n.prio ⟨by omega,by omega⟩
 have q3:=textB_len n.body (by omega)
 have a5:=(varint_Text (numI n.kind ++ textB n.key ++ numI n.prio) [n.body] (by simp;omega)).frz
 rw [show (numI n.kind ++ textB n.key ++ numI n.prio) ++ [n.body].flatMap textB = ntB n by simp [ntB,c]] at a5
 clear h1 h2 h3 h4 h5 hn q1 q2 q3 h
 generalize ntB n = R at *
 generalize numI n.kind ++ textB n.key ++ numI n.prio = N3 at *
 generalize numI n.kind ++ textB n.key = N2 at *
 generalize numI n.kind = N at *
 refine fi Tryz.func15 Tryz.ntmps15 ?_
 (have kc1:=a1;have kf1:=a2;have kf2:=a3;have kf3:=a4;have kf4:=a5;refine w0 ?_;(repeat' first|refine W2.mk ?_ ?_|refine W1.mk fun hc=>?_);all_goals clear kf4 kf3 kf2 kf1 kc1)
 refine rt2 ?_ ?_
 · exact rv_per rfl
 · exact rv_int rfl rfl
theorem im_Of_3 (n:Nt) (c:n.kind = 3) (h:rgtN n = true) (a1:Fn Tryz.prog 55 [ntC n] (boR (rgtN n))):Fn Tryz.prog 15 [ntC n] (.tup2 (.per (bysP (ntB n))) (inR 0)):=by
 rw [h] at a1
 have h1:keyR n.key = true:=by
   unfold rgtN at h;rw [if_neg (by omega),if_neg (by omega),if_pos c] at h;exact h
 have h5:=keyR_sz h1
 have a2:=im_put [] [n.kind] (by simp) (by simp) (fun k hk=>by simp at hk;subst hk;exact ⟨by omega,by omega⟩)
 rw [show [] ++ [n.kind].flatMap numI = numI n.kind by simp] at a2
 have hn:=numI_le n.kind ⟨by omega,by omega⟩
 have q1:=textB_len n.key (by omega)
 have a3:=(varint_Text (numI n.kind) [n.key] (by simp;omega)).frz
 rw [show numI n.kind ++ [n.key].flatMap textB = ntB n by simp [ntB,c]] at a3
 clear h1 h5 hn q1 h
 generalize ntB n = R at *
 generalize numI n.kind = N at *
 refine fi Tryz.func15 Tryz.ntmps15 ?_
 (have kc1:=a1;have kc2:=a2;have kc3:=a3;refine w0 ?_;(repeat' first|refine W2.mk ?_ ?_|refine W1.mk fun hc=>?_);all_goals clear kc3 kc2 kc1)
 refine rt2 ?_ ?_
 · exact rv_per rfl
 · exact rv_int rfl rfl
theorem im_Of_4 (n:Nt) (c:n.kind = 4) (h:rgtN n = true) (a1:Fn Tryz.prog 55 [ntC n] (boR (rgtN n))):Fn Tryz.prog 15 [ntC n] (.tup2 (.per (bysP (ntB n))) (inR 0)):=by
 rw [h] at a1
 have h1:1 ≤ n.ses ∧ isNum n.ses = true:=by
   unfold rgtN at h;rw [if_neg (by omega),if_neg (by omega),if_neg (by omega),if_pos c] at h;simpa using h
 have a2:=im_put [] [n.kind] (by simp) (by simp) (fun k hk=>by simp at hk;subst hk;exact ⟨by omega,by omega⟩)
 rw [show [] ++ [n.kind].flatMap numI = numI n.kind by simp] at a2
 have hn:=numI_le n.kind ⟨by omega,by omega⟩
 have a3:=im_put (numI n.kind) [n.ses] (by omega) (by simp) (fun k hk=>by simp at hk;subst hk;exact isNum_ok h1.2)
 rw [show numI n.kind ++ [n.ses].flatMap numI = ntB n by simp [ntB,c]] at a3
 clear h1 hn h
 generalize ntB n = R at *
 generalize numI n.kind = N at *
 refine fi Tryz.func15 Tryz.ntmps15 ?_
 (have kc1:=a1;have kf1:=a2;have kf2:=a3;refine w0 ?_;(repeat' first|refine W2.mk ?_ ?_|refine W1.mk fun hc=>?_);all_goals clear kf2 kf1 kc1)
 refine rt2 ?_ ?_
 · exact rv_per rfl
 · exact rv_int rfl rfl
theorem im_Of_5 (n:Nt) (hB:NtB n) (c:n.kind = 5) (h:rgtN n = true) (a1:Fn Tryz.prog 55 [ntC n] (boR (rgtN n))):Fn Tryz.prog 15 [ntC n] (.tup2 (.per (bysP (if ntR n then ntB n else []))) (inR (if ntR n then 0 else 2))):=by
 rw [h] at a1
 have hI:=ntR_rgt5 c hB.its
 rw [h,Bool.true_and] at hI
 have hl:listB n.its = true:=by
   unfold rgtN at h;rw [if_neg (by omega),if_neg (by omega),if_neg (by omega),if_neg (by omega)] at h
   rw [Bool.and_eq_true] at h;exact h.2
 have hall:=listB_all hl
 have a2:=im_put [] [n.kind] (by simp) (by simp) (fun k hk=>by simp at hk;subst hk;exact ⟨by omega,by omega⟩)
 rw [show [] ++ [n.kind].flatMap numI = numI n.kind by simp] at a2
 have hn:=numI_le n.kind ⟨by omega,by omega⟩
 by_cases ok:isNum n.ses = true ∧ isNum n.num = true ∧ isNum n.nxt = true
 · obtain ⟨o1,o2,o3⟩:=ok
   rw [o1,o2,o3,Bool.true_and,Bool.true_and,Bool.true_and] at hI
   have a4:=(varint_Put (numI n.kind) [n.ses,n.num,n.nxt] (by simp;omega) (fun k hk=>by
     simp at hk
     rcases hk with rfl|rfl|rfl
     · exact isNum_ok o1
     · exact isNum_ok o2
     · exact isNum_ok o3)).frz
   have w1:=numI_le n.ses (isNum_ok o1)
   have w2:=numI_le n.num (isNum_ok o2)
   have w3:=numI_le n.nxt (isNum_ok o3)
   have e4:numI n.kind ++ [n.ses,n.num,n.nxt].flatMap numI = numI n.kind ++ (numI n.ses ++ (numI n.num ++ numI n.nxt)):=by simp
   rw [e4] at a4
   have b2:Fn Tryz.prog 30 [.per (aggP [nilP',itsP n.its,pcsP n.know])] _:=(im_list [] n.its n.know hB.its).arg1 aI
   have b3:Fn Tryz.prog 31 [.per (aggP [nilP',itsP n.its,pcsP n.know])] _:=(im_known [] n.its n.know hB.ksz hB.kfew hB.kln (decide (pcsOk n.know)) (by simp)).arg1 aI
   rw [hall] at b2
   simp only [if_true] at b2
   have hlen:(numI n.kind ++ (numI n.ses ++ (numI n.num ++ numI n.nxt))).length ≤ 1000:=by
     rw [List.length_append,List.length_append,List.length_append];omega
   have a5:=im_parts (numI n.kind ++ (numI n.ses ++ (numI n.num ++ numI n.nxt))) [⟨30,aggP [nilP',itsP n.its,pcsP n.know],itemsB n.its,0⟩,⟨31,aggP [nilP',itsP n.its,pcsP n.know],if decide (pcsOk n.know) then knowB n.know else [],if decide (pcsOk n.know) then 0 else 2⟩] (by omega) (by simp) (fun p hp=>by
     simp only [List.mem_cons,List.not_mem_nil,or_false] at hp
     rcases hp with rfl|rfl
     · exact hB.bi hall
     · by_cases q:pcsOk n.know
       · rw [decide_eq_true q];exact hB.bk q
       · rw [decide_eq_false q];simp) (fun p hp=>by
     simp only [List.mem_cons,List.not_mem_nil,or_false] at hp
     rcases hp with rfl|rfl
     · exact b2
     · exact b3)
   have e5:partsS (numI n.kind ++ (numI n.ses ++ (numI n.num ++ numI n.nxt))) [⟨30,aggP [nilP',itsP n.its,pcsP n.know],itemsB n.its,0⟩,⟨31,aggP [nilP',itsP n.its,pcsP n.know],if decide (pcsOk n.know) then knowB n.know else [],if decide (pcsOk n.know) then 0 else 2⟩] = (if ntR n then ntB n else [],if ntR n then 0 else 2):=by
     rw [hI]
     cases decide (pcsOk n.know)
     · simp [partsS]
     · simp [partsS,ntB,c]
   rw [e5] at a5
   clear b2 b3 e5 e4 hB hI h hl hall hlen w1 w2 w3 o1 o2 o3 hn
   generalize (if ntR n then ntB n else []) = R at *
   generalize (if ntR n then (0:Int) else 2) = e at *
   generalize numI n.kind ++ (numI n.ses ++ (numI n.num ++ numI n.nxt)) = N2 at *
   generalize numI n.kind = N at *
   refine fi Tryz.func15 Tryz.ntmps15 ?_
   (have kc1:=a1;have kc2:=a2;have kc3:=a4;have kc4:=a5;refine w0 ?_;(repeat' (first|refine W2.mk ?_ ?_|refine W1.mk fun hc=>?_|((first|apply AL_t rfl|apply AL_0 rfl|apply AD_t rfl|apply AD_0 rfl);(focus (first|((exact op_mkB1 ⟨rfl,rfl,rfl⟩ rfl rfl))|((apply u_k 15;(focus rfl);solve|(apply u_bslice <;> first|exact ⟨rfl,rfl,rfl⟩|rfl|infer_instance|(repeat (first|exact PartsL.nil|(apply PartsL.cons;(focus (exact part_bnd rfl))))))))|(apply u_g;(focus rfl);apply op_gyes rfl rfl rfl rfl rfl;first|((exact op_mkB1 ⟨rfl,rfl,rfl⟩ rfl rfl))|((apply u_k 15;(focus rfl);solve|(apply u_bslice <;> first|exact ⟨rfl,rfl,rfl⟩|rfl|infer_instance|(repeat (first|exact PartsL.nil|(apply PartsL.cons;(focus (exact part_bnd rfl)))))))))));refine w0 ?_)));all_goals clear kc4 kc3 kc2 kc1)
   refine rt2 ?_ ?_
   · exact rv_per rfl
   · exact rv_int rfl rfl
 · have hI:ntR n = false:=by
     rw [hI,← Bool.not_eq_true]
     simp only [Bool.and_eq_true]
     exact fun q=>ok ⟨q.1.1.1,q.1.1.2,q.1.2⟩
   rw [hI]
   simp only [Bool.false_eq_true,if_false]
   have a4:=(varint_PutBad (numI n.kind) [n.ses,n.num,n.nxt] (fun q=>ok (by
     exact ⟨isNum_of (q _ (by simp)),isNum_of (q _ (by simp)),isNum_of (q _ (by simp))⟩))).frz
   clear hB hI h hl hall hn
   generalize numI n.kind = N at *
   refine fi Tryz.func15 Tryz.ntmps15 ?_
   (have kc1:=a1;have kc2:=a2;have kc3:=a4;refine w0 ?_;(repeat' first|refine W2.mk ?_ ?_|refine W1.mk fun hc=>?_);all_goals clear kc3 kc2 kc1)
   refine rt2 ?_ ?_
   · exact rv_nill rfl
   · exact rv_int rfl rfl
theorem im_Of (n:Nt) (hB:NtB n):Fn Tryz.prog 15 [ntC n] (.tup2 (.per (bysP (if ntR n then ntB n else []))) (inR (if ntR n then 0 else 2))):=by
 have a1:=im_right n hB.st hB.keys (by have:=hB.its;omega)
 cases h:rgtN n with
 | false=>
   have hn:ntR n = false:=by
     by_cases c:n.kind = 5
     · rw [ntR_rgt5 c hB.its,h];simp
     · rw [ntR_rgt c,h]
   rw [hn]
   exact im_Of_no n h a1
 | true=>
   by_cases c5:n.kind = 5
   · exact im_Of_5 n hB c5 h a1
   · rw [ntR_rgt c5,h]
     simp only [if_true]
     have hk:=ntR_kind (n:=n) (by rw [ntR_rgt c5,h])
     by_cases c1:n.kind = 1
     · exact im_Of_1 n hB c1 h a1
     by_cases c2:n.kind = 2
     · exact im_Of_2 n c2 h a1
     by_cases c3:n.kind = 3
     · exact im_Of_3 n c3 h a1
     · exact im_Of_4 n (by omega) h a1
end
end Go.Proofs.YtfcpkegmdlchhaaGreat
