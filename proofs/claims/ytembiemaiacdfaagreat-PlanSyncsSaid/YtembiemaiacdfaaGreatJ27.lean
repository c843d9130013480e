/- Texts joined: StM RgV AbsV SoV. -/
import Derived.Test.YtembiemaiacdfaaGreatJ26
import Derived.Test.YtembiemaiacdfaaGreatJ05
import Derived.Test.YtembiemaiacdfaaGreatJ12
import Derived.Test.YtembiemaiacdfaaGreatJ23
import Derived.Test.YtembiemaiacdfaaGreatJ07
import Derived.Test.YtembiemaiacdfaaGreatJ22
import Derived.Test.YtembiemaiacdfaaGreatJ13
set_option maxRecDepth 10000
set_option maxHeartbeats 8000000
namespace Go.Proofs.YtembiemaiacdfaaGreat
open Go.RowKit
section
variable {P:Program} {n t:Nat} {ops:Array Oper} {o:Oper} {S:St}
theorem sJ {ty e len:Nat} {d:TypeDesc} {x ix:Operand} {As:List PV} {A:PV} {i:Nat} {kk:IntKind} {z:Int} (hp:Pl n o t) (ho:o.op = .index ty x ix) (hT:P.underlying ty = some (.array len e)) (he:P.underlying e = some d) (hd:fb d = false) (hk:P.cellsOf e = 1)
   (hx:S.opd x = .per (bP As)) (hi:S.opd ix = iC kk z) (hz:z = (i:Int)) (hlt:i < len) (hA:As[i]? = some A):an n P ops o (ax x ++ ax ix) (.per A) [] S:=
 aP hp fun C T g a w hR' hR=>by
   have h1:=aB (x:=x) hR' (fun k h=>by simp [h]) hR
   rw [hx] at h1
   have h2:=aW (x:=ix) hR' (fun k h=>by simp [h]) hR hi
   obtain ⟨vs,e1,e2,e3⟩:=h1
   obtain ⟨y,q1,q2,q3⟩:=e3 i A hA
   subst hz
   refine ⟨y,?_,q3⟩
   have hsz:(sizeOf e).run P w = .ok 1 w:=er hk (by decide) w
   simp only [execOp,ho,e1,h2,Instr.index,asIntOf,Sem.run_bind,Sem.run_pure,Result.andThen_ok,run_underlying hT]
   rw [if_pos (by constructor <;> omega)]
   simp only [Sem.run_bind,hsz,Result.andThen_ok,part,lw he,hd,Bool.false_eq_true,if_false,Nat.mul_one,Int.toNat_natCast,q1,Sem.run_pure]
end
theorem Ga (n x:Int):(if x > n then x else n) = max n x:=by
 by_cases h:x > n
 · rw [if_pos h];omega
 · rw [if_neg h];omega
section
theorem Gb (l:List Rn) (hl:l.length ≤ 1000000000):Fn Tryz.prog 171 [.per (jn l)] (fL (ky l)):=by
 have h1:=(tU l hl).frz
 have hb:(ofR l).length ≤ 1000000000:=by have:=tP l;omega
 unfold ky
 rcases Aw (ofR l) with e|⟨l',y,e⟩
 · rw [e] at h1 ⊢
   refine fi Tryz.func171 Tryz.ntmps171 ?_
   (have kc1:=h1;refine w0 ?_;(repeat' first|refine W2.mk ?_ ?_|refine W1.mk fun hc=>?_);all_goals clear kc1)
   refine aQ ?_
   exact aA rfl rfl
 · rw [e,k8]
   rw [e] at h1 hb
   have hlen:(((l' ++ [y]).length:Nat):Int) - 1 = (l'.length:Nat):=by simp
   have hlt:l'.length < (l' ++ [y]).length:=by simp
   have hget:(l' ++ [y])[l'.length]'hlt = y:=by simp
   generalize l' ++ [y] = L at *
   refine fi Tryz.func171 Tryz.ntmps171 ?_
   (have kc1:=h1;have ke1:=Lib.hid (hlen);refine bq ?_;(repeat' first|refine W2.mk ?_ ?_|refine W1.mk fun hc=>?_);all_goals clear ke1 kc1)
   refine aQ ?_
   exact aA rfl (by rw [hget])
theorem CG (s:List Kn) (id:Int) (hs:cD s):Fn Tryz.prog 125 [eh s,iC .i64 id] (fL (gS s id)):=by
 have a1:=mj id
 unfold gS
 by_cases c:1 ≤ id ∧ id ≤ 16
 · rw [if_pos c]
   rw [decide_eq_true c] at a1
   obtain ⟨q,rfl⟩:∃ q:Nat,id = (q:Int) + 1:=⟨(id - 1).toNat,by omega⟩
   have hq2:((q:Int) + 1 - 1).toNat = q:=by omega
   rw [hq2]
   have a2:=tT s hs
   have a3:=Gb (aC s q) (by have:=dM s q;have:=hs.2;omega)
   have hA:((bj s).map jn)[q]? = some (jn (aC s q)):=by rw [List.getElem?_map,bn _ (by omega)];rfl
   have hlt:q < 16:=by omega
   have hk1:Tryz.prog.cellsOf 128 = 1:=by kernel_rfl
   clear hs
   generalize bj s = T at *
   generalize aC s q = Z at *
   refine fi Tryz.func125 Tryz.ntmps125 ?_
   (have kc1:=a1;have kc2:=a2;have kc3:=a3;have ke1:=Lib.hid ((show (q:Int) + 1 - 1 = (q:Nat) by omega));refine bq ?_;(repeat' (first|refine W2.mk ?_ ?_|refine W1.mk fun hc=>?_|((first|apply aD rfl|apply aF rfl|apply aG rfl|apply aH rfl);(focus (first|((exact sJ ⟨rfl,rfl,rfl⟩ rfl Tryz.underlying214 Tryz.underlying128 rfl hk1 rfl rfl rfl hlt hA))|(apply bx;(focus rfl);apply ag rfl rfl rfl rfl rfl;first|((exact sJ ⟨rfl,rfl,rfl⟩ rfl Tryz.underlying214 Tryz.underlying128 rfl hk1 rfl rfl rfl hlt hA)))));refine bq ?_)));all_goals clear ke1 kc3 kc2 kc1)
   refine aQ ?_
   exact aA rfl rfl
 · rw [if_neg c]
   rw [decide_eq_false c] at a1
   clear hs
   refine fi Tryz.func125 Tryz.ntmps125 ?_
   (have kc1:=a1;refine w0 ?_;(repeat' first|refine W2.mk ?_ ?_|refine W1.mk fun hc=>?_);all_goals clear kc1)
   refine aQ ?_
   exact aA rfl rfl
theorem AV (k:List Pc) (id:Int) (hk:eV k):Fn Tryz.prog 67 [bS k,iC .i64 id] (fL (ee k id)):=by
 have hl0:=hk.1
 generalize hR:ee k id = R
 unfold ee at hR
 refine fi Tryz.func67 Tryz.ntmps67 ?_
 (refine w0 ?_;(repeat' first|refine W2.mk ?_ ?_|refine W1.mk fun hc=>?_))
 refine ah (X:=Nat × Int) (fun x=>x.1 ≤ k.length ∧ (k.drop x.1).foldl (fun n p=>max n (gS p.set id)) x.2 = R) (fun x=>aN [(1,iC .i64 id),(5,iC .i64 x.2),(8,bS k),(9,iC .i64 (k.length:Nat)),(10,iC .i64 (x.1:Nat))] []) (fun x=>k.length - x.1) (0,0) ⟨Nat.zero_le _,by simpa using hR⟩ ?_ ?_
 · exact ab
 · rintro ⟨i,n⟩ ⟨h1,h2⟩
   simp only at h1 h2 ⊢
   by_cases hi:i < k.length
   · rw [List.drop_eq_getElem_cons hi,List.foldl_cons] at h2
     have a1:=CG k[i].set id (hk.at hi)
     have hm:=Ga n (gS k[i].set id)
     generalize gS k[i].set id = x at *
     generalize max n x = n' at *
     clear hk hR
     (have kc1:=a1;refine w0 ?_;(repeat' (first|refine W2.mk ?_ ?_|refine W1.mk fun hc=>?_|((first|apply aD rfl|apply aF rfl|apply aG rfl|apply aH rfl);(focus (first|((exact lN ⟨rfl,rfl,rfl⟩ rfl rfl rfl hm))|(apply bx;(focus rfl);apply ag rfl rfl rfl rfl rfl;first|((exact lN ⟨rfl,rfl,rfl⟩ rfl rfl rfl hm)))));refine w0 ?_)));all_goals clear kc1)
     refine ⟨(i + 1,n'),⟨by simp only;omega,h2⟩,by simp only;omega,?_⟩
     exact ab
   · rw [List.drop_of_length_le (by omega)] at h2
     have h2:n = R:=h2
     subst h2
     clear hk hR
     (refine w0 ?_;(repeat' first|refine W2.mk ?_ ?_|refine W1.mk fun hc=>?_))
     refine aQ ?_
     exact aA rfl rfl
end
end Go.Proofs.YtembiemaiacdfaaGreat
namespace Go.Proofs.YtembiemaiacdfaaGreat
open Go.RowKit Go.Shelf
abbrev BRg:={r:Rg // r.lo.size ≤ 1000000000000}
instance:Inhabited BRg:=⟨⟨⟨⟨#[]⟩,⟨#[]⟩,false⟩,by decide⟩⟩
def mC (x y:BRg):Int:=bG x.1.lo y.1.lo
theorem qP:Sort.SWO (ltOf mC) where
 irrefl x:=by unfold ltOf mC;rw [qd];rfl
 trans x y z h1 h2:=by
   unfold ltOf mC at *
   rw [decide_eq_true_eq,eM] at *
   grind
 ntrans x y z h1 h2:=by
   unfold ltOf mC at *
   rw [decide_eq_false_iff_not,eM] at *
   grind
def qQ (l:List Rg):List Rg:=if h:∀ r ∈ l,r.lo.size ≤ 1000000000000 then (iy mC (l.pmap Subtype.mk h)).map Subtype.val else l
theorem zn {l:List Rg} (h:∀ r ∈ l,r.lo.size ≤ 1000000000000):(qQ l).Perm l ∧ (qQ l).Pairwise (fun x y=>x.lo ≤ y.lo):=by
 unfold qQ
 rw [dif_pos h]
 obtain ⟨h1,h2⟩:=fX qP (l.pmap Subtype.mk h)
 refine ⟨?_,?_⟩
 · have:=h1.map Subtype.val
   rwa [List.map_pmap,List.pmap_eq_map,List.map_id'] at this
 · rw [List.pairwise_map]
   refine h2.imp fun {x y} q=>?_
   unfold ltOf mC at q
   rw [decide_eq_false_iff_not,eM] at q
   grind
theorem wQ {l:List Rg} (h:cV l):l.Pairwise (fun x y=>x.lo < y.lo):=by
 have key:∀ j (hj:j < l.length) i (hij:i < j),l[i].lo < l[j].lo:=by
   intro j
   induction j with
   | zero=>intro _ i hij;omega
   | succ j ih=>
     intro hj i hij
     obtain ⟨a1,a2⟩:=h (j + 1) hj
     obtain ⟨b1,_⟩:=h j (by omega)
     have c:=a2 (by omega)
     simp only [Nat.add_sub_cancel] at c
     have d:=f0 b1
     rw [c.1] at d
     have d:l[j].lo < l[j].hi:=by simpa using d
     have e:=c.2
     rw [eM] at e
     rcases Nat.lt_or_ge i j with q|q
     · have:=ih (by omega) i q
       grind
     · obtain rfl:i = j:=by omega
       grind
 rw [List.pairwise_iff_getElem]
 exact fun i j hi hj hij=>key j hj i hij
theorem Gc {l:List Rg} (h:cV l) (hs:∀ r ∈ l,r.lo.size ≤ 1000000000000):qQ l = l:=by
 obtain ⟨h1,h2⟩:=zn hs
 have h3:=wQ h
 have h4:l.Pairwise (fun x y=>x.lo ≤ y.lo):=h3.imp fun {x y} q=>by grind
 refine List.Perm.eq_of_pairwise ?_ h2 h4 h1
 intro a b ha hb hab hba
 have ha':=h1.mem_iff.1 ha
 have e:a.lo = b.lo:=by grind
 obtain ⟨i,hi,rfl⟩:=List.getElem_of_mem ha'
 obtain ⟨j,hj,rfl⟩:=List.getElem_of_mem hb
 rw [List.pairwise_iff_getElem] at h3
 rcases Nat.lt_trichotomy i j with q|q|q
 · have:=h3 i j hi hj q;grind
 · subst q;rfl
 · have:=h3 j i hj hi q;grind
theorem KY {l:List Rg} (h:cV l):fP l = l:=by
 have key:∀ k,k ≤ l.length → fP (l.take k) = l.take k:=by
   intro k
   induction k with
   | zero=>intro _;rfl
   | succ k ih=>
     intro hk
     have hk':k < l.length:=by omega
     rw [wL hk',ih (by omega),aJ l k hk']
     obtain ⟨_,a2⟩:=h k hk'
     rcases Nat.eq_zero_or_pos k with rfl|hp
     · simp [xO]
     · obtain ⟨m,rfl⟩:∃ m,k = m + 1:=⟨k - 1,by omega⟩
       have c:=a2 (by omega)
       simp only [Nat.add_sub_cancel] at c
       rw [aJ l m (by omega)]
       unfold xO
       simp only [List.reverse_append,List.reverse_cons,List.reverse_nil,List.nil_append,List.singleton_append,List.reverse_reverse]
       rw [if_pos c]
 have:=key l.length (Nat.le_refl _)
 rwa [List.take_length] at this
section
def so_rng_ren:Go.Shelf.Ren:=⟨fun|6=>143|14=>188|15=>189|20=>215|21=>216|22=>217|23=>218|24=>219|25=>220|26=>221|27=>222|28=>223|29=>224|46=>252|47=>253|48=>254|49=>255|50=>256|57=>267|n=>n,fun|0=>0|3=>3|4=>4|5=>5|9=>9|22=>22|24=>82|25=>189|39=>231|45=>253|46=>254|50=>258|53=>261|55=>48|66=>283|70=>287|76=>296|77=>297|n=>n,fun n=>n⟩
theorem KZ:SlLaysF0.n6 Tryz.prog so_rng_ren:={ mixed:=by kernel_rfl,f6:=⟨Tryz.f143.name,by decide,Tryz.func143.trans (congrArg some (by kernel_rfl))⟩,f14:=⟨Tryz.f188.name,by decide,Tryz.func188.trans (congrArg some (by kernel_rfl))⟩,f15:=Tryz.func189.trans (congrArg some (by kernel_rfl)),f20:=⟨Tryz.f215.name,by decide,Tryz.func215.trans (congrArg some (by kernel_rfl))⟩,f21:=⟨Tryz.f216.name,by decide,Tryz.func216.trans (congrArg some (by kernel_rfl))⟩,f22:=⟨Tryz.f217.name,by decide,Tryz.func217.trans (congrArg some (by kernel_rfl))⟩,f23:=⟨Tryz.f218.name,by decide,Tryz.func218.trans (congrArg some (by kernel_rfl))⟩,f24:=⟨Tryz.f219.name,by decide,Tryz.func219.trans (congrArg some (by kernel_rfl))⟩,f25:=⟨Tryz.f220.name,by decide,Tryz.func220.trans (congrArg some (by kernel_rfl))⟩,f26:=⟨Tryz.f221.name,by decide,Tryz.func221.trans (congrArg some (by kernel_rfl))⟩,f27:=⟨Tryz.f222.name,by decide,Tryz.func222.trans (congrArg some (by kernel_rfl))⟩,f28:=Tryz.func223.trans (congrArg some (by kernel_rfl)),f29:=Tryz.func224.trans (congrArg some (by kernel_rfl)),f46:=⟨Tryz.f252.name,by decide,Tryz.func252.trans (congrArg some (by kernel_rfl))⟩,f47:=Tryz.func253.trans (congrArg some (by kernel_rfl)),f48:=Tryz.func254.trans (congrArg some (by kernel_rfl)),f49:=⟨Tryz.f255.name,by decide,Tryz.func255.trans (congrArg some (by kernel_rfl))⟩,f50:=⟨Tryz.f256.name,by decide,Tryz.func256.trans (congrArg some (by kernel_rfl))⟩,f57:=⟨Tryz.f267.name,by decide,Tryz.func267.trans (congrArg some (by kernel_rfl))⟩,t0:=Tryz.underlying0,a0:=Tryz.isAgg0,z0:=Tryz.sizeOf0,v0:=Tryz.zeroValue0,t3:=Tryz.underlying3,a3:=Tryz.isAgg3,z3:=Tryz.sizeOf3,v3:=Tryz.zeroValue3,t4:=Tryz.underlying4,a4:=Tryz.isAgg4,z4:=Tryz.sizeOf4,v4:=Tryz.zeroValue4,t5:=Tryz.underlying5,a5:=Tryz.isAgg5,z5:=Tryz.sizeOf5,v5:=Tryz.zeroValue5,t9:=Tryz.underlying9,a9:=Tryz.isAgg9,z9:=Tryz.sizeOf9,v9:=Tryz.zeroValue9,t22:=Tryz.underlying22,a22:=Tryz.isAgg22,z22:=Tryz.sizeOf22,v22:=Tryz.zeroValue22,t25:=Tryz.underlying189,a25:=Tryz.isAgg189,z25:=Tryz.sizeOf189,v25:=Tryz.zeroValue189,t39:=Tryz.underlying231,a39:=Tryz.isAgg231,z39:=Tryz.sizeOf231,v39:=Tryz.zeroValue231,t45:=Tryz.underlying253,a45:=Tryz.isAgg253,z45:=Tryz.sizeOf253,v45:=Tryz.zeroValue253,t46:=Tryz.underlying254,a46:=Tryz.isAgg254,z46:=Tryz.sizeOf254,v46:=Tryz.zeroValue254,t50:=Tryz.underlying258,a50:=Tryz.isAgg258,z50:=Tryz.sizeOf258,v50:=Tryz.zeroValue258,t53:=Tryz.underlying261,a53:=Tryz.isAgg261,z53:=Tryz.sizeOf261,v53:=Tryz.zeroValue261,t55:=Tryz.underlying48,a55:=Tryz.isAgg48,z55:=Tryz.sizeOf48,v55:=Tryz.zeroValue48,t66:=Tryz.underlying283,a66:=Tryz.isAgg283,z66:=Tryz.sizeOf283,v66:=Tryz.zeroValue283,t70:=Tryz.underlying287,a70:=Tryz.isAgg287,z70:=Tryz.sizeOf287,v70:=Tryz.zeroValue287,t76:=Tryz.underlying296,a76:=Tryz.isAgg296,z76:=Tryz.sizeOf296,v76:=Tryz.zeroValue296,t77:=Tryz.underlying297,a77:=Tryz.isAgg297,z77:=Tryz.sizeOf297,v77:=Tryz.zeroValue297 }
theorem Gd (x y:Rg) (hx:x.lo.size ≤ 1000000000000) (w:World) :
   Calls Tryz.prog 144 #[.agg #[.string x.lo,.string x.hi,.bool x.op],.agg #[.string y.lo,.string y.hi,.bool y.op]] w fun e w'=>e = .returned (.int .i64 (bG x.lo y.lo)) ∧ Gw w w':=by
 go_enter Tryz.func144,Tryz.ntmps144
 go_wp2_with fail
 refine (v7 x.lo y.lo hx _).mono ?_
 rintro e w' ⟨rfl,hg⟩
 go_wp2
 go_ret
 exact ⟨rfl,Gw.trans (((Gw.refl w).alloc _).alloc _) hg⟩
theorem Gf (l:List Rg) (h:∀ r ∈ l,r.lo.size ≤ 1000000000000) (hl:l.length ≤ 1000000000) :
   el Tryz.prog 143 [.row 1000 0,oW] [(1000,gU l)] .any [(1000,gU (qQ l))]:=by
 have:=n5 (e:=82) (k:=3) (G:=144) KZ Tryz.isAgg82 Tryz.sizeOf82 (enc:=fun x:BRg=>[.string x.1.lo,.string x.1.hi,.bool x.1.op]) ⟨by decide,fun _=>rfl,fun x v hv=>by simp at hv;rcases hv with rfl|rfl|rfl <;> rfl⟩ qP (enters_of Tryz.func144 (by kernel_rfl) rfl)
   (fun x y w=>Gd x.1 y.1 x.2 w) (qj Tryz.func143 (by kernel_rfl) (by kernel_rfl)) (l.pmap Subtype.mk h) (by rw [List.length_pmap];omega)
 have e1:(l.pmap Subtype.mk h).map (dI fun x:BRg=>[Value.string x.1.lo,Value.string x.1.hi,Value.bool x.1.op]) = l.map rgP:=by rw [List.map_pmap];exact List.pmap_eq_map (f:=rgP) h
 have e2:(iy mC (l.pmap Subtype.mk h)).map (dI fun x:BRg=>[Value.string x.1.lo,Value.string x.1.hi,Value.bool x.1.op]) = (qQ l).map rgP:=by unfold qQ;rw [dif_pos h,List.map_map];rfl
 rw [e1,e2] at this
 exact this
theorem ux (l:List Rg) (h:cV l) (hl:l.length ≤ 1000000000):Fn Tryz.prog 91 [dg l] (wK l):=by
 have hr:∀ r ∈ l,eJ r = true:=fun r hr=>by
   obtain ⟨i,hi,rfl⟩:=List.getElem_of_mem hr
   exact (h i hi).1
 have hf:l.filter eJ = l:=List.filter_eq_self.2 hr
 have hs:∀ r ∈ l,r.lo.size ≤ 1000000000000:=fun r q=>by have:=((bH r).1 (hr r q)).1;omega
 have h1:=Gf l hs hl
 rw [Gc h hs] at h1
 have:=AQ l l (by rw [hf];exact h1) (by rw [hf]) hr ((wQ h).imp fun {x y} q=>by grind) hl
 rwa [KY h] at this
end
def zo:PV:=⟨fun _ _ _=>True,fun _ _ _ h=>h⟩
theorem qR {α:Type} (l m:List α) (a:Nat) (h:a + m.length ≤ l.length) (q:Nat):(l.take a ++ m ++ l.drop (a + m.length))[q]? = if a ≤ q ∧ q < a + m.length then m[q - a]? else l[q]?:=by
 have ht:(l.take a).length = a:=by simp;omega
 rcases Nat.lt_or_ge q a with hlt|hge
 · rw [if_neg (by omega),List.append_assoc,List.getElem?_append_left (by omega),List.getElem?_take,if_pos hlt]
 · rw [List.append_assoc,List.getElem?_append_right (by omega),ht]
   rcases Nat.lt_or_ge q (a + m.length) with hlt|hge2
   · rw [if_pos ⟨hge,hlt⟩,List.getElem?_append_left (by omega)]
   · rw [if_neg (by omega),List.getElem?_append_right (by omega),List.getElem?_drop]
     congr 1;omega
section
variable {P:Program} {n:Nat} {ops:Array Oper} {o:Oper} {F:List Nat} {S T:St} {C:Ctx} {g:Gh} {a:Act} {w w':World} {t:Nat}
theorem AX {ty e':TypeId} {x:Operand} {lo hi:Option Operand} {id vr e k l h:Nat} {es:List (List PV)} (hp:Pl n o t) (ho:o.op = .slice ty x lo hi none) (hT:fK P ty (.slice e')) (hk:gI P e' k) (h0:Nat.blt 0 k = true)
   (hx:S.opd x = .row id vr) (hv:S.ver id = vr) (hb:S.blk id = .row e k es) (hbn:Kl S lo hi es.length l h) (hlt:l < es.length):an n P ops o ((2 * id + 1) :: (ax x ++ rE lo hi)) (.vw id vr k l (h - l)) [] S:=
 aP hp fun C T g a w hA hR=>by
   obtain ⟨h1,h2⟩:=kI (x:=x) hA (fun k h=>by simp [h]) (by simp) hR hx hv hb
   have hvt:=(hA.2 id (by simp)).2
   rcases h2 with ⟨_,rfl⟩|⟨cap,cs,q1,q2,q3,q4,q5,q6,q7⟩
   · simp at hlt
   · have b3:=hbn.2.2.1
     have b4:=hbn.2.2.2
     refine ⟨.slice (some ⟨g.ph id,l * k,none⟩) (h - l) (cap - l),?_,⟨by omega,fun _=>⟨cap - l,rfl,by omega⟩⟩⟩
     have hr:=lz (P:=P) (ad:=some ⟨g.ph id,0,none⟩) (c:=cap) (w:=w) hT.h hk.h (Nat.le_of_ble_eq_true h0) hA (fun k h=>by simp [h]) hR hbn (by omega)
     rw [if_neg (by omega)] at hr
     simp only [execOp,ho,h1,q1,Sem.run_bind,Option.map_none,hr,Option.map_some,Addr.add_lit,Nat.zero_add];rfl
theorem lS {ty e':TypeId} {x:Operand} {id vr k lo len:Nat} (hp:Pl n o t) (ho:ir o ty x) (hT:fK P ty (.slice e')) (hx:S.opd x = .vw id vr k lo len) (hv:S.ver id = vr) :
   an n P ops o ((2 * id + 1) :: ax x) (iC .i64 (len:Int)) [] S:=
 aP hp fun C T g a w hA hR=>by
   have h:=aB (x:=x) hA (fun k h=>by simp [h]) hR
   rw [hx] at h
   obtain ⟨c,hc,_⟩:=h.2 (by rw [(hA.2 id (by simp)).2,hv])
   exact ⟨_,ly ho hc (pM hT.h w),rfl⟩
theorem jg {ty e':TypeId} {x ix:Operand} {id vr k lo len i:Nat} {kk:IntKind} {z:Int} (hp:Pl n o t) (ho:o.op = .indexAddr ty x ix) (hT:fK P ty (.slice e')) (hk:gI P e' k) (h0:Nat.blt 0 k = true)
   (hx:S.opd x = .vw id vr k lo len) (hv:S.ver id = vr) (hi:S.opd ix = iC kk z) (hz:z = (i:Int)) (hlt:i < len):an n P ops o ((2 * id + 1) :: (ax x ++ ax ix)) (.ept id vr k (lo + i) 0) [] S:=
 aP hp fun C T g a w hA hR=>by
   have h:=aB (x:=x) hA (fun k h=>by simp [h]) hR
   rw [hx] at h
   obtain ⟨c,hc,_⟩:=h.2 (by rw [(hA.2 id (by simp)).2,hv])
   have hvt:=(hA.2 id (by simp)).2
   have h3:=aW (x:=ix) hA (fun k h=>by simp [h]) hR hi
   refine ⟨.pointer (some ⟨g.ph id,lo * k + i * k,none⟩),?_,⟨by omega,fun _=>by rw [Nat.add_mul,Nat.add_zero]⟩⟩
   subst hz
   simp only [execOp,ho,hc,h3,Sem.run_bind,gn hT.h hk.h (Nat.le_of_ble_eq_true h0) hlt];rfl
theorem wR {ty e':TypeId} {x:Operand} {id vr e k lo len:Nat} {es es':List (List PV)} {z:Value} (hp:z6 o) (ho:o.op = .call { callee:=.builtin .clear,args:=#[x],argTypes:=#[ty] }) (hT:fK P ty (.slice e')) (hz:lW P e' z)
   (hzk:z.cells.size = k) (hz1:z.cells.toList.all (·.oneCell') = true)
   (hx:S.opd x = .vw id vr k lo len) (hv:S.ver id = vr) (hb:S.blk id = .row e k es) (hl:lo + len ≤ es.length) (hn:0 < len)
   (he:es.take lo ++ List.replicate len (List.replicate k zo) ++ es.drop (lo + len) = es'):an n P ops o ((2 * id + 1) :: ax x) .any [(id,vr,.row e k es')] S:=by
 subst he
 refine ⟨?_⟩
 intro C T hA a w ⟨g,hR⟩
 have h:=aB (x:=x) hA (fun k h=>by simp [h]) hR
 rw [hx] at h
 obtain ⟨c,hc,_⟩:=h.2 (by rw [(hA.2 id (by simp)).2,hv])
 have hvt:=(hA.2 id (by simp)).2
 have hB:=hR.blks id
 rw [(hA.2 id (by simp)).1,hb] at hB
 rcases hB with ⟨_,rfl⟩|⟨cap,cs,q1,q2,q3,q4,q5,q6,q7⟩
 · simp at hl;omega
 obtain ⟨vs,hvs⟩:∃ vs,vs = (Builtin.zeroCells z.cells len).toList:=⟨_,rfl⟩
 have hvl:vs.length = len * k:=by rw [hvs];simp [Builtin.zeroCells,hzk]
 have hv1:∀ v ∈ vs,v.oneCell' = true:=by
   intro v hm
   rw [hvs] at hm
   simp only [Builtin.zeroCells,Array.toList_map,List.mem_map] at hm
   obtain ⟨i,hi,rfl⟩:=hm
   rw [List.all_eq_true] at hz1
   have hi':i < len * z.cells.size:=by simpa using hi
   have hpos:0 < z.cells.size:=by
     rcases Nat.eq_zero_or_pos z.cells.size with q|q
     · rw [q] at hi';omega
     · exact q
   have hmod:=Nat.mod_lt i hpos
   rw [getElem!_pos z.cells _ hmod]
   exact hz1 _ (by simp)
 have hlk:lo * k + len * k ≤ cs.size:=by
   have:=Nat.mul_le_mul_right k (show lo + len ≤ cap by omega)
   rw [Nat.add_mul] at this;omega
 have hrun:=run_storeCells_at (P:=P) (g.ph id) (lo * k) e vs 0 cs w q2 (by omega) hv1
 simp only [Nat.add_zero] at hrun
 have hexec:(execOp a.eval o).run P w = .ok (.value (.tuple #[])) (w.setRow (g.ph id) (cs.toList.take (lo * k) ++ vs ++ cs.toList.drop (lo * k + vs.length)).toArray):=by
   obtain ⟨m,rfl⟩:∃ m,len = m + 1:=⟨len - 1,by omega⟩
   rw [hvs] at hrun
   have hcl:(Builtin.clear_ #[ty] o.type #[.slice (some ⟨g.ph id,lo * k,none⟩) (m + 1) c]).run P w = .ok (.tuple #[]) (w.setRow (g.ph id) (cs.toList.take (lo * k) ++ vs ++ cs.toList.drop (lo * k + vs.length)).toArray):=by
     rw [hvs]
     simp [Builtin.clear_,run_underlying hT.h,DX hz.h,hrun]
   simp only [execOp,ho,resolve,invoke,builtin,Sem.run_bind,Sem.run_pure,Result.andThen_ok,List.map_toArray,List.map_cons,List.map_nil,hc,hcl]
 unfold gj
 rw [if_pos (by simp [Region.wanted,hp.1])]
 unfold Oper.wp
 rw [hexec,Oper.upon_value]
 have hst:=lx (cs':=(cs.toList.take (lo * k) ++ vs ++ cs.toList.drop (lo * k + vs.length)).toArray) hR rfl q2 q3
 have hver:(T.app o.dst .any [(id,vr,.row e k (es.take lo ++ List.replicate len (List.replicate k zo) ++ es.drop (lo + len)))]).ver = T.ver:=by
   funext i'
   rw [St.app_some_ver]
   split
   · rename_i h;subst h;rw [hvt,hv]
   · rfl
 refine ⟨g,hR.app1 (c:=.any) (fun t h=>by rw [hp.2] at h;cases h) (by rw [hver];exact hst) trivial ?_⟩
 rw [hver]
 have hlen2:(es.take lo ++ List.replicate len (List.replicate k zo) ++ es.drop (lo + len)).length = es.length:=by simp;omega
 have hel:∀ q,(es.take lo ++ List.replicate len (List.replicate k zo) ++ es.drop (lo + len))[q]? = if lo ≤ q ∧ q < lo + len then (List.replicate len (List.replicate k zo))[q - lo]? else es[q]?:=by
   intro q
   have:=qR es (List.replicate len (List.replicate k zo)) lo (by simpa using hl) q
   simpa using this
 have hcell:∀ q,((cs.toList.take (lo * k) ++ vs ++ cs.toList.drop (lo * k + vs.length)).toArray)[q]? = if lo * k ≤ q ∧ q < lo * k + vs.length then vs[q - lo * k]? else cs[q]?:=by
   intro q
   rw [List.getElem?_toArray,qR cs.toList vs (lo * k) (by simp;omega) q]
   split
   · rfl
   · simp
 refine .inr ⟨cap,_,by rw [hlen2];exact q1,setRow_heap _ _ _ _ _ _ q2,q3,by rw [hlen2];exact q4,q5,by rw [List.size_toArray,List.length_append,List.length_append,List.length_take,List.length_drop,Array.length_toList,hvl];omega,fun i' ps' hi'=>?_⟩
 rw [hel] at hi'
 split at hi'
 · rename_i hin
   rw [List.getElem?_replicate,if_pos (by omega)] at hi'
   cases hi'
   refine ⟨by simp,fun j A hj=>?_⟩
   rw [List.getElem?_replicate] at hj
   split at hj
   · rename_i hjk
     cases hj
     have e1:lo * k ≤ i' * k:=Nat.mul_le_mul_right k hin.1
     have e2:(i' + 1) * k ≤ (lo + len) * k:=Nat.mul_le_mul_right k hin.2
     rw [Nat.succ_mul,Nat.add_mul] at e2
     rw [hcell,if_pos (by omega)]
     exact ⟨vs[i' * k + j - lo * k]'(by omega),List.getElem?_eq_getElem _,hv1 _ (List.getElem_mem _),trivial⟩
   · cases hj
 · rename_i hout
   obtain ⟨r1,r2⟩:=q7 i' ps' hi'
   refine ⟨r1,fun j A hj=>?_⟩
   obtain ⟨u,s1,s2,s3⟩:=r2 j A hj
   have hjk:j < k:=by have:=(List.getElem?_eq_some_iff.1 hj).1;omega
   rw [hcell,if_neg ?_]
   · exact ⟨u,s1,s2,A.mono hst.sz hst.keepN hst.n s3⟩
   · rintro ⟨h1,h2⟩
     rcases Nat.lt_or_ge i' lo with q|q
     · have e1:=Nat.mul_le_mul_right k (show i' + 1 ≤ lo from q)
       rw [Nat.succ_mul] at e1;omega
     · have e1:=Nat.mul_le_mul_right k (show lo + len ≤ i' by omega)
       rw [Nat.add_mul] at e1;omega
theorem AY {ty e':TypeId} {x:Operand} {hi:Option Operand} {id vr e k h:Nat} {es es':List (List PV)} (hp:Pl n o t) (ho:o.op = .slice ty x none hi none) (hT:fK P ty (.slice e')) (hk:gI P e' k) (h0:Nat.blt 0 k = true)
   (hx:S.opd x = .row id vr) (hv:S.ver id = vr) (hb:S.blk id = .row e k es) (hbn:Kl S none hi es.length 0 h) (he:es.take h = es') (hfx:dK id = false:=by rfl) :
   an n P ops o ((2 * id + 1) :: (ax x ++ rE none hi)) (.row id (vr + 1)) [(id,vr + 1,.row e k es')] S:=by
 subst he
 refine ⟨?_⟩
 intro C T hA a w ⟨g,hR⟩
 obtain ⟨h1,h2⟩:=kI (x:=x) hA (fun k h=>by simp [h]) (by simp) hR hx hv hb
 have hvt:=(hA.2 id (by simp)).2
 have hbn4:h ≤ es.length:=hbn.2.2.2
 have hvr:∀ i,(T.app o.dst (.row id (vr + 1)) [(id,vr + 1,.row e k (es.take h))]).ver i = if i = id then T.ver id + 1 else T.ver i:=fun i=>by rw [St.app_some_ver,hvt,hv]
 have hmul:(es.take h).length = h:=by simp;omega
 unfold gj
 rw [if_pos (hp.wanted a)]
 unfold Oper.wp
 rcases h2 with ⟨q1,rfl⟩|⟨cap,cs,q1,q2,q3,q4,q5,q6,q7⟩
 · have hh0:h = 0:=by simpa using hbn4
   subst hh0
   have hr:=lz (P:=P) (ad:=none) (c:=0) (w:=w) hT.h hk.h (Nat.le_of_ble_eq_true h0) hA (fun k h=>by simp [h]) hR hbn (by omega)
   have hexec:(execOp a.eval o).run P w = .ok (.value (.slice none 0 0)) w:=by
     simp only [execOp,ho,h1,q1,Sem.run_bind,Option.map_none]
     simp only [List.length_nil,Option.map_none] at hr
     rw [hr];rfl
   rw [hexec,Oper.upon_value]
   have hst:=mL (v:=.slice none 0 0) (t:=id) hR (dJ.refl w) hvr hfx
   refine ⟨g.mkN id (.slice none 0 0),hR.app1 hp.dOk hst ⟨by rw [hvr,if_pos rfl,hvt,hv];exact Nat.le_refl _,fun _=>?_⟩ (.inl ⟨?_,by simp⟩)⟩
   · show _ = (if id = id then _ else _);rw [if_pos rfl]
   · show (if id = id then _ else _) = _;rw [if_pos rfl]
 · have hr:=lz (P:=P) (ad:=some ⟨g.ph id,0,none⟩) (c:=cap) (w:=w) hT.h hk.h (Nat.le_of_ble_eq_true h0) hA (fun k h=>by simp [h]) hR hbn (by omega)
   have hexec:(execOp a.eval o).run P w = .ok (.value (.slice (some ⟨g.ph id,0,none⟩) h cap)) w:=by
     simp only [execOp,ho,h1,q1,Sem.run_bind,Option.map_none]
     simp only [Option.map_none,Option.map_some,Addr.add_lit,Nat.zero_mul,Nat.add_zero,Nat.sub_zero,ite_self] at hr
     rw [hr];rfl
   rw [hexec,Oper.upon_value]
   have hst:=mL (v:=.slice (some ⟨g.ph id,0,none⟩) h cap) (t:=id) hR (dJ.refl w) hvr hfx
   refine ⟨g.mkN id (.slice (some ⟨g.ph id,0,none⟩) h cap),hR.app1 hp.dOk hst ⟨by rw [hvr,if_pos rfl,hvt,hv];exact Nat.le_refl _,fun _=>?_⟩ (.inr ⟨cap,cs,?_,q2,q3,by rw [hmul];omega,q5,q6,fun i ps hi=>?_⟩)⟩
   · show _ = (if id = id then _ else _);rw [if_pos rfl]
   · show (if id = id then _ else _) = _;rw [if_pos rfl,hmul];rfl
   · rw [List.getElem?_take] at hi
     split at hi
     · obtain ⟨r1,r2⟩:=q7 i ps hi
       refine ⟨r1,fun j A hj=>?_⟩
       obtain ⟨u,s1,s2,s3⟩:=r2 j A hj
       exact ⟨u,s1,s2,A.mono hst.sz hst.keepN hst.n s3⟩
     · cases hi
end
end Go.Proofs.YtembiemaiacdfaaGreat
namespace Go.Proofs.YtembiemaiacdfaaGreat
open Go.RowKit Go.Shelf
abbrev Vn:=Int × Int
abbrev vnP (v:Vn):List PV:=MK v.1 v.2
abbrev K0 (v:Vn):Bool:=cI v.1 v.2
def eY (p:Vn):List Vn → List Vn
 | []=>[]
 | x :: l=>if x = p then eY x l else x :: eY x l
def jh:List Vn → List Vn
 | []=>[]
 | x :: l=>x :: eY x l
theorem sK (p:Vn) (l:List Vn):(eY p l).length ≤ l.length:=by
 induction l generalizing p with
 | nil=>exact Nat.le_refl _
 | cons x l ih=>
   unfold eY
   have:=ih x
   split
   · simp only [List.length_cons];omega
   · simp only [List.length_cons];omega
theorem CH (l:List Vn):(jh l).length ≤ l.length:=by
 cases l with
 | nil=>exact Nat.le_refl _
 | cons x l=>have:=sK x l;simp only [jh,List.length_cons];omega
theorem zp {l:List Vn} {k:Nat} (h:k < l.length) (h0:k = 0):l.take (k + 1) ++ eY l[k] (l.drop (k + 1)) = jh l:=by
 subst h0
 cases l with
 | nil=>cases h
 | cons x l=>rfl
section
theorem J9 (x y:Vn):(decide (x.1 = y.1) && (decide (x.2 = y.2) && true)) = decide (x = y):=by
 rw [Bool.eq_iff_iff];simp [Prod.ext_iff]
theorem Gg:lW Tryz.prog 59 (.agg #[.int .i64 0,.int .i64 0]):=⟨by kernel_rfl⟩
theorem Gi (l:List Vn) (hl:l.length ≤ 1000000000) :
   el Tryz.prog 176 [.row 2000 0] [(2000,.row 59 2 (l.map vnP))] (.row 3000 0) [(3000,.row 59 2 ((jh l).map vnP))]:=by
 have hE:∀ x y:Vn,Ab Tryz.prog 10000 59 [.int .i64 x.1,.int .i64 x.2] [.int .i64 y.1,.int .i64 y.2] = some (decide (x = y)):=fun x y=>(tM x.1 x.2 y.1 y.2).trans (congrArg some (J9 x y))
 by_cases h2:l.length < 2
 · have hR:jh l = l:=by
     match l,h2 with
     | [],_=>rfl
     | [x],_=>rfl
   rw [hR]
   clear hE hR
   refine fm Tryz.func176 Tryz.ntmps176 ?_
   (refine bq ?_;(repeat' first|refine W2.mk ?_ ?_|refine W1.mk fun hc=>?_))
   (refine ⟨(by first|exact .inl rfl|exact .inr rfl),bR [(2000,3000)] rfl rfl ?_ ?_⟩;(focus (repeat (first|exact ay.nil|(refine ay.cons rfl ?_ ?_;(focus first|rfl|skip))))))
   exact Lr rfl rfl
 generalize hR:jh l = R
 have hRl:R.length ≤ l.length:=by rw [← hR];exact CH l
 refine fm Tryz.func176 Tryz.ntmps176 ?_
 (refine bq ?_;(repeat' first|refine W2.mk ?_ ?_|refine W1.mk fun hc=>?_))
 refine ah (X:=Nat) (fun k=>k + 1 ≤ l.length ∧ ∃ h:k < l.length,l.take (k + 1) ++ eY l[k] (l.drop (k + 1)) = R) (fun k=>aN [(0,.row 2000 0),(3,iC .i64 ((k + 1:Nat):Int))] [(2000,.row 59 2 (l.map vnP))]) (fun k=>l.length - k) 0 ⟨by omega,by omega,(zp (by omega) rfl).trans hR⟩ ?_ ?_
 · exact ab
 · rintro k ⟨h1,h3,h4⟩
   by_cases hk:k + 1 < l.length
   · have e0:((k + 1:Nat):Int) - 1 = (k:Nat):=by omega
     have kL1:Hid ((l.map vnP)[k]? = some (vnP l[k])):=Lib.hid (by rw [List.getElem?_map,List.getElem?_eq_getElem h3];rfl)
     have kL2:Hid ((l.map vnP)[k + 1]? = some (vnP l[k + 1])):=Lib.hid (by rw [List.getElem?_map,List.getElem?_eq_getElem hk];rfl)
     have hE1:=hE l[k + 1] l[k]
     rw [List.drop_eq_getElem_cons hk] at h4
     unfold eY at h4
     by_cases hxy:l[k + 1] = l[k]
     · rw [if_pos hxy] at h4
       rw [decide_eq_true hxy] at hE1
       have h4:l.take (k + 1) ++ eY l[k + 1] (l.drop (k + 1 + 1)) = R:=h4
       have hEa:=hE
       clear hE hR
       (have ke1:=Lib.hid (e0);refine bq ?_;(repeat' (first|refine W2.mk ?_ ?_|refine W1.mk fun hc=>?_|((first|apply aD rfl|apply aF rfl|apply aG rfl|apply aH rfl);(focus (first|(exact bJ (us:=[.int .i64 l[k + 1].1,.int .i64 l[k + 1].2]) (vs:=[.int .i64 l[k].1,.int .i64 l[k].2]) ⟨rfl,rfl,rfl⟩ rfl rfl rfl (by first|exact .inl ⟨rfl,rfl⟩|exact .inr ⟨rfl,rfl⟩) mX rfl hE1)|((exact AX (l:=k + 1) (h:=l.length) ⟨rfl,rfl,rfl⟩ rfl inferInstance inferInstance rfl rfl rfl rfl ⟨⟨_,_,rfl,rfl⟩,(by simp),by omega,by simp⟩ (by simp;omega)))|(apply bx;(focus rfl);apply ag rfl rfl rfl rfl rfl;first|(exact bJ (us:=[.int .i64 l[k + 1].1,.int .i64 l[k + 1].2]) (vs:=[.int .i64 l[k].1,.int .i64 l[k].2]) ⟨rfl,rfl,rfl⟩ rfl rfl rfl (by first|exact .inl ⟨rfl,rfl⟩|exact .inr ⟨rfl,rfl⟩) mX rfl hE1)|((exact AX (l:=k + 1) (h:=l.length) ⟨rfl,rfl,rfl⟩ rfl inferInstance inferInstance rfl rfl rfl rfl ⟨⟨_,_,rfl,rfl⟩,(by simp),by omega,by simp⟩ (by simp;omega))))));refine bq ?_)));all_goals clear ke1)
       have h6:∃ h:k + 1 + 0 < l.length,l.take (k + 1) ++ eY l[k + 1 + 0] (l.drop (k + 1 + 0 + 1)) = R:=⟨hk,h4⟩
       clear h4 kL1 kL2 hE1 hxy e0
       refine ah (X:=List Vn × Nat × Nat) (fun x=>x.1.length = l.length ∧ x.2.1 < k + 1 + x.2.2 + 1 ∧ ∃ h:k + 1 + x.2.2 < x.1.length,x.1.take x.2.1 ++ eY x.1[k + 1 + x.2.2] (x.1.drop (k + 1 + x.2.2 + 1)) = R)
         (fun x=>aN [(0,.row 2000 0),(3,iC .i64 (x.2.1:Nat)),(4,.vw 2000 0 2 (k + 1) (l.length - (k + 1))),(5,iC .i64 ((x.2.2 + 1:Nat):Int))] [(2000,.row 59 2 (x.1.map vnP))]) (fun x=>l.length - (k + 1 + x.2.2)) (l,k + 1,0) ⟨rfl,by simp only;omega,h6⟩ ?_ ?_
       · exact ab
       · clear h6
         rintro ⟨M,kk,m⟩ ⟨g1,g2,g3,g4⟩
         simp only at g1 g2 g3 g4 ⊢
         by_cases hm:k + 1 + m + 1 < M.length
         · have e1:((m + 1:Nat):Int) - 1 = (m:Nat):=by omega
           have kL1:Hid ((M.map vnP)[k + 1 + m]? = some (vnP M[k + 1 + m])):=Lib.hid (by rw [List.getElem?_map,List.getElem?_eq_getElem g3];rfl)
           have kL2:Hid ((M.map vnP)[k + 1 + (m + 1)]? = some (vnP M[k + 1 + m + 1])):=Lib.hid (by rw [List.getElem?_map,← Nat.add_assoc,List.getElem?_eq_getElem hm];rfl)
           have hE1:=hEa M[k + 1 + m + 1] M[k + 1 + m]
           rw [List.drop_eq_getElem_cons hm] at g4
           unfold eY at g4
           by_cases hxy:M[k + 1 + m + 1] = M[k + 1 + m]
           · rw [if_pos hxy] at g4
             rw [decide_eq_true hxy] at hE1
             have g6:∃ h:k + 1 + (m + 1) < M.length,M.take kk ++ eY M[k + 1 + (m + 1)] (M.drop (k + 1 + (m + 1) + 1)) = R:=⟨hm,g4⟩
             clear g4 hEa
             generalize M[k + 1 + m + 1] = x at *
             generalize M[k + 1 + m] = y at *
             (have ke1:=Lib.hid (e1);refine bq ?_;(repeat' (first|refine W2.mk ?_ ?_|refine W1.mk fun hc=>?_|((first|apply aD rfl|apply aF rfl|apply aG rfl|apply aH rfl);(focus (first|(exact bJ (us:=[.int .i64 x.1,.int .i64 x.2]) (vs:=[.int .i64 y.1,.int .i64 y.2]) ⟨rfl,rfl,rfl⟩ rfl rfl rfl (by first|exact .inl ⟨rfl,rfl⟩|exact .inr ⟨rfl,rfl⟩) mX rfl hE1)|((exact lS ⟨rfl,rfl,rfl⟩ rfl inferInstance rfl rfl))|((exact jg (i:=m + 1) ⟨rfl,rfl,rfl⟩ rfl inferInstance inferInstance rfl rfl rfl rfl rfl (by omega)))|((exact jg (i:=m) ⟨rfl,rfl,rfl⟩ rfl inferInstance inferInstance rfl rfl rfl rfl rfl (by omega)))|(apply bx;(focus rfl);apply ag rfl rfl rfl rfl rfl;first|(exact bJ (us:=[.int .i64 x.1,.int .i64 x.2]) (vs:=[.int .i64 y.1,.int .i64 y.2]) ⟨rfl,rfl,rfl⟩ rfl rfl rfl (by first|exact .inl ⟨rfl,rfl⟩|exact .inr ⟨rfl,rfl⟩) mX rfl hE1)|((exact lS ⟨rfl,rfl,rfl⟩ rfl inferInstance rfl rfl))|((exact jg (i:=m + 1) ⟨rfl,rfl,rfl⟩ rfl inferInstance inferInstance rfl rfl rfl rfl rfl (by omega)))|((exact jg (i:=m) ⟨rfl,rfl,rfl⟩ rfl inferInstance inferInstance rfl rfl rfl rfl rfl (by omega))))));refine bq ?_)));all_goals clear ke1)
             refine ⟨(M,kk,m + 1),⟨g1,by simp only;omega,g6⟩,by simp only;omega,?_⟩
             exact ab
           · rw [if_neg hxy] at g4
             rw [decide_eq_false hxy] at hE1
             have hkk:kk < M.length:=by omega
             have hS:(M.map vnP).set kk (bI (vnP M[kk]) 0 (vnP M[k + 1 + m + 1])) = (M.set kk M[k + 1 + m + 1]).map vnP:=bp vnP M kk _
             have g7:(M.set kk M[k + 1 + m + 1]).length = l.length:=by rw [List.length_set];exact g1
             have g6:∃ h:k + 1 + (m + 1) < (M.set kk M[k + 1 + m + 1]).length,(M.set kk M[k + 1 + m + 1]).take (kk + 1) ++ eY (M.set kk M[k + 1 + m + 1])[k + 1 + (m + 1)] ((M.set kk M[k + 1 + m + 1]).drop (k + 1 + (m + 1) + 1)) = R:=by
               refine ⟨by rw [List.length_set];exact hm,?_⟩
               rw [List.getElem_set_ne (by omega),List.drop_set_of_lt (by omega),aJ _ kk (by rw [List.length_set];exact hkk),List.getElem_set_self,List.take_set_of_le (Nat.le_refl _),List.append_assoc]
               exact g4
             have kL3:=kL1
             clear kL1
             have kL1:Hid ((M.map vnP)[kk]? = some (vnP M[kk])):=Lib.hid (by rw [List.getElem?_map,List.getElem?_eq_getElem hkk];rfl)
             have kS1:=Lib.hid hS
             clear g4 hEa hS
             generalize M.set kk M[k + 1 + m + 1] = M' at *
             generalize M[k + 1 + m + 1] = x at *
             generalize M[k + 1 + m] = y at *
             generalize M[kk] = z at *
             (have ke1:=Lib.hid (e1);refine bq ?_;(repeat' (first|refine W2.mk ?_ ?_|refine W1.mk fun hc=>?_|((first|apply aD rfl|apply aF rfl|apply aG rfl|apply aH rfl);(focus (first|(exact bJ (us:=[.int .i64 x.1,.int .i64 x.2]) (vs:=[.int .i64 y.1,.int .i64 y.2]) ⟨rfl,rfl,rfl⟩ rfl rfl rfl (by first|exact .inl ⟨rfl,rfl⟩|exact .inr ⟨rfl,rfl⟩) mX rfl hE1)|((exact lS ⟨rfl,rfl,rfl⟩ rfl inferInstance rfl rfl))|((exact jg (i:=m + 1) ⟨rfl,rfl,rfl⟩ rfl inferInstance inferInstance rfl rfl rfl rfl rfl (by omega)))|((exact jg (i:=m) ⟨rfl,rfl,rfl⟩ rfl inferInstance inferInstance rfl rfl rfl rfl rfl (by omega)))|(apply bx;(focus rfl);apply ag rfl rfl rfl rfl rfl;first|(exact bJ (us:=[.int .i64 x.1,.int .i64 x.2]) (vs:=[.int .i64 y.1,.int .i64 y.2]) ⟨rfl,rfl,rfl⟩ rfl rfl rfl (by first|exact .inl ⟨rfl,rfl⟩|exact .inr ⟨rfl,rfl⟩) mX rfl hE1)|((exact lS ⟨rfl,rfl,rfl⟩ rfl inferInstance rfl rfl))|((exact jg (i:=m + 1) ⟨rfl,rfl,rfl⟩ rfl inferInstance inferInstance rfl rfl rfl rfl rfl (by omega)))|((exact jg (i:=m) ⟨rfl,rfl,rfl⟩ rfl inferInstance inferInstance rfl rfl rfl rfl rfl (by omega))))));refine bq ?_)));all_goals clear ke1)
             refine ⟨(M',kk + 1,m + 1),⟨g7,by simp only;omega,g6⟩,by simp only;omega,?_⟩
             exact ab
         · have hm:M.length = k + 1 + m + 1:=by omega
           rw [List.drop_of_length_le (by omega)] at g4
           have hkk:kk < M.length:=by omega
           have g4:M.take kk = R:=by rw [← g4];simp [eY]
           have hcut:((M.map vnP).take kk ++ List.replicate (M.length - kk) (List.replicate 2 zo) ++ (M.map vnP).drop (kk + (M.length - kk))).take kk = R.map vnP:=by
             rw [List.append_assoc,List.take_append_of_le_length (by simp;omega),List.take_take,Nat.min_self,← List.map_take,g4]
           clear hEa g4
           (refine bq ?_;(repeat' (first|refine W2.mk ?_ ?_|refine W1.mk fun hc=>?_|((first|apply aD rfl|apply aF rfl|apply aG rfl|apply aH rfl);(focus (first|((exact lS ⟨rfl,rfl,rfl⟩ rfl inferInstance rfl rfl))|((exact AX (l:=kk) (h:=M.length) ⟨rfl,rfl,rfl⟩ rfl inferInstance inferInstance rfl rfl rfl rfl ⟨⟨_,_,rfl,rfl⟩,(by simp),by omega,by simp⟩ (by simp;omega)))|((exact wR ⟨rfl,rfl⟩ rfl inferInstance Gg rfl rfl rfl rfl rfl (by rw [List.length_map];omega) (by omega) rfl))|((exact AY (h:=kk) ⟨rfl,rfl,rfl⟩ rfl inferInstance inferInstance rfl rfl rfl rfl ⟨rfl,⟨_,_,rfl,rfl⟩,by omega,(by simp;omega)⟩ hcut))|(apply bx;(focus rfl);apply ag rfl rfl rfl rfl rfl;first|((exact lS ⟨rfl,rfl,rfl⟩ rfl inferInstance rfl rfl))|((exact AX (l:=kk) (h:=M.length) ⟨rfl,rfl,rfl⟩ rfl inferInstance inferInstance rfl rfl rfl rfl ⟨⟨_,_,rfl,rfl⟩,(by simp),by omega,by simp⟩ (by simp;omega)))|((exact wR ⟨rfl,rfl⟩ rfl inferInstance Gg rfl rfl rfl rfl rfl (by rw [List.length_map];omega) (by omega) rfl))|((exact AY (h:=kk) ⟨rfl,rfl,rfl⟩ rfl inferInstance inferInstance rfl rfl rfl rfl ⟨rfl,⟨_,_,rfl,rfl⟩,by omega,(by simp;omega)⟩ hcut)))));refine bq ?_))))
           (refine ⟨(by first|exact .inl rfl|exact .inr rfl),bR [(2000,3000)] rfl rfl ?_ ?_⟩;(focus (repeat (first|exact ay.nil|(refine ay.cons rfl ?_ ?_;(focus first|rfl|skip))))))
           exact Lr rfl rfl
     · rw [if_neg hxy] at h4
       rw [decide_eq_false hxy] at hE1
       have h5:l.take (k + 1 + 1) ++ eY l[k + 1] (l.drop (k + 1 + 1)) = R:=by
         rw [← h4,aJ l (k + 1) hk,List.append_assoc];rfl
       have h6:∃ h:k + 1 < l.length,l.take (k + 1 + 1) ++ eY l[k + 1] (l.drop (k + 1 + 1)) = R:=⟨hk,h5⟩
       clear h4 h5 hE hR
       generalize l[k + 1] = x at *
       generalize l[k] = y at *
       (have ke1:=Lib.hid (e0);refine bq ?_;(repeat' (first|refine W2.mk ?_ ?_|refine W1.mk fun hc=>?_|((first|apply aD rfl|apply aF rfl|apply aG rfl|apply aH rfl);(focus (first|(exact bJ (us:=[.int .i64 x.1,.int .i64 x.2]) (vs:=[.int .i64 y.1,.int .i64 y.2]) ⟨rfl,rfl,rfl⟩ rfl rfl rfl (by first|exact .inl ⟨rfl,rfl⟩|exact .inr ⟨rfl,rfl⟩) mX rfl hE1)|(apply bx;(focus rfl);apply ag rfl rfl rfl rfl rfl;first|(exact bJ (us:=[.int .i64 x.1,.int .i64 x.2]) (vs:=[.int .i64 y.1,.int .i64 y.2]) ⟨rfl,rfl,rfl⟩ rfl rfl rfl (by first|exact .inl ⟨rfl,rfl⟩|exact .inr ⟨rfl,rfl⟩) mX rfl hE1))));refine bq ?_)));all_goals clear ke1)
       refine ⟨k + 1,⟨by omega,h6⟩,by omega,?_⟩
       exact ab
   · have hk:l.length = k + 1:=by omega
     rw [List.drop_of_length_le (by omega),List.take_of_length_le (by omega)] at h4
     have h4:l = R:=by rw [← h4];simp [eY]
     subst h4
     clear hE hR
     (refine bq ?_;(repeat' first|refine W2.mk ?_ ?_|refine W1.mk fun hc=>?_))
     (refine ⟨(by first|exact .inl rfl|exact .inr rfl),bR [(2000,3000)] rfl rfl ?_ ?_⟩;(focus (repeat (first|exact ay.nil|(refine ay.cons rfl ?_ ?_;(focus first|rfl|skip))))))
     exact Lr rfl rfl
end
def nq (x y:Vn):Int:=vR x.1 x.2 y.1 y.2
theorem wS (x y:Vn):ltOf nq x y = true ↔ x.1 < y.1 ∨ x.1 = y.1 ∧ x.2 < y.2:=by
 unfold ltOf nq vR
 rw [decide_eq_true_eq]
 split
 · omega
 · split
   · omega
   · omega
theorem oB (x y:Vn):ltOf nq x y = false ↔ ¬ (x.1 < y.1 ∨ x.1 = y.1 ∧ x.2 < y.2):=by
 rw [← wS];simp
theorem oC:Sort.SWO (ltOf nq) where
 irrefl x:=by rw [oB];omega
 trans x y z h1 h2:=by rw [wS] at *;omega
 ntrans x y z h1 h2:=by rw [oB] at *;omega
def jM (l:List Vn):List Vn:=iy nq l
theorem qS (l:List Vn):(jM l).Perm l:=(fX oC l).1
theorem wT:∀ (l:List Vn) (p:Vn),(p :: l).Pairwise (fun x y=>ltOf nq y x = false) → ((eY p l).length = l.length ↔ (p :: l).Nodup):=by
 intro l
 induction l with
 | nil=>intro p _;simp [eY]
 | cons x l ih=>
   intro p h
   have h2:=ih x h.of_cons
   unfold eY
   by_cases e:x = p
   · rw [if_pos e]
     have:=sK x l
     constructor
     · intro q;simp only [List.length_cons] at q;omega
     · intro q;exact absurd (by rw [e];exact List.mem_cons_self) (List.nodup_cons.1 q).1
   · rw [if_neg e,List.length_cons,List.length_cons,List.nodup_cons,← h2]
     constructor
     · intro q
       refine ⟨fun hm=>?_,by omega⟩
       rcases List.mem_cons.1 hm with hm|hm
       · exact e hm.symm
       · have a:=(List.pairwise_cons.1 h).1 x List.mem_cons_self
         have b:=(List.pairwise_cons.1 h.of_cons).1 p hm
         rw [oB] at a b
         exact e (Prod.ext (by omega) (by omega))
     · intro q;omega
theorem wU (l:List Vn):(jh (jM l)).length = l.length ↔ l.Nodup:=by
 obtain ⟨h1,h2⟩:=fX oC l
 have h1:(jM l).Perm l:=h1
 have h2:(jM l).Pairwise (fun x y=>ltOf nq y x = false):=h2
 rw [← h1.nodup_iff,← h1.length_eq]
 generalize jM l = L at *
 cases L with
 | nil=>simp [jh]
 | cons p L=>rw [← wT L p h2];simp [jh]
section
def so_ver_ren:Go.Shelf.Ren:=⟨fun|6=>175|14=>204|15=>189|20=>238|21=>239|22=>240|23=>241|24=>242|25=>243|26=>244|27=>245|28=>223|29=>224|46=>263|47=>253|48=>254|49=>264|50=>265|57=>277|n=>n,fun|0=>0|3=>3|4=>4|5=>5|9=>9|22=>170|24=>59|25=>217|39=>231|45=>253|46=>254|50=>258|53=>261|55=>48|66=>283|70=>287|76=>296|77=>297|n=>n,fun n=>n⟩
theorem K1:SlLaysF0.n6 Tryz.prog so_ver_ren:={ mixed:=by kernel_rfl,f6:=⟨Tryz.f175.name,by decide,Tryz.func175.trans (congrArg some (by kernel_rfl))⟩,f14:=⟨Tryz.f204.name,by decide,Tryz.func204.trans (congrArg some (by kernel_rfl))⟩,f15:=Tryz.func189.trans (congrArg some (by kernel_rfl)),f20:=⟨Tryz.f238.name,by decide,Tryz.func238.trans (congrArg some (by kernel_rfl))⟩,f21:=⟨Tryz.f239.name,by decide,Tryz.func239.trans (congrArg some (by kernel_rfl))⟩,f22:=⟨Tryz.f240.name,by decide,Tryz.func240.trans (congrArg some (by kernel_rfl))⟩,f23:=⟨Tryz.f241.name,by decide,Tryz.func241.trans (congrArg some (by kernel_rfl))⟩,f24:=⟨Tryz.f242.name,by decide,Tryz.func242.trans (congrArg some (by kernel_rfl))⟩,f25:=⟨Tryz.f243.name,by decide,Tryz.func243.trans (congrArg some (by kernel_rfl))⟩,f26:=⟨Tryz.f244.name,by decide,Tryz.func244.trans (congrArg some (by kernel_rfl))⟩,f27:=⟨Tryz.f245.name,by decide,Tryz.func245.trans (congrArg some (by kernel_rfl))⟩,f28:=Tryz.func223.trans (congrArg some (by kernel_rfl)),f29:=Tryz.func224.trans (congrArg some (by kernel_rfl)),f46:=⟨Tryz.f263.name,by decide,Tryz.func263.trans (congrArg some (by kernel_rfl))⟩,f47:=Tryz.func253.trans (congrArg some (by kernel_rfl)),f48:=Tryz.func254.trans (congrArg some (by kernel_rfl)),f49:=⟨Tryz.f264.name,by decide,Tryz.func264.trans (congrArg some (by kernel_rfl))⟩,f50:=⟨Tryz.f265.name,by decide,Tryz.func265.trans (congrArg some (by kernel_rfl))⟩,f57:=⟨Tryz.f277.name,by decide,Tryz.func277.trans (congrArg some (by kernel_rfl))⟩,t0:=Tryz.underlying0,a0:=Tryz.isAgg0,z0:=Tryz.sizeOf0,v0:=Tryz.zeroValue0,t3:=Tryz.underlying3,a3:=Tryz.isAgg3,z3:=Tryz.sizeOf3,v3:=Tryz.zeroValue3,t4:=Tryz.underlying4,a4:=Tryz.isAgg4,z4:=Tryz.sizeOf4,v4:=Tryz.zeroValue4,t5:=Tryz.underlying5,a5:=Tryz.isAgg5,z5:=Tryz.sizeOf5,v5:=Tryz.zeroValue5,t9:=Tryz.underlying9,a9:=Tryz.isAgg9,z9:=Tryz.sizeOf9,v9:=Tryz.zeroValue9,t22:=Tryz.underlying170,a22:=Tryz.isAgg170,z22:=Tryz.sizeOf170,v22:=Tryz.zeroValue170,t25:=Tryz.underlying217,a25:=Tryz.isAgg217,z25:=Tryz.sizeOf217,v25:=Tryz.zeroValue217,t39:=Tryz.underlying231,a39:=Tryz.isAgg231,z39:=Tryz.sizeOf231,v39:=Tryz.zeroValue231,t45:=Tryz.underlying253,a45:=Tryz.isAgg253,z45:=Tryz.sizeOf253,v45:=Tryz.zeroValue253,t46:=Tryz.underlying254,a46:=Tryz.isAgg254,z46:=Tryz.sizeOf254,v46:=Tryz.zeroValue254,t50:=Tryz.underlying258,a50:=Tryz.isAgg258,z50:=Tryz.sizeOf258,v50:=Tryz.zeroValue258,t53:=Tryz.underlying261,a53:=Tryz.isAgg261,z53:=Tryz.sizeOf261,v53:=Tryz.zeroValue261,t55:=Tryz.underlying48,a55:=Tryz.isAgg48,z55:=Tryz.sizeOf48,v55:=Tryz.zeroValue48,t66:=Tryz.underlying283,a66:=Tryz.isAgg283,z66:=Tryz.sizeOf283,v66:=Tryz.zeroValue283,t70:=Tryz.underlying287,a70:=Tryz.isAgg287,z70:=Tryz.sizeOf287,v70:=Tryz.zeroValue287,t76:=Tryz.underlying296,a76:=Tryz.isAgg296,z76:=Tryz.sizeOf296,v76:=Tryz.zeroValue296,t77:=Tryz.underlying297,a77:=Tryz.isAgg297,z77:=Tryz.sizeOf297,v77:=Tryz.zeroValue297 }
theorem Gj (x y:Vn) (w:World) :
   Calls Tryz.prog 174 #[.agg #[.int .i64 x.1,.int .i64 x.2],.agg #[.int .i64 y.1,.int .i64 y.2]] w fun e w'=>e = .returned (.int .i64 (nq x y)) ∧ Gw w w':=by
 unfold nq vR
 go_enter Tryz.func174,Tryz.ntmps174
 go_wp2
 all_goals (go_ret;exact ⟨rfl,((Gw.refl w).alloc _).alloc _⟩)
abbrev uy (l:List Vn):Cnt:=.bor 2 (l.map vnP)
theorem Gk (l:List Vn) (hl:l.length ≤ 1000000000) :
   el Tryz.prog 175 [.row 1000 0,.per (aq (.func (.func 174) #[] #[]))] [(1000,.row 59 2 (l.map vnP))] .any [(1000,.row 59 2 ((jM l).map vnP))]:=
 n5 (e:=59) (k:=2) (G:=174) K1 Tryz.isAgg59 Tryz.sizeOf59 (enc:=fun x:Vn=>[.int .i64 x.1,.int .i64 x.2]) ⟨by decide,fun _=>rfl,fun x v hv=>by simp at hv;rcases hv with rfl|rfl <;> rfl⟩ oC (enters_of Tryz.func174 (by kernel_rfl) rfl)
   (fun x y w=>Gj x y w) (qj Tryz.func175 (by kernel_rfl) (by kernel_rfl)) l (by omega)
end
section
theorem qT (l:List Vn) (hl:l.length ≤ 1000000000):Fn Tryz.prog 129 [uy l] (.own 59 2 ((jh (jM (l.filter K0))).map vnP)):=by
 generalize hT:l.filter K0 = T at *
 have hTl:T.length ≤ 1000000000:=by rw [← hT];exact Nat.le_trans (List.length_filter_le _ _) hl
 have hs:=Gk T hTl
 have hc1:=Gi (jM T) (by rw [(qS T).length_eq];exact hTl)
 generalize jh (jM T) = R at *
 generalize jM T = Q at *
 refine fi Tryz.func129 Tryz.ntmps129 ?_
 (refine bq ?_;(repeat' first|refine W2.mk ?_ ?_|refine W1.mk fun hc=>?_))
 refine ck (bz 3 600 59 2 rfl rfl) ?_
 refine ah (X:=Nat × List Vn) (fun x=>x.1 ≤ l.length ∧ x.2 ++ (l.drop x.1).filter K0 = T)
   (fun x=>aN [(3,.row 600 0),(6,uy l),(7,iC .i64 (l.length:Nat)),(8,iC .i64 (x.1:Nat))] [(600,.row 59 2 (x.2.map vnP))]) (fun x=>l.length - x.1) (0,[]) ⟨Nat.zero_le _,by simp [hT]⟩ ?_ ?_
 · exact ab
 · rintro ⟨k,ac⟩ ⟨g1,g2⟩
   simp only at g1 g2 ⊢
   by_cases hk:k < l.length
   · have hir:=eA l[k].1 l[k].2
     have hlen:ac.length ≤ 1000000000:=by
       have:=congrArg List.length g2
       simp only [List.length_append] at this;omega
     rw [List.drop_eq_getElem_cons hk,List.filter_cons] at g2
     cases hr:K0 l[k] with
     | false=>
       rw [show cI l[k].1 l[k].2 = false from hr] at hir
       rw [hr] at g2
       clear hs hc1
       (have kc1:=hir;refine bq ?_;(repeat' first|refine W2.mk ?_ ?_|refine W1.mk fun hc=>?_);all_goals clear kc1)
       refine ⟨(k + 1,ac),⟨by simp only;omega,by simpa using g2⟩,by simp only;omega,?_⟩
       exact ab
     | true=>
       rw [show cI l[k].1 l[k].2 = true from hr] at hir
       rw [hr] at g2
       clear hs hc1
       (have kc1:=hir;refine bq ?_;(repeat' first|refine W2.mk ?_ ?_|refine W1.mk fun hc=>?_);all_goals clear kc1)
       refine ⟨(k + 1,ac ++ [l[k]]),⟨by simp only;omega,by simpa using g2⟩,by simp only;omega,ak (aM 600 601) (ak (aM 601 600) ?_)⟩
       exact ab
   · have hkl:k = l.length:=by omega
     subst hkl
     rw [List.drop_length] at g2
     simp at g2
     subst g2
     (have km1:=(show bv [(1000,600)] _ _ _ _ _ _ from hs);have km2:=(show bv [(2000,600),(3000,700)] _ _ _ _ _ _ from hc1);refine bq ?_;(repeat' first|refine W2.mk ?_ ?_|refine W1.mk fun hc=>?_);all_goals clear km2 km1)
     refine aQ ?_
     exact cv rfl rfl rfl
theorem wV (l:List It) (hr:l.all itR = true) (hl:l.length ≤ 1000000):Fn Tryz.prog 69 [di l] (bO (dF l)):=by
 have hs:=qT (l.map verOf) (by rw [List.length_map];omega)
 have hf:(l.map verOf).filter K0 = l.map verOf:=by
   rw [List.filter_eq_self]
   intro v hv
   obtain ⟨x,hx,rfl⟩:=List.mem_map.1 hv
   have:=List.all_eq_true.1 hr x hx
   unfold itR at this
   simp only [Bool.and_eq_true] at this
   exact this.1.2
 rw [hf] at hs
 have hb:dF l = decide (((jh (jM (l.map verOf))).length:Int) = (l.length:Nat)):=by
   unfold dF
   rw [Bool.eq_iff_iff,decide_eq_true_eq,decide_eq_true_eq,← wU,List.length_map]
   omega
 rw [hb]
 clear hf hr hb
 generalize jh (jM (l.map verOf)) = R at *
 refine fi Tryz.func69 Tryz.ntmps69 ?_
 (refine bq ?_;(repeat' first|refine W2.mk ?_ ?_|refine W1.mk fun hc=>?_))
 refine ck (bz 3 600 59 2 rfl rfl) ?_
 refine ah (X:=Nat) (fun k=>k ≤ l.length)
   (fun k=>aN [(0,di l),(3,.row 600 0),(6,di l),(7,iC .i64 (l.length:Nat)),(8,iC .i64 (k:Nat))] [(600,.row 59 2 (((l.take k).map verOf).map vnP))]) (fun k=>l.length - k) 0 (Nat.zero_le _) ?_ ?_
 · exact ab
 · intro k hk
   by_cases hlt:k < l.length
   · have hsn:(l.take (k + 1)).map verOf = (l.take k).map verOf ++ [(l[k].rep,l[k].cnt)]:=by rw [aJ l k hlt,List.map_append];rfl
     have hln:((l.take k).map verOf).length ≤ 1000000:=by simp;omega
     clear hs
     generalize (l.take k).map verOf = A at *
     (refine bq ?_;(repeat' first|refine W2.mk ?_ ?_|refine W1.mk fun hc=>?_))
     refine ⟨k + 1,hlt,by omega,ak (aM 600 601) (ak (aM 601 600) ?_)⟩
     rw [hsn]
     exact ab
   · rw [List.take_of_length_le (by omega)]
     (have kc1:=hs;refine bq ?_;(repeat' first|refine W2.mk ?_ ?_|refine W1.mk fun hc=>?_);all_goals clear kc1)
     refine aQ ?_
     exact af rfl rfl
end
end Go.Proofs.YtembiemaiacdfaaGreat
