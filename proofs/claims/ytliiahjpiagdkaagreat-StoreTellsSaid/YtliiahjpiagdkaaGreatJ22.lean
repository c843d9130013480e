/- Texts joined: IxE IxF IxG IxH IxI AbsB. -/
import Derived.Test.YtliiahjpiagdkaaGreatJ20
import Derived.Test.YtliiahjpiagdkaaGreatJ21
import Derived.Test.YtliiahjpiagdkaaGreatJ05
import Derived.Test.YtliiahjpiagdkaaGreatJ07
import Derived.Test.YtliiahjpiagdkaaGreatJ17
import Derived.Laws.MakeOwn
import Derived.Lib.BufferWrite
set_option maxRecDepth 10000
set_option maxHeartbeats 8000000
namespace Go.Proofs.YtliiahjpiagdkaaGreat
open Go.RowKit Go.Lib
def encE (x:Ety):List Value:=[.int .i64 x.1,.string x.2]
theorem fg (l:List Ety):(l.flatMap encE).length = l.length * 2:=by
 induction l with
 | nil=>rfl
 | cons x l ih=>rw [List.flatMap_cons,List.length_append,ih,List.length_cons];show 2 + _ = _;omega
theorem sK (l:List Ety) (i:Nat):(l.flatMap encE).take (i * 2) = (l.take i).flatMap encE:=by
 induction l generalizing i with
 | nil=>simp
 | cons x l ih=>
  cases i with
  | zero=>simp
  | succ i=>
   rw [List.flatMap_cons,List.take_succ_cons,List.flatMap_cons,← ih i]
   show ([_,_] ++ _).take _ = _
   rw [show (i + 1) * 2 = i * 2 + 1 + 1 by omega]
   rfl
theorem o4 (l:List Ety) (i:Nat):(l.flatMap encE).drop (i * 2) = (l.drop i).flatMap encE:=by
 induction l generalizing i with
 | nil=>simp
 | cons x l ih=>
  cases i with
  | zero=>simp
  | succ i=>
   rw [List.flatMap_cons,List.drop_succ_cons,← ih i]
   show ([_,_] ++ _).drop _ = _
   rw [show (i + 1) * 2 = i * 2 + 1 + 1 by omega]
   rfl
theorem wu (l:List Ety) (t:Nat) (x:Ety) (h:l[t]? = some x) (j:Nat) (hj:j < 2):(l.flatMap encE)[t * 2 + j]? = (encE x)[j]?:=by
 have h1:((l.flatMap encE).drop (t * 2))[j]? = (l.flatMap encE)[t * 2 + j]?:=List.getElem?_drop
 rw [← h1,o4]
 obtain ⟨ht,rfl⟩:=List.getElem?_eq_some_iff.1 h
 rw [List.drop_eq_getElem_cons ht,List.flatMap_cons,List.getElem?_append_left (by show j < 2;exact hj)]
theorem m0 (l:List Ety):∀ v ∈ l.flatMap encE,v.oneCell' = true:=by
 intro v hv
 obtain ⟨x,_,hx⟩:=List.mem_flatMap.1 hv
 simp only [encE,List.mem_cons,List.not_mem_nil,or_false] at hx
 rcases hx with rfl|rfl <;> rfl
theorem wv {N:BP} {w:World} {l:List Ety} {cs:Array Value} (_hs:l.length * 2 ≤ cs.size)
 (h:∀ (i:Nat) (ps:List PV),(l.map li)[i]? = some ps → ps.length = 2 ∧ ∀ (j:Nat) (A:PV),ps[j]? = some A → ∃ y,cs[i * 2 + j]? = some y ∧ y.oneCell' = true ∧ A.p N w y):cs.toList.take (l.length * 2) = l.flatMap encE:=by
 refine List.ext_getElem? fun q=>?_
 rcases Nat.lt_or_ge q (l.length * 2) with hq|hq
 ·have ht:q / 2 < l.length:=by omega
  have hx:l[q / 2]? = some l[q / 2]:=List.getElem?_eq_getElem ht
  have hg:=(h (q / 2) (li l[q / 2]) (by rw [List.getElem?_map,hx];rfl)).2
  rw [List.getElem?_take,if_pos hq]
  rcases Nat.mod_two_eq_zero_or_one q with e|e
  ·obtain ⟨y,y1,_,y3⟩:=hg 0 _ rfl
   have y3:y = .int .i64 l[q / 2].1:=y3
   have hE:=wu l (q / 2) _ hx 0 (by decide)
   rw [show q / 2 * 2 + 0 = q by omega] at y1 hE
   rw [hE,Array.getElem?_toList,y1,y3];rfl
  ·obtain ⟨y,y1,_,y3⟩:=hg 1 _ rfl
   have y3:y = .string l[q / 2].2:=y3
   have hE:=wu l (q / 2) _ hx 1 (by decide)
   rw [show q / 2 * 2 + 1 = q by omega] at y1 hE
   rw [hE,Array.getElem?_toList,y1,y3];rfl
 ·rw [List.getElem?_eq_none (by rw [List.length_take];omega),List.getElem?_eq_none (by rw [fg];exact hq)]
theorem C0 {N:BP} {w:World} {l:List Ety} {cs:Array Value} (h:cs.toList.take (l.length * 2) = l.flatMap encE) :
 ∀ (i:Nat) (ps:List PV),(l.map li)[i]? = some ps → ps.length = 2 ∧ ∀ (j:Nat) (A:PV),ps[j]? = some A → ∃ y,cs[i * 2 + j]? = some y ∧ y.oneCell' = true ∧ A.p N w y:=by
 intro i ps hi
 rw [List.getElem?_map] at hi
 obtain ⟨x,hx,rfl⟩:=Option.map_eq_some_iff.1 hi
 have hil:i < l.length:=(List.getElem?_eq_some_iff.1 hx).1
 refine ⟨rfl,fun j A hj=>?_⟩
 have hj2:j < 2:=(List.getElem?_eq_some_iff.1 hj).1
 have hE:=wu l i x hx j hj2
 rw [← h,List.getElem?_take,if_pos (by omega),Array.getElem?_toList] at hE
 match j,hj2,hj with
 | 0,_,hj=>cases hj;exact ⟨_,hE,rfl,rfl⟩
 | 1,_,hj=>cases hj;exact ⟨_,hE,rfl,rfl⟩
theorem eB {w:World} {b o e:Nat} {cs:Array Value} {vs:List Value} (hh:w.heap[b]? = some (.cells cs e (0,0))) (hl:o + vs.length ≤ cs.size) (h1:∀ v ∈ vs,v.oneCell' = true) :
 w.setCells b o vs = w.setRow b (cs.toList.take o ++ vs ++ cs.toList.drop (o + vs.length)).toArray:=by
 have hA:=run_storeCells_at (P:=Tryz.prog) b o e vs 0 cs w hh (by omega) h1
 have hB:=run_storeCells_cells (P:=Tryz.prog) b o vs 0 w (fun j hj=>by
  have:o + 0 + j < cs.size:=by omega
  simp [World.cell?,hh];omega) (fun j hj=>by simp [World.frozen?,hh]) h1
 rw [hA] at hB
 simp only [Nat.add_zero] at hB
 injection hB with _ hB
 exact hB.symm
section
theorem N5 (l:List Ety) (i:Nat) (hi:i < l.length) (hl:l.length ≤ 1000000000) :
 de Tryz.prog 138 [.row 2000 0,iC .i64 (i:Nat),iC .i64 ((i + 1:Nat):Int)] [(2000,bt l)] (.row 3000 0) [(3000,bt (l.take i ++ l.drop (i + 1)))]:=by
 refine ⟨nA Tryz.func138 (by kernel_rfl) (by kernel_rfl),?_⟩
 intro C w vs hW hN hO hvl hvs hb
 obtain ⟨v0,v1,v2,rfl⟩:∃ v0 v1 v2,vs = [v0,v1,v2]:=by match vs,hvl with|[a,b,c],_=>exact ⟨a,b,c,rfl⟩
 have h0:=hvs 0 v0 _ rfl rfl
 have e1:v1 = .int .i64 (i:Nat):=hvs 1 v1 _ rfl rfl
 have e2:v2 = .int .i64 ((i + 1:Nat):Int):=hvs 2 v2 _ rfl rfl
 have e0:v0 = C.G0.rh 2000:=h0.2 rfl
 subst e0 e1 e2
 have hrow:=hb 2000
 rcases hrow with ⟨q1,q2⟩|⟨cap,cs,q1,q2,q3,q4,q5,q6,q7⟩
 ·have hl0:l = []:=by simpa using q2
  rw [hl0] at hi;cases hi
 rw [List.length_map] at q1 q4
 obtain ⟨b,hb0⟩:∃ b,b = C.G0.ph 2000:=⟨_,rfl⟩
 rw [← hb0] at q1 q2 q3
 have hbl:=hO b 2000 q3
 have hfl:=wv (cs:=cs) (by omega) q7
 obtain ⟨news,hnews⟩:∃ news,news = (l.drop (i + 1)).flatMap encE:=⟨_,rfl⟩
 have hlen:news.length = (l.length - (i + 1)) * 2:=by rw [hnews,fg,List.length_drop]
 have hone:∀ u ∈ news,u.oneCell' = true:=by rw [hnews];exact m0 _
 have hget:∀ t,t < l.length * 2 → cs[t]? = (l.flatMap encE)[t]?:=fun t ht=>by rw [← hfl,List.getElem?_take,if_pos ht,Array.getElem?_toList]
 have hcell:∀ t u,news[t]? = some u → w.cell? ⟨b,(i + 1) * 2 + t,none⟩ = some u:=by
  intro t u hu
  have ht:t < (l.length - (i + 1)) * 2:=by rw [← hlen];exact (List.getElem?_eq_some_iff.1 hu).1
  rw [hnews,← o4,List.getElem?_drop] at hu
  simp [World.cell?,q2,hget _ (show (i + 1) * 2 + t < l.length * 2 by omega),hu]
 have hall:∀ t,t < l.length * 2 → (w.cell? ⟨b,t,none⟩).isSome = true ∧ w.frozen? ⟨b,t,none⟩ = false:=by
  intro t ht
  refine ⟨?_,by simp [World.frozen?,q2]⟩
  have:t < cs.size:=by omega
  simp [World.cell?,q2,this]
 rw [q1]
 refine (LV b cap i l.length news w q4 hi (by unfold maxLen at q5;omega) hlen hone hcell hall).mono ?_
 rintro e' w' ⟨rfl,rfl⟩
 have hn1:i + (l.length - (i + 1)) = l.length - 1:=by omega
 have hll:(l.take i ++ l.drop (i + 1)).length = l.length - 1:=by simp;omega
 rw [hn1]
 obtain ⟨c1,hc1⟩:∃ c1:Array Value,c1 = (cs.toList.take (i * 2) ++ news ++ cs.toList.drop (i * 2 + news.length)).toArray:=⟨_,rfl⟩
 have hs1:c1.size = cs.size:=by rw [hc1];simp;omega
 have hd:w.drew.heap[b]? = some (.cells cs 140 (0,0)):=q2
 have hA:w.drew.setCells b (i * 2) news = w.drew.setRow b c1:=by rw [hc1];exact eB hd (by omega) hone
 have hh1:(w.drew.setRow b c1).heap[b]? = some (.cells c1 140 (0,0)):=setRow_heap _ _ _ _ _ _ hd
 obtain ⟨c2,hc2⟩:∃ c2:Array Value,c2 = (c1.toList.take ((l.length - 1) * 2) ++ entZ ++ c1.toList.drop ((l.length - 1) * 2 + entZ.length)).toArray:=⟨_,rfl⟩
 have hs2:c2.size = cs.size:=by rw [hc2,← hs1];simp;omega
 have hB:(w.drew.setRow b c1).setCells b ((l.length - 1) * 2) entZ = w.drew.setRow b c2:=by
  rw [eB hh1 (by simp;omega) (by intro v hv;simp only [List.mem_cons,List.not_mem_nil,or_false] at hv;rcases hv with rfl|rfl <;> rfl),← hc2,setRow_setRow]
 rw [hA,hB]
 have hblock:∀ b',b' ≠ b → (w.drew.setRow b c2).heap[b']? = w.heap[b']?:=fun b' h'=>setRow_other _ _ _ _ h'
 have hthis:(w.drew.setRow b c2).heap[b]? = some (.cells c2 140 (0,0)):=setRow_heap _ _ _ _ _ _ hd
 have hsz:w.heap.size = (w.drew.setRow b c2).heap.size:=by rw [setRow_size];rfl
 have hfl2:c2.toList.take ((l.take i ++ l.drop (i + 1)).length * 2) = (l.take i ++ l.drop (i + 1)).flatMap encE:=by
  have e3:cs.toList.take (i * 2) = (l.take i).flatMap encE:=by
   rw [← sK,← hfl,List.take_take,Nat.min_eq_left (by omega)]
  rw [hll,hc2]
  show List.take _ (_ ++ _ ++ _) = _
  rw [List.append_assoc,List.take_append_of_le_length (by simp;omega),List.take_take,Nat.min_self,hc1]
  show List.take _ (_ ++ _ ++ _) = _
  rw [List.take_left' (by rw [List.length_append,e3,fg,hlen,List.length_take];omega),e3,hnews,List.flatMap_append]
 refine ⟨_,⟨fun j=>if C.G0.ow j = some 2000 then some 3000 else C.G0.ow j,fun j=>if j = 3000 then b else C.G0.ph j,fun j=>if j = 3000 then .slice (some ⟨b,0,none⟩) (l.length - 1) cap else C.G0.rh j⟩,rfl,
  ⟨rfl,rfl,rfl,Nat.le_of_eq hsz,fun b' _ h'=>hblock b' (fun e=>h' (e ▸ hbl.2)),fun b' id h=>?_,fun id hf=>?_⟩,⟨Nat.le_refl _,fun _=>rfl⟩,fun id=>?_⟩
 ·simp only at h
  have:C.G0.ow b' ≠ none:=by
   intro e;rw [if_neg (by rw [e];simp),e] at h;cases h
  obtain ⟨id',he⟩:=Option.ne_none_iff_exists'.1 this
  have:=hO b' id' he
  exact ⟨by rw [← hsz];exact this.1,.inr this.2⟩
 ·by_cases q:id = 3000
  ·subst q;cases hf
  ·exact ⟨if_neg q,if_neg q⟩
 ·by_cases hid:id = 3000
  ·subst hid
   refine .inr ⟨cap,c2,?_,?_,?_,?_,q5,?_,?_⟩
   ·simp only [if_true,List.length_map,hll]
   ·simp only [if_true];exact hthis
   ·simp only [if_true];rw [q3];rfl
   ·rw [List.length_map,hll];omega
   ·rw [hs2];exact q6
   ·exact C0 hfl2
  ·rw [show cW id [(3000,bt (l.take i ++ l.drop (i + 1)))] = .none by simp [cW,dm hid]];trivial
end
end Go.Proofs.YtliiahjpiagdkaaGreat
namespace Go.Proofs.YtliiahjpiagdkaaGreat
open Go.RowKit Go.Lib
section
theorem L5 {C:Ctx} {w w':World} {b' cap':Nat} {c2:Array Value} {l':List Ety} (hO:∀ b id,C.G0.ow b = some id → b < w.heap.size ∧ C.L b)
 (ho:w'.os = w.os) (ht:w'.tape = w.tape) (hu:w'.output = w.output) (hs:w.heap.size ≤ w'.heap.size) (hold:∀ j,j < w.heap.size → ¬ C.L j → w'.heap[j]? = w.heap[j]?)
 (hb:b' < w'.heap.size ∧ (w.heap.size ≤ b' ∨ C.L b')) (hh:w'.heap[b']? = some (.cells c2 140 (0,0))) (hc:c2.size = cap' * 2) (hn:l'.length ≤ cap') (hm:cap' ≤ maxLen)
 (hf:c2.toList.take (l'.length * 2) = l'.flatMap encE) :
 ∃ v g',Ending.returned (.slice (some ⟨b',0,none⟩) l'.length cap') = .returned v ∧ O0 C w w' g' ∧ crep C z0 g' w' v (.row 3000 0) ∧ ∀ id,brep C z0 g' w' id (cW id [(3000,bt l')]):=by
 refine ⟨_,⟨fun j=>if j = b' then some 3000 else C.G0.ow j,fun j=>if j = 3000 then b' else C.G0.ph j,fun j=>if j = 3000 then .slice (some ⟨b',0,none⟩) l'.length cap' else C.G0.rh j⟩,rfl,
  ⟨ho,ht,hu,hs,hold,fun j id h=>?_,fun id hf=>?_⟩,⟨Nat.le_refl _,fun _=>rfl⟩,fun id=>?_⟩
 ·simp only at h
  by_cases e:j = b'
  ·rw [e];exact hb
  ·rw [if_neg e] at h
   have:=hO j id h
   exact ⟨Nat.lt_of_lt_of_le this.1 hs,.inr this.2⟩
 ·by_cases q:id = 3000
  ·subst q;cases hf
  ·exact ⟨if_neg q,if_neg q⟩
 ·by_cases hid:id = 3000
  ·subst hid
   refine .inr ⟨cap',c2,?_,?_,?_,?_,hm,hc,C0 hf⟩
   ·simp only [if_true,List.length_map]
   ·simp only [if_true];exact hh
   ·simp only [if_true]
   ·rw [List.length_map];exact hn
  ·rw [show cW id [(3000,bt l')] = .none by simp [cW,dm hid]];trivial
theorem nS (w:World) (o:Obj):(w.alloc o).heap[w.heap.size]? = some o:=by
 show (w.heap.push o)[w.heap.size]? = _
 simp
theorem p7 (w:World) (o:Obj) {j:Nat} (h:j < w.heap.size):(w.alloc o).heap[j]? = w.heap[j]?:=by
 show (w.heap.push o)[j]? = _
 rw [Array.getElem?_push,if_neg (Nat.ne_of_lt h)]
theorem jl (w:World) (o:Obj):(w.alloc o).heap.size = w.heap.size + 1:=by
 show (w.heap.push o).size = _
 simp
theorem ri (l:List Ety) (i:Nat) (x:Ety):(l.take i ++ x :: l.drop i).flatMap encE = (l.take i).flatMap encE ++ (encE x ++ (l.drop i).flatMap encE):=by
 rw [List.flatMap_append,List.flatMap_cons]
theorem mf {A D R:List Value} {n:Nat} (h:n = A.length + D.length):(A ++ D ++ R).take n = A ++ D:=by
 rw [h,← List.length_append,List.take_left]
theorem N6 (l:List Ety) (i:Nat) (x:Ety) (hi:i ≤ l.length) (hl:l.length ≤ 1000000000) :
 de Tryz.prog 142 [.row 2000 0,iC .i64 (i:Nat),.row 2001 0] [(2000,bt l),(2001,bt [x])] (.row 3000 0) [(3000,bt (l.take i ++ x :: l.drop i))]:=by
 refine ⟨nA Tryz.func142 (by kernel_rfl) (by kernel_rfl),?_⟩
 intro C w vs hW hN hO hvl hvs hb
 obtain ⟨v0,v1,v2,rfl⟩:∃ v0 v1 v2,vs = [v0,v1,v2]:=by match vs,hvl with|[a,b,c],_=>exact ⟨a,b,c,rfl⟩
 have h0:=hvs 0 v0 _ rfl rfl
 have e1:v1 = .int .i64 (i:Nat):=hvs 1 v1 _ rfl rfl
 have h2:=hvs 2 v2 _ rfl rfl
 have e0:v0 = C.G0.rh 2000:=h0.2 rfl
 have e2:v2 = C.G0.rh 2001:=h2.2 rfl
 subst e0 e1 e2
 have hrow:=hb 2000
 have hrow2:=hb 2001
 rcases hrow2 with ⟨_,z2⟩|⟨vc,ds,z1,z2,z3,z4,z5,z6,z7⟩
 ·cases z2
 have z1:C.G0.rh 2001 = .slice (some ⟨C.G0.ph 2001,0,none⟩) 1 vc:=z1
 have z4:1 ≤ vc:=z4
 obtain ⟨vb,hvb0⟩:∃ vb,vb = C.G0.ph 2001:=⟨_,rfl⟩
 rw [← hvb0] at z1 z2 z3
 have hdf:=wv (l:=[x]) (cs:=ds) (by show 1 * 2 ≤ _;omega) z7
 have hdx:[x].flatMap encE = encE x:=by simp
 rw [hdx] at hdf
 have hvs2:∀ j v,(encE x)[j]? = some v → w.cell? ⟨vb,j,none⟩ = some v:=by
  intro j v hj
  rw [← hdf,List.getElem?_take] at hj
  split at hj
  ·simpa [World.cell?,z2] using hj
  ·cases hj
 have h1v:∀ v ∈ encE x,v.oneCell' = true:=by rw [← hdx];exact m0 _
 rw [z1]
 have hll:(l.take i ++ x :: l.drop i).length = l.length + 1:=by simp;omega
 have hml:maxLen = 9223372036854775807:=rfl
 have hfin:=@L5 C w
 rcases hrow with ⟨q1,q2⟩|⟨cap,cs,q1,q2,q3,q4,q5,q6,q7⟩
 ·have hl0:l = []:=by simpa using q2
  subst hl0
  obtain rfl:i = 0:=by simpa using hi
  rw [q1]
  refine (o2 none 0 0 vb vc [] (encE x) w (Nat.le_refl _) (by omega) (by omega) rfl rfl (fun _=>rfl) (fun a ha=>by cases ha) hvs2 h1v).mono ?_
  rintro e' w' ⟨rfl,rfl⟩
  have g1:=grownCap_ge w (0 + 1) 0 140
  have g2:=grownCap_le_maxLen w (0 + 1) 0 140 (by rw [hml];omega)
  generalize grownCap w (0 + 1) 0 140 = G at *
  refine hfin (l':=[x]) hO rfl rfl rfl (by rw [jl];exact Nat.le_succ _) (fun j hj _=>p7 w.drew _ hj) ⟨by rw [jl];exact Nat.lt_succ_self _,.inl (Nat.le_refl _)⟩ (nS w.drew _) ?_ g1 g2 ?_
  ·simp [Builtin.zeroCells,encE]
   rw [show (Value.agg #[.int .i64 0,.string ⟨#[]⟩]).cells.size = 2 from rfl];omega
  ·rw [hdx,Array.toList_append];exact List.take_left' rfl
 rw [List.length_map] at q1 q4
 obtain ⟨b,hb0⟩:∃ b,b = C.G0.ph 2000:=⟨_,rfl⟩
 rw [← hb0] at q1 q2 q3
 have hbl:=hO b 2000 q3
 have hne:vb ≠ b:=by
  intro e;rw [e] at z3;rw [z3] at q3;cases q3
 have hfl:=wv (cs:=cs) (by omega) q7
 have hget:∀ t v,(l.flatMap encE)[t]? = some v → w.cell? ⟨b,t,none⟩ = some v:=fun t v ht=>by
  rw [← hfl,List.getElem?_take] at ht
  split at ht
  ·simpa [World.cell?,q2] using ht
  ·cases ht
 have hsome:∀ t,t < cs.size → (w.cell? ⟨b,t,none⟩).isSome = true:=fun t ht=>by simp [World.cell?,q2,ht]
 have hfz:∀ t,w.frozen? ⟨b,t,none⟩ = false:=fun t=>by simp [World.frozen?,q2]
 have e3:cs.toList.take (i * 2) = (l.take i).flatMap encE:=by rw [← sK,← hfl,List.take_take,Nat.min_eq_left (by omega)]
 rw [q1]
 have hout:∀ (c2:Array Value),c2.size = cs.size → l.length + 1 ≤ cap → c2.toList.take ((l.length + 1) * 2) = (l.take i ++ x :: l.drop i).flatMap encE → ∀ (W:World),W.heap = w.heap → W.os = w.os → W.tape = w.tape → W.output = w.output →
  ∃ v g',Ending.returned (.slice (some ⟨b,0,none⟩) (l.length + 1) cap) = .returned v ∧ O0 C w (W.setRow b c2) g' ∧ crep C z0 g' (W.setRow b c2) v (.row 3000 0) ∧ ∀ id,brep C z0 g' (W.setRow b c2) id (cW id [(3000,bt (l.take i ++ x :: l.drop i))]):=by
  intro c2 k1 k2 k3 W k4 k5 k6 k7
  have hh:(W.setRow b c2).heap[b]? = some (.cells c2 140 (0,0)):=setRow_heap _ _ _ _ _ _ (by rw [k4];exact q2)
  have:=hfin (l':=l.take i ++ x :: l.drop i) (w':=W.setRow b c2) (b':=b) (cap':=cap) (c2:=c2) hO k5 k6 k7 (by rw [setRow_size,k4];exact Nat.le_refl _) (fun j hj hL=>by 
   have hj':j ≠ b:=fun e=>hL (by rw [e];exact hbl.2)
   rw [setRow_other _ _ _ _ hj',k4]) ⟨by rw [setRow_size,k4];exact hbl.1,.inr hbl.2⟩ hh (by rw [k1];exact q6) (by rw [hll];exact k2) q5 (by rw [hll];exact k3)
  rw [hll] at this
  exact this
 by_cases hin:i = l.length
 ·subst hin
  have hD:l.drop l.length = []:=List.drop_length
  by_cases hroom:l.length + 1 ≤ cap
  ·refine (wt b l.length cap vb vc (encE x) w hroom (by omega) rfl (fun j hj=>hsome _ (by omega)) (fun j _=>hfz _) hvs2 h1v).mono ?_
   rintro e' w' ⟨rfl,rfl⟩
   rw [eB q2 (by show l.length * 2 + 2 ≤ _;omega) h1v]
   refine hout _ ?_ hroom ?_ w rfl rfl rfl rfl
   ·simp [encE];omega
   ·show List.take _ (_ ++ _ ++ _) = _
    rw [mf (by rw [e3,fg];simp [encE];omega),e3,ri,hD];simp
  ·refine (o2 (some ⟨b,0,none⟩) l.length cap vb vc (l.flatMap encE) (encE x) w q4 (by omega) (by omega) (fg l) rfl (fun h=>by cases h) (fun a ha j v hj=>by cases ha;rw [Addr.add_lit,Nat.zero_add];exact hget j v hj) hvs2 h1v).mono ?_
   rintro e' w' ⟨rfl,rfl⟩
   have g1:=grownCap_ge w (l.length + 1) cap 140
   have g2:=grownCap_le_maxLen w (l.length + 1) cap 140 (by rw [hml];omega)
   generalize grownCap w (l.length + 1) cap 140 = G at *
   have:=hfin (l':=l.take l.length ++ x :: l.drop l.length) (w':=w.drew.alloc (.cells ((l.flatMap encE ++ encE x).toArray ++ Builtin.zeroCells (Value.agg #[.int .i64 0,.string ⟨#[]⟩]).cells (G - (l.length + 1))) 140)) (b':=w.heap.size) (cap':=G) hO rfl rfl rfl (by rw [jl];exact Nat.le_succ _) (fun j hj _=>p7 w.drew _ hj) ⟨by rw [jl];exact Nat.lt_succ_self _,.inl (Nat.le_refl _)⟩ (nS w.drew _) (by
    have:=fg l
    simp [Builtin.zeroCells,encE] at this ⊢
    rw [show (Value.agg #[.int .i64 0,.string ⟨#[]⟩]).cells.size = 2 from rfl];omega) (by rw [hll];exact g1) g2 (by
    rw [hll,ri,hD]
    simp only [Array.toList_append,List.flatMap_nil,List.append_nil,List.take_length]
    rw [mf (by rw [fg];simp [encE];omega)])
   rw [hll] at this
   exact this
 ·have hilt:i < l.length:=by omega
  by_cases hroom:l.length + 1 ≤ cap
  ·refine (ED b l.length cap i vb vc (l.flatMap encE) (encE x) w hilt hroom (by omega) hne (fg l) rfl hget (fun j hj=>hsome _ (by omega)) (fun j _=>hfz _) hvs2 (m0 l) h1v 140 140 ds.size cs.size (by simp [World.shape?,z2]) (by simp [World.shape?,q2]) (by omega) (by simp [World.frozen?,z2]) (by simp [World.frozen?,z2])).mono ?_
   rintro e' w' ⟨rfl,rfl⟩
   rw [o4]
   have hd:w.drew.heap[b]? = some (.cells cs 140 (0,0)):=q2
   have hDl:((l.drop i).flatMap encE).length = (l.length - i) * 2:=by rw [fg,List.length_drop]
   rw [eB hd (by rw [hDl];omega) (m0 _)]
   obtain ⟨c1,hc1⟩:∃ c1:Array Value,c1 = (cs.toList.take ((i + 1) * 2) ++ (l.drop i).flatMap encE ++ cs.toList.drop ((i + 1) * 2 + ((l.drop i).flatMap encE).length)).toArray:=⟨_,rfl⟩
   rw [← hc1]
   have hs1:c1.size = cs.size:=by
    have:cs.toList.length = cs.size:=Array.length_toList
    rw [hc1,List.size_toArray,List.length_append,List.length_append,List.length_take,List.length_drop,hDl];omega
   have hh1:(w.drew.setRow b c1).heap[b]? = some (.cells c1 140 (0,0)):=setRow_heap _ _ _ _ _ _ hd
   rw [eB hh1 (by show i * 2 + 2 ≤ _;omega) h1v,setRow_setRow]
   have a1:c1.toList.take (i * 2) = (l.take i).flatMap encE:=by
    rw [hc1]
    show List.take _ (_ ++ _ ++ _) = _
    have:cs.toList.length = cs.size:=Array.length_toList
    rw [List.append_assoc,List.take_append_of_le_length (by rw [List.length_take];omega),List.take_take,Nat.min_eq_left (by omega),e3]
   have a2:c1.toList.drop (i * 2 + (encE x).length) = (l.drop i).flatMap encE ++ cs.toList.drop ((i + 1) * 2 + ((l.drop i).flatMap encE).length):=by
    rw [hc1]
    show List.drop _ (_ ++ _ ++ _) = _
    have:cs.toList.length = cs.size:=Array.length_toList
    rw [List.append_assoc,List.drop_left' (by rw [List.length_take];show _ = i * 2 + 2;omega)]
   refine hout _ ?_ hroom ?_ w.drew rfl rfl rfl rfl
   ·have:c1.toList.length = c1.size:=Array.length_toList
    rw [List.size_toArray,List.length_append,List.length_append,List.length_take,List.length_drop]
    show min (i * 2) _ + 2 + (_ - (i * 2 + 2)) = _
    omega
   ·show List.take _ (_ ++ _ ++ _) = _
    rw [a1,a2,ri,← List.append_assoc,← List.append_assoc ((l.take i).flatMap encE),mf (by
     rw [List.length_append,fg,hDl,List.length_take];show _ = _ + 2 + _;omega)]
  ·refine (IR b l.length cap i vb vc (l.flatMap encE) (encE x) w hilt q4 (by omega) (by omega) (fg l) rfl hget hvs2 (m0 l) h1v).mono ?_
   rintro e' w' ⟨rfl,rfl⟩
   rw [sK,o4]
   have g1:=grownCap_ge w (l.length + 1) cap 140
   have g2:=grownCap_le_maxLen w (l.length + 1) cap 140 (by rw [hml];omega)
   generalize grownCap w (l.length + 1) cap 140 = G at *
   have hDl:((l.drop i).flatMap encE).length = (l.length - i) * 2:=by rw [fg,List.length_drop]
   have hTl:((l.take i).flatMap encE).length = i * 2:=by rw [fg,List.length_take];omega
   have hzs:∀ q,(Builtin.zeroCells (Value.agg #[.int .i64 0,.string ⟨#[]⟩]).cells q).size = q * 2:=fun q=>by
    simp [Builtin.zeroCells]
    rw [show (Value.agg #[.int .i64 0,.string ⟨#[]⟩]).cells.size = 2 from rfl]
   obtain ⟨R,hR⟩:∃ R:Array Value,R = ((l.take i).flatMap encE).toArray ++ Builtin.zeroCells (Value.agg #[.int .i64 0,.string ⟨#[]⟩]).cells (l.length + 1 - i) ++ Builtin.zeroCells (Value.agg #[.int .i64 0,.string ⟨#[]⟩]).cells (G - (l.length + 1)):=⟨_,rfl⟩
   rw [← hR]
   have hRs:R.size = G * 2:=by rw [hR,Array.size_append,Array.size_append,hzs,hzs,List.size_toArray,hTl];omega
   have hRt:R.toList.take (i * 2) = (l.take i).flatMap encE:=by
    rw [hR,Array.toList_append,Array.toList_append,List.append_assoc]
    exact List.take_left' hTl
   have hRL:R.toList.length = R.size:=Array.length_toList
   have hh0:(w.alloc (.cells R 140)).drew.heap[w.heap.size]? = some (.cells R 140 (0,0)):=nS w _
   rw [eB hh0 (by show i * 2 + 2 ≤ _;omega) h1v]
   obtain ⟨c1,hc1⟩:∃ c1:Array Value,c1 = (R.toList.take (i * 2) ++ encE x ++ R.toList.drop (i * 2 + (encE x).length)).toArray:=⟨_,rfl⟩
   rw [← hc1]
   have hs1:c1.size = G * 2:=by
    rw [hc1,List.size_toArray,List.length_append,List.length_append,List.length_take,List.length_drop]
    show min (i * 2) _ + 2 + (_ - (i * 2 + 2)) = _
    omega
   have hh1:((w.alloc (.cells R 140)).drew.setRow w.heap.size c1).drew.heap[w.heap.size]? = some (.cells c1 140 (0,0)):=setRow_heap _ _ _ _ _ _ hh0
   rw [eB hh1 (by rw [hDl];omega) (m0 _)]
   obtain ⟨c2,hc2⟩:∃ c2:Array Value,c2 = (c1.toList.take ((i + 1) * 2) ++ (l.drop i).flatMap encE ++ c1.toList.drop ((i + 1) * 2 + ((l.drop i).flatMap encE).length)).toArray:=⟨_,rfl⟩
   rw [← hc2]
   have hc1L:c1.toList.length = c1.size:=Array.length_toList
   have hs2:c2.size = G * 2:=by
    rw [hc2,List.size_toArray,List.length_append,List.length_append,List.length_take,List.length_drop,hDl];omega
   have hh2:(((w.alloc (.cells R 140)).drew.setRow w.heap.size c1).drew.setRow w.heap.size c2).heap[w.heap.size]? = some (.cells c2 140 (0,0)):=setRow_heap _ _ _ _ _ _ hh1
   have a1:c1.toList.take ((i + 1) * 2) = (l.take i).flatMap encE ++ encE x:=by
    rw [hc1,hRt]
    show List.take _ (_ ++ _ ++ _) = _
    rw [mf (by rw [hTl];show _ = i * 2 + 2;omega)]
   have hsz:(((w.alloc (.cells R 140)).drew.setRow w.heap.size c1).drew.setRow w.heap.size c2).heap.size = w.heap.size + 1:=by
    rw [setRow_size]
    show ((w.alloc (.cells R 140)).drew.setRow w.heap.size c1).heap.size = _
    rw [setRow_size]
    exact jl w _
   have:=hfin (l':=l.take i ++ x :: l.drop i) (b':=w.heap.size) (cap':=G) (c2:=c2) (w':=((w.alloc (.cells R 140)).drew.setRow w.heap.size c1).drew.setRow w.heap.size c2) hO rfl rfl rfl (by rw [hsz];omega) (fun j hj _=>by
    rw [setRow_other _ _ _ _ (Nat.ne_of_lt hj)]
    show ((w.alloc (.cells R 140)).drew.setRow w.heap.size c1).heap[j]? = _
    rw [setRow_other _ _ _ _ (Nat.ne_of_lt hj)]
    exact p7 w _ hj) ⟨by rw [hsz];omega,.inl (Nat.le_refl _)⟩ hh2 hs2 (by rw [hll];exact g1) g2 (by
    rw [hll,hc2,a1]
    show List.take _ (_ ++ _ ++ _) = _
    rw [mf (by rw [List.length_append,hTl,hDl];show _ = i * 2 + 2 + _;omega),ri,List.append_assoc])
   rw [hll] at this
   exact this
end
abbrev Qz (m:Int):Blk:=.box 130 [.row 2000 0,.row 2001 0,.row 2002 0,.row 2003 0,.row 2004 0,.row 2005 0,.row 2006 0,.row 2007 0,.row 2008 0,.row 2009 0,.row 2010 0,.row 2011 0,.row 2012 0,.row 2013 0,.row 2014 0,.row 2015 0,iC .i64 m]
abbrev qw (x:Ix):List (Nat × Blk):=[(1000,Qz x.many),(2000,bt (x.rows 0)),(2001,bt (x.rows 1)),(2002,bt (x.rows 2)),(2003,bt (x.rows 3)),(2004,bt (x.rows 4)),(2005,bt (x.rows 5)),(2006,bt (x.rows 6)),(2007,bt (x.rows 7)),(2008,bt (x.rows 8)),(2009,bt (x.rows 9)),(2010,bt (x.rows 10)),(2011,bt (x.rows 11)),(2012,bt (x.rows 12)),(2013,bt (x.rows 13)),(2014,bt (x.rows 14)),(2015,bt (x.rows 15))]
theorem sL {r:Int} {j:Nat} (h1:1 ≤ r) (h2:r ≤ 16) (h:(r - 1).toNat = j):r = 1 ∧ j = 0 ∨ r = 2 ∧ j = 1 ∨ r = 3 ∧ j = 2 ∨ r = 4 ∧ j = 3 ∨ r = 5 ∧ j = 4 ∨ r = 6 ∧ j = 5 ∨ r = 7 ∧ j = 6 ∨ r = 8 ∧ j = 7 ∨ r = 9 ∧ j = 8 ∨ r = 10 ∧ j = 9 ∨ r = 11 ∧ j = 10 ∨ r = 12 ∧ j = 11 ∨ r = 13 ∧ j = 12 ∨ r = 14 ∧ j = 13 ∨ r = 15 ∧ j = 14 ∨ r = 16 ∧ j = 15:=by
 subst h
 rcases (show r = 1 ∨ r = 2 ∨ r = 3 ∨ r = 4 ∨ r = 5 ∨ r = 6 ∨ r = 7 ∨ r = 8 ∨ r = 9 ∨ r = 10 ∨ r = 11 ∨ r = 12 ∨ r = 13 ∨ r = 14 ∨ r = 15 ∨ r = 16 by omega) with rfl|rfl|rfl|rfl|rfl|rfl|rfl|rfl|rfl|rfl|rfl|rfl|rfl|rfl|rfl|rfl <;> decide
abbrev I3:List (Nat × Nat):=[(1000,1000),(2000,2000),(2001,2001),(2002,2002),(2003,2003),(2004,2004),(2005,2005),(2006,2006),(2007,2007),(2008,2008),(2009,2009),(2010,2010),(2011,2011),(2012,2012),(2013,2013),(2014,2014),(2015,2015)]
structure I4 (j:Nat):Prop
abbrev I4.q {j:Nat} (_:I4 j):List (Nat × Nat):=(1000,1000) :: (List.range 16).map fun i=>(bif Nat.beq i j then 700 else 2000 + i,2000 + i)
abbrev I4.f {j:Nat} (_:I4 j):List (Nat × Nat):=[(1000,2000 + j)]
abbrev I4.d {j:Nat} (_:I4 j):List (Nat × Nat):=[(2000,2000 + j),(3000,700)]
abbrev I4.i {j:Nat} (_:I4 j):List (Nat × Nat):=[(2000,2000 + j),(2001,53),(3000,700)]
def yU (x:Ix) (r c:Int):Nat:=if cC r c then f5 (x.rows (r - 1).toNat) c else 0
section
theorem yV (x:Ix) (r c:Int) (hB:pW x 1000000):de Tryz.prog 93 [.ptr 1000 0 0,qF r c] (qw x) (.tup2 (.per (av (.int .i64 (yU x r c:Nat)))) (.per (av (.bool (j4 x r c))))) (qw x):=by
 have c1:=eH r c
 unfold yU j4
 cases hv:cC r c with
 | false=>
  rw [hv] at c1
  refine eR Tryz.func93 Tryz.ntmps93 ?_
  (refine az c1 ?_;repeat' first|apply ai|refine aj fun hc=>?_)
  (refine ⟨(by first|exact .inl rfl|exact .inr rfl),oy (I3) rfl rfl ?_ ?_ ?_⟩;(focus (repeat (first|exact aW.nil|(refine aW.cons rfl ?_ ?_;(focus first|rfl|skip))))))
  ·exact cL rfl rfl
  ·exact b0 rfl rfl
 | true=>
  rw [hv] at c1
  have hv':=hv
  unfold cC at hv'
  have hv':=of_decide_eq_true hv'
  have hcc:1 ≤ c ∧ c ≤ 1099511627776:=⟨hv'.2.2.1,hv'.2.2.2⟩
  have hF:∀ j,de Tryz.prog 141 [.row 1000 0,iC .i64 c] [(1000,bt (x.rows j))] (.tup2 (.per (av (.int .i64 (f5 (x.rows j) c:Nat)))) (.per (av (.bool (yS (x.rows j) c))))) [(1000,bt (x.rows j))]:=fun j=>CZ _ c (by have:=hB.len j;omega) (hB.ok j) hcc
  obtain ⟨j,hj⟩:∃ j,(r - 1).toNat = j:=⟨_,rfl⟩
  rw [hj]
  have hT:I4 j:=⟨⟩
  have c2:=hF j
  show de _ _ _ _ (.tup2 (.per (av (.int .i64 (f5 (x.rows j) c:Nat)))) (.per (av (.bool (yS (x.rows j) c))))) _
  generalize f5 (x.rows j) c = p at c2 ⊢
  generalize yS (x.rows j) c = b at c2 ⊢
  clear hF
  rcases sL hv'.1 hv'.2.1 hj with ⟨rfl,rfl⟩|⟨rfl,rfl⟩|⟨rfl,rfl⟩|⟨rfl,rfl⟩|⟨rfl,rfl⟩|⟨rfl,rfl⟩|⟨rfl,rfl⟩|⟨rfl,rfl⟩|⟨rfl,rfl⟩|⟨rfl,rfl⟩|⟨rfl,rfl⟩|⟨rfl,rfl⟩|⟨rfl,rfl⟩|⟨rfl,rfl⟩|⟨rfl,rfl⟩|⟨rfl,rfl⟩
  all_goals
   clear hj
   refine eR Tryz.func93 Tryz.ntmps93 ?_
   (refine eW c1 (gj hT.f c2) ?_;repeat' first|apply ai|refine aj fun hc=>?_)
   (refine ⟨(by first|exact .inl rfl|exact .inr rfl),oy (I3) rfl rfl ?_ ?_ ?_⟩;(focus (repeat (first|exact aW.nil|(refine aW.cons rfl ?_ ?_;(focus first|rfl|skip))))))
   ·exact cL rfl rfl
   ·exact b0 rfl rfl
end
section
theorem L6 (x:Ix) (r c:Int) (hB:pW x 1000000):de Tryz.prog 87 [.ptr 1000 0 0,qF r c] (qw x) (.per (av (.bool (j4 x r c)))) (qw (jk x r c)):=by
 have c1:=yV x r c hB
 cases hv:j4 x r c with
 | false=>
  rw [show jk x r c = x from by unfold jk;rw [if_neg (by rw [hv];decide)]]
  rw [hv] at c1
  generalize yU x r c = p at c1
  refine eR Tryz.func87 Tryz.ntmps87 ?_
  (refine fB (gj I3 c1) ?_;repeat' first|apply ai|refine aj fun hc=>?_)
  (refine ⟨(by first|exact .inl rfl|exact .inr rfl),cc (I3) rfl rfl ?_ ?_⟩;(focus (repeat (first|exact aW.nil|(refine aW.cons rfl ?_ ?_;(focus first|rfl|skip))))))
  exact b0 rfl rfl
 | true=>
  rw [hv] at c1
  have hv2:=hv
  unfold j4 at hv2
  rw [Bool.and_eq_true] at hv2
  have e1:yU x r c = f5 (x.rows (r - 1).toNat) c:=by unfold yU;rw [if_pos hv2.1]
  have e2:jk x r c = x.upd (r - 1).toNat ((x.rows (r - 1).toNat).take (f5 (x.rows (r - 1).toNat) c) ++ (x.rows (r - 1).toNat).drop (f5 (x.rows (r - 1).toNat) c + 1)) (x.many - 1):=by unfold jk;rw [if_pos hv]
  have hv':=hv2.1
  unfold cC at hv'
  have hv':=of_decide_eq_true hv'
  have hF:∀ j,yS (x.rows j) c = true → _:=fun j h=>N5 (x.rows j) (f5 (x.rows j) c) (pY h) (by have:=hB.len j;omega)
  have hm1:=hB.m1
  have hBl:=hB.len
  have hm2:=hB.m2
  rw [e2]
  rw [e1] at c1
  clear e1 e2 hv hB
  obtain ⟨m,hm⟩:∃ m,x.many - 1 = m:=⟨_,rfl⟩
  rw [hm]
  obtain ⟨j,hj⟩:∃ j,(r - 1).toNat = j:=⟨_,rfl⟩
  rw [hj] at c1 hv2 ⊢
  have hT:I4 j:=⟨⟩
  have c2:=hF j hv2.2
  generalize (x.rows j).take (f5 (x.rows j) c) ++ (x.rows j).drop (f5 (x.rows j) c + 1) = L at c2 ⊢
  have hp:((f5 (x.rows j) c:Nat):Int) + 1 = ((f5 (x.rows j) c + 1:Nat):Int):=by omega
  have hp2:f5 (x.rows j) c < 1000000:=Nat.lt_of_lt_of_le (pY hv2.2) (hBl j)
  generalize f5 (x.rows j) c = p at c1 c2 hp hp2 ⊢
  clear hF hv2 hBl
  rcases sL hv'.1 hv'.2.1 hj with ⟨rfl,rfl⟩|⟨rfl,rfl⟩|⟨rfl,rfl⟩|⟨rfl,rfl⟩|⟨rfl,rfl⟩|⟨rfl,rfl⟩|⟨rfl,rfl⟩|⟨rfl,rfl⟩|⟨rfl,rfl⟩|⟨rfl,rfl⟩|⟨rfl,rfl⟩|⟨rfl,rfl⟩|⟨rfl,rfl⟩|⟨rfl,rfl⟩|⟨rfl,rfl⟩|⟨rfl,rfl⟩
  all_goals
   clear hj hv'
   refine eR Tryz.func87 Tryz.ntmps87 ?_
   (have ke1:=Lib.hid (hp);have ke2:=Lib.hid (hm);have km1:=(show fv I3 _ _ _ _ _ _ from c1);have km2:=(show fv hT.d _ _ _ _ _ _ from c2);refine qp ?_;(repeat' first|apply ai|refine aj fun hc=>?_);all_goals clear km2 km1 ke2 ke1)
   (refine ⟨(by first|exact .inl rfl|exact .inr rfl),cc (hT.q) rfl rfl ?_ ?_⟩;(focus (repeat (first|exact aW.nil|(refine aW.cons rfl ?_ ?_;(focus first|rfl|skip))))))
   exact b0 rfl rfl
end
section
theorem I5 (x:Ix) (r c:Int) (k:ByteArray) (hB:pW x 1000000):de Tryz.prog 89 [.ptr 1000 0 0,qF r c,sC k] (qw x) (.per (av (.bool (cC r c && cY k)))) (qw (mc x r c k)):=by
 have c1:=eH r c
 have c2:=gb k
 cases hv:cC r c && cY k with
 | false=>
  rw [show mc x r c k = x from by unfold mc;rw [if_neg (by rw [hv];decide)]]
  generalize cC r c = a at c1 hv
  generalize cY k = b at c2 hv
  cases a <;> cases b
  all_goals first|cases hv|skip
  all_goals
   refine eR Tryz.func89 Tryz.ntmps89 ?_
   (have kc1:=c1;have kc2:=c2;refine qp ?_;(repeat' first|apply ai|refine aj fun hc=>?_);all_goals clear kc2 kc1)
   (refine ⟨(by first|exact .inl rfl|exact .inr rfl),cc (I3) rfl rfl ?_ ?_⟩;(focus (repeat (first|exact aW.nil|(refine aW.cons rfl ?_ ?_;(focus first|rfl|skip))))))
   exact b0 rfl rfl
 | true=>
  rw [Bool.and_eq_true] at hv
  rw [hv.1] at c1
  rw [hv.2] at c2
  have hv':=hv.1
  unfold cC at hv'
  have hv':=of_decide_eq_true hv'
  have hcc:1 ≤ c ∧ c ≤ 1099511627776:=⟨hv'.2.2.1,hv'.2.2.2⟩
  have hF:∀ j,de Tryz.prog 141 [.row 1000 0,iC .i64 c] [(1000,bt (x.rows j))] (.tup2 (.per (av (.int .i64 (f5 (x.rows j) c:Nat)))) (.per (av (.bool (yS (x.rows j) c))))) [(1000,bt (x.rows j))]:=fun j=>CZ _ c (by have:=hB.len j;omega) (hB.ok j) hcc
  have hI:∀ j,_:=fun j=>N6 (x.rows j) (f5 (x.rows j) c) (c,k) (IP _ c) (by have:=hB.len j;omega)
  have hm1:=hB.m1
  have hm2:=hB.m2
  have e0:mc x r c k = if yS (x.rows (r - 1).toNat) c then x.upd (r - 1).toNat ((x.rows (r - 1).toNat).set (f5 (x.rows (r - 1).toNat) c) (jA (x.rows (r - 1).toNat) (f5 (x.rows (r - 1).toNat) c),k)) x.many
   else x.upd (r - 1).toNat ((x.rows (r - 1).toNat).take (f5 (x.rows (r - 1).toNat) c) ++ (c,k) :: (x.rows (r - 1).toNat).drop (f5 (x.rows (r - 1).toNat) c)) (x.many + 1):=by unfold mc;rw [if_pos (by rw [hv.1,hv.2];rfl)]
  rw [e0]
  clear e0
  have hfd:∀ j,yS (x.rows j) c = true → (x.rows j)[f5 (x.rows j) c]? = some ((x.rows j)[f5 (x.rows j) c]?.getD (0,k)):=fun j h=>by rw [List.getElem?_eq_getElem (pY h)];rfl
  obtain ⟨m,hm⟩:∃ m,x.many + 1 = m:=⟨_,rfl⟩
  rw [hm]
  clear hB hv
  obtain ⟨j,hj⟩:∃ j,(r - 1).toNat = j:=⟨_,rfl⟩
  rw [hj]
  have hT:I4 j:=⟨⟩
  have c3:=hF j
  have c4:=hI j
  cases hf:yS (x.rows j) c with
  | false=>
   rw [hf] at c3
   rw [if_neg (by decide)]
   generalize (x.rows j).take (f5 (x.rows j) c) ++ (c,k) :: (x.rows j).drop (f5 (x.rows j) c) = L at c4 ⊢
   generalize f5 (x.rows j) c = p at c3 c4
   clear hF hI hfd hf
   rcases sL hv'.1 hv'.2.1 hj with ⟨rfl,rfl⟩|⟨rfl,rfl⟩|⟨rfl,rfl⟩|⟨rfl,rfl⟩|⟨rfl,rfl⟩|⟨rfl,rfl⟩|⟨rfl,rfl⟩|⟨rfl,rfl⟩|⟨rfl,rfl⟩|⟨rfl,rfl⟩|⟨rfl,rfl⟩|⟨rfl,rfl⟩|⟨rfl,rfl⟩|⟨rfl,rfl⟩|⟨rfl,rfl⟩|⟨rfl,rfl⟩
   all_goals
    clear hj hv'
    refine eR Tryz.func89 Tryz.ntmps89 ?_
    (repeat' (first|refine fS ?_|refine dx ?_|refine ei ?_|refine ej ?_|refine fT ?_|refine cO ?_|refine e9 gK ?_|refine fQ ?_|refine fR (by kernel_rfl) ?_|(refine nf rfl rfl ⟨fun hc=>?_,fun hc=>?_⟩ <;> (repeat rw [List.length_map] at hc) <;> (try exact gg hc))|((first|apply aO rfl|apply aP rfl|apply aQ rfl|apply aR rfl);focus (first|((apply bn 15;(focus rfl);solve|(apply fb <;> first|exact ⟨rfl,rfl,rfl⟩|rfl|infer_instance|(repeat (first|exact cv.nil|(apply cv.cons;(focus (first|exact bx rfl rfl rfl|exact fx rfl|exact fy rfl))))))))|(apply b8;(focus rfl);apply ah rfl rfl rfl rfl rfl;((apply bn 15;(focus rfl);solve|(apply fb <;> first|exact ⟨rfl,rfl,rfl⟩|rfl|infer_instance|(repeat (first|exact cv.nil|(apply cv.cons;(focus (first|exact bx rfl rfl rfl|exact fx rfl|exact fy rfl)))))))))|((apply bn 8;(focus rfl);exact gH ⟨rfl,rfl,rfl⟩ rfl rfl rfl rfl ((cm (by omega) (by omega)).trans hm)))|(apply b8;(focus rfl);apply ah rfl rfl rfl rfl rfl;((apply bn 8;(focus rfl);exact gH ⟨rfl,rfl,rfl⟩ rfl rfl rfl rfl ((cm (by omega) (by omega)).trans hm))))|exact iH|exact qo (c1)|exact qo (c2)|exact D5 hT.f (c3)|exact D5 hT.i (c4)|fail))|refine ep ?_|refine eu ?_|refine ev ?_|refine jb ?_|refine jc ?_|refine ew ?_|refine dy rfl ?_|((first|refine ng rfl rfl rfl ⟨fun hc=>?_,fun hc=>?_⟩|refine nh rfl rfl rfl ⟨fun hc=>?_,fun hc=>?_⟩) <;> (fail_if_success (have q:(true = true):=hc)) <;> (fail_if_success (have q:(false = false):=hc)) <;> (repeat rw [List.length_map] at hc) <;> (try exact gg hc))|refine cX rfl rfl (fun hc=>?_) ?_))
    (refine ⟨(by first|exact .inl rfl|exact .inr rfl),cc (hT.q) rfl rfl ?_ ?_⟩;(focus (repeat (first|exact aW.nil|(refine aW.cons rfl ?_ ?_;(focus first|rfl|skip))))))
    exact b0 rfl rfl
  | true=>
   rw [hf] at c3
   rw [if_pos rfl]
   have hlt:=pY hf
   have hcn:jA (x.rows j) (f5 (x.rows j) c) = (x.rows j)[f5 (x.rows j) c].1:=p6 hlt
   have kL1:Hid (((x.rows j).map li)[f5 (x.rows j) c]? = some (li (x.rows j)[f5 (x.rows j) c])):=Lib.hid (by rw [List.getElem?_map,List.getElem?_eq_getElem hlt];rfl)
   have kS1:Hid (((x.rows j).map li).set (f5 (x.rows j) c) (cG (li (x.rows j)[f5 (x.rows j) c]) 1 [av (.string k)]) = ((x.rows j).set (f5 (x.rows j) c) (jA (x.rows j) (f5 (x.rows j) c),k)).map li):=Lib.hid (by rw [List.map_set,hcn];rfl)
   generalize (x.rows j).set (f5 (x.rows j) c) (jA (x.rows j) (f5 (x.rows j) c),k) = L at kS1 ⊢
   generalize (x.rows j)[f5 (x.rows j) c] = y at kL1 kS1
   have hll:f5 (x.rows j) c < ((x.rows j).map li).length:=by rw [List.length_map];exact hlt
   generalize f5 (x.rows j) c = p at c3 kL1 kS1 hll
   clear hF hI hfd hf c4 hcn
   rcases sL hv'.1 hv'.2.1 hj with ⟨rfl,rfl⟩|⟨rfl,rfl⟩|⟨rfl,rfl⟩|⟨rfl,rfl⟩|⟨rfl,rfl⟩|⟨rfl,rfl⟩|⟨rfl,rfl⟩|⟨rfl,rfl⟩|⟨rfl,rfl⟩|⟨rfl,rfl⟩|⟨rfl,rfl⟩|⟨rfl,rfl⟩|⟨rfl,rfl⟩|⟨rfl,rfl⟩|⟨rfl,rfl⟩|⟨rfl,rfl⟩
   all_goals
    clear hj hv'
    refine eR Tryz.func89 Tryz.ntmps89 ?_
    (have kc1:=c1;have kc2:=c2;have km1:=(show fv hT.f _ _ _ _ _ _ from c3);refine qp ?_;(repeat' first|apply ai|refine aj fun hc=>?_);all_goals clear km1 kc2 kc1)
    (refine ⟨(by first|exact .inl rfl|exact .inr rfl),cc (I3) rfl rfl ?_ ?_⟩;(focus (repeat (first|exact aW.nil|(refine aW.cons rfl ?_ ?_;(focus first|rfl|skip))))))
    exact b0 rfl rfl
end
section
variable {P:Program} {n t:Nat} {ops:Array Oper} {o:Oper} {S:St}
theorem I6 {op:BinOp} {q:Bool} {ty ty':TypeId} {x y:Operand} {u v:Bool} (hp:Pl n o t) (ho:o.op = .binOp op ty x y ty') (hT:dQ P ty .bool) (hx:S.opd x = bC u) (hy:S.opd y = bC v) (hq:Nm q op):aw n P ops o (aA x ++ aA y) (bC ((u == v) != q)) [] S:=
 aM hp fun C T g a w hA hR=>by
  have h1:=aV (x:=x) hA (fun k h=>by simp [h]) hR hx
  have h2:=aV (x:=y) hA (fun k h=>by simp [h]) hR hy
  refine ⟨.bool ((u == v) != q),?_,rfl⟩
  rcases hq with ⟨rfl,rfl⟩|⟨rfl,rfl⟩
  ·simp [execOp,ho,h1,h2,eqGuard_at_bool,run_eql_bool _ _ _ _ hT.h]
  ·simp [execOp,ho,h1,h2,eqGuard_at_bool,run_neq_bool _ _ _ _ hT.h]
end
end Go.Proofs.YtliiahjpiagdkaaGreat
