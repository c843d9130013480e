/- Texts joined: Batch Split Ref34 RefSplit Concat PlD SymS PlM Law34 LawFd Law33 PlE Lw24 Lt24. -/
import Derived.Test.YtliiahjpiagdkaaGreatJ08
import Derived.Test.YtliiahjpiagdkaaGreatJ05
import Derived.Test.YtliiahjpiagdkaaGreatJ28
import Derived.Test.YtliiahjpiagdkaaGreatJ09
import Derived.Lib.AppendZerosOnto
import Derived.RowKit
import Derived.Test.YtliiahjpiagdkaaGreatJ32
import Derived.Test.YtliiahjpiagdkaaGreatJ39
import Derived.Test.YtliiahjpiagdkaaGreatJ36
import Derived.Test.YtliiahjpiagdkaaGreatJ18
import Derived.Test.YtliiahjpiagdkaaGreatJ37
import Derived.Test.YtliiahjpiagdkaaGreatJ19
import Derived.Test.YtliiahjpiagdkaaGreatJ38
import Derived.Test.YtliiahjpiagdkaaGreatJ25
set_option maxRecDepth 10000
set_option maxHeartbeats 8000000
namespace Go.Proofs.YtliiahjpiagdkaaGreat
open Go.RowKit
section
end
section
end
end Go.Proofs.YtliiahjpiagdkaaGreat
namespace Go.Proofs.YtliiahjpiagdkaaGreat
open Go.RowKit
section
end
end Go.Proofs.YtliiahjpiagdkaaGreat
namespace Go.Proofs.YtliiahjpiagdkaaGreat
open Go.RowKit
section
end
end Go.Proofs.YtliiahjpiagdkaaGreat
namespace Go.Proofs.YtliiahjpiagdkaaGreat
open Go.RowKit
section
end
end Go.Proofs.YtliiahjpiagdkaaGreat
namespace Go.Proofs.YtliiahjpiagdkaaGreat
open Go.RowKit
section
end
end Go.Proofs.YtliiahjpiagdkaaGreat
namespace Go.Proofs.YtliiahjpiagdkaaGreat
open Go.RowKit
section
def Pz (n:Nat) (Bs:List (List Snt)):Prop:=∀ B ∈ Bs,B.length = n ∧ lS Qm B
theorem Pz.len {n:Nat} {Bs:List (List Snt)} (h:Pz n Bs):Bs.flatten.length = Bs.length * n:=by
 induction Bs with
 | nil=>simp
 | cons B Bs ih=>
  rw [List.flatten_cons,List.length_append,ih (fun B' hB=>h B' (List.mem_cons_of_mem _ hB)),(h B List.mem_cons_self).1,List.length_cons,Nat.succ_mul];omega
end
end Go.Proofs.YtliiahjpiagdkaaGreat
namespace Go.Proofs.YtliiahjpiagdkaaGreat
open Go.RowKit
section
variable {s:Sta} {F:List Rg} {K:List Pc} {lim:Int} {R:List Rg} {th:PV} {hs:Int → Int → Bool}
end
section
end
section
end
section
theorem zT (s:Sta) (F:List Rg) (K:List Pc) (f g:It → Bool) (hl:s.its.length ≤ 1000000) (a1:∀ x ∈ s.its,Fn Tryz.prog 34 [dS F,sC x.key] (cw (f x))) (a2:∀ x ∈ s.its,Fn Tryz.prog 35 [bV K,sC x.key,qF x.rep x.cnt] (cw (g x))) :
 Fn Tryz.prog 15 [dX s,.per (fC F),gr K] (IG (s.its.filter fun x=>f x && !g x)):=by
 generalize hT:(s.its.filter fun x=>f x && !g x) = T
 refine fi Tryz.func15 Tryz.ntmps15 ?_
 (refine w0 ?_;repeat' first|apply ai|refine aj fun hc=>?_)
 refine bZ (b7 7 600 41 7 rfl rfl) ?_
 refine an (X:=Nat × List It) (fun x=>x.1 ≤ s.its.length ∧ x.2.length ≤ x.1 ∧ x.2 ++ (s.its.drop x.1).filter (fun x=>f x && !g x) = T)
  (fun x=>ba [(1,.per (fC F)),(2,gr K),(3,.ptr 3 0 0),(7,.row 600 0),(8,iC .i64 (x.1:Nat))] [(3,.box 26 ((nc s).map Cnt.per)),(600,eS x.2)]) (fun x=>s.its.length - x.1) (0,[]) ⟨Nat.zero_le _,by simp,by simpa using hT⟩ ?_ ?_
 ·exact ae
 ·rintro ⟨i,ac⟩ ⟨h1,h2,h3⟩
  simp only at h1 h2 h3 ⊢
  by_cases hi:i < s.its.length
  ·have c1:=a1 _ (List.getElem_mem hi)
   have c2:=a2 _ (List.getElem_mem hi)
   rw [List.drop_eq_getElem_cons hi,List.filter_cons] at h3
   clear a1 a2
   cases hf:f s.its[i] with
   | false=>
    rw [hf] at h3 c1
    (refine aL c1 c2 ?_;repeat' first|apply ai|refine aj fun hc=>?_)
    refine ⟨(i + 1,ac),⟨by simp only;omega,by simp only;omega,by simpa using h3⟩,by simp only;omega,?_⟩
    exact ae
   | true=>
    cases hg:g s.its[i] with
    | true=>
     rw [hf,hg] at h3
     rw [hf] at c1
     rw [hg] at c2
     (refine aL c1 c2 ?_;repeat' first|apply ai|refine aj fun hc=>?_)
     refine ⟨(i + 1,ac),⟨by simp only;omega,by simp only;omega,by simpa using h3⟩,by simp only;omega,?_⟩
     exact ae
    | false=>
     rw [hf,hg] at h3
     rw [hf] at c1
     rw [hg] at c2
     (refine aL c1 c2 ?_;repeat' first|apply ai|refine aj fun hc=>?_)
     refine ⟨(i + 1,ac ++ [s.its[i]]),⟨by simp only;omega,by simp;omega,by simpa using h3⟩,by simp only;omega,ay (aN 600 601) (ay (aN 601 600) ?_)⟩
     exact ae
  ·have h3:ac = T:=by rw [← h3,List.drop_of_length_le (by omega)];simp
   clear a1 a2
   (refine w0 ?_;repeat' first|apply ai|refine aj fun hc=>?_)
   refine aU ?_
   exact fN rfl rfl rfl (by rw [h3])
end
def ex24:Sta:=⟨1,[⟨emB,emB,true⟩],[],[],0⟩
def ex24x:It:=⟨⟨#[107]⟩,1,1,1,1,false,⟨#[98]⟩⟩
def mx:Sta:=⟨1,[⟨emB,emB,true⟩],[ex24x],ee ⟨#[107]⟩ 1 1,1⟩
theorem Cc:f0 ex24 = true:=by decide +kernel
theorem Kt:gS ex24 ⟨#[107]⟩ 1 ⟨#[98]⟩ = (mx,0):=by
 have h1:cY ⟨#[107]⟩ = true:=by decide
 have h2:bA ex24.flt ⟨#[107]⟩ = true:=by decide +kernel
 unfold gS
 rw [if_neg (by rw [Cc];simp),if_neg (by rw [h1];decide),if_neg (by rw [h2];simp),if_neg (by decide),if_neg (by decide)]
 have h3:fL ex24 ⟨#[107]⟩ 1 false ⟨#[98]⟩ = ex24x:=by decide +kernel
 rw [h3]
 unfold nb
 have h4:qu (ex24.know ++ ee ex24x.key ex24x.rep ex24x.cnt) = ee ⟨#[107]⟩ 1 1:=Bh (k:=ee ⟨#[107]⟩ 1 1) (qh (k:=⟨#[107]⟩) (r:=1) (c:=1) h1 (by decide)).1
 rw [h4]
 rfl
theorem Cd:FH ex24:=⟨by decide,⟨by decide,by decide,by decide⟩,by decide,by decide,fun x hx=>by cases hx⟩
theorem OM:bS (ee ⟨#[107]⟩ 1 1):=⟨by decide,by decide,by decide⟩
theorem Ds:bS []:=⟨by decide,by decide,by decide⟩
theorem zU {s:Sta} (hB:FH s) (hf:s.flt.length ≤ 12) (hs:s.its.length ≤ 100000) (hr:f0 s = true):Fn Tryz.prog 41 [dX s,.per (dC []),gr []] (.tup2 (.per (m5 s)) (gy 0)):=by
 have:=Dm s [] [] ⟨hB,hf,by simp,(fun x hx=>by cases hx),hs,Ds,by simp,fun _=>by rw [m8];exact Ds,fun _=>by rw [m8];simp,fun _ _=>by rw [m8,List.append_nil];exact hB.kmid⟩
 rw [Fy hr] at this
 exact this
def lf:Tr × Ix:=(.node .nil ex24x (dp 1 ex24x) .nil,mc fk 1 1 ⟨#[107]⟩)
theorem Ku:j4 lf.2 1 1 = true:=by decide +kernel
theorem Kv:C5 lf.2 1 1 = ⟨#[107]⟩:=by decide +kernel
theorem MQ:pW lf.2 1000000:=(o0 re 1 1 ⟨#[107]⟩).up (by omega)
section
theorem FD (T:Tr × Ix) (s:Sta) (sd b r c:Int) (hB:pW T.2 1000000) :
 de Tryz.prog 20 [.ptr 1000 0 0,qF r c] (bH T s sd b) (.tup2 (.per (av (.string (C5 T.2 r c)))) (.per (av (.bool (j4 T.2 r c))))) (bH T s sd b):=by
 have c0:=zD T s sd b
 have c1:=Oc T.2 r c hB
 refine eR Tryz.func20 Tryz.ntmps20 ?_
 (refine lO (gj jN c0) (gj PT c1) ?_;repeat' first|apply ai|refine aj fun hc=>?_)
 (refine ⟨(by first|exact .inl rfl|exact .inr rfl),oy (jN) rfl rfl ?_ ?_ ?_⟩;(focus (repeat (first|exact aW.nil|(refine aW.cons rfl ?_ ?_;(focus first|rfl|skip))))))
 ·exact vB rfl rfl
 ·exact b0 rfl rfl
theorem wU:Fn Tryz.prog 4 [] (cw true):=by
 have r1:=ke ex24 Cd
 rw [Cc] at r1
 have a1:=Dq ex24 1 64 rfl (by decide) r1 (zU Cd (by decide) (by decide) Cc)
 have w1:=zC ex24 ⟨#[107]⟩ 1 ⟨#[98]⟩ Cd (by decide) (by decide) (by decide) (fun _ _=>OM)
 have a2:=zP (Tr.nil,fk) ex24 1 64 ⟨#[107]⟩ 1 ⟨#[98]⟩ _ w1 (fun _=>by
  rw [Kt]
  exact Dn (Tr.nil,fk) ex24 mx 1 64 (by decide +kernel) (by decide) (by decide) (re.up (by omega)))
 rw [Kt] at a2
 have a2:de Tryz.prog 19 [.ptr 1000 0 0,sC ⟨#[107]⟩,iC .i64 1,sC ⟨#[98]⟩] (bH (Tr.nil,fk) ex24 1 64) (iC .i64 0) (bH lf mx 1 64):=a2
 have a3:=wS lf mx 1 64 ⟨#[107]⟩ (by decide)
 have a4:=FD lf mx 1 64 1 1 MQ
 have a5:=J4 lf mx 1 64
 rw [Ku,Kv] at a4
 have a1:de Tryz.prog 18 [dX ex24,iC .u64 1,iC .i64 64] [] (.tup2 (.ptr 3000 0 0) (iC .i64 0)) (Dp (Tr.nil,fk) ex24 1 64):=a1
 have a3:de Tryz.prog 10 [.ptr 1000 0 0,sC ⟨#[107]⟩] (bH lf mx 1 64) (.tup2 (.per (bX (itP ex24x))) (.per (av (.bool true)))) (bH lf mx 1 64):=a3
 have a5:de Tryz.prog 12 [.ptr 1000 0 0] (bH lf mx 1 64) (iC .i64 1) (bH lf mx 1 64):=a5
 generalize lf = T at *
 generalize mx = u at *
 generalize hN:(Tr.nil,fk) = N at *
 have a1:=a1.argsW (As:=[.per (bX [av (.int .i64 1),fC [⟨emB,emB,true⟩],av (.slice none 0 0),av (.slice none 0 0),av (.int .i64 0)]),iC .u64 1,iC .i64 64]) (.per aI (.same (.same .nil)))
 refine fi Tryz.func4 Tryz.ntmps4 ?_
 (have km1:=(show fv MP _ _ _ _ _ _ from a1);have km2:=(show fv qj _ _ _ _ _ _ from a2);have km3:=(show fv qj _ _ _ _ _ _ from a3);have km4:=(show fv qj _ _ _ _ _ _ from a4);have km5:=(show fv qj _ _ _ _ _ _ from a5);refine w0 ?_;(repeat' first|apply ai|refine aj fun hc=>?_);all_goals clear km5 km4 km3 km2 km1)
 all_goals
  refine aU ?_
  refine af rfl ?_
  first|rfl|(simp;done)
theorem Kw (s:Sta) (l:List Act) (b:Int) (h1:Fn Tryz.prog 40 [dX s] (cw false)) (h2:Fn Tryz.prog 23 [dX s] (cw false)) :
 de Tryz.prog 9 [dX s,.per (n7 l),iC .i64 b] [] (.tup3 (.per (av (.pointer none))) (dX s) (.per (av (.bool true)))) []:=by
 have c1:=Ko s 5 b h1
 refine eR Tryz.func9 Tryz.ntmps9 ?_
 (refine eW h2 (gj [] c1) ?_;repeat' first|apply ai|refine aj fun hc=>?_)
 all_goals
  (refine ⟨(by first|exact .inl rfl|exact .inr rfl),MW ([]) rfl rfl ?_ ?_ ?_ ?_⟩;(focus (repeat (first|exact aW.nil|(refine aW.cons rfl ?_ ?_;(focus first|rfl|skip))))))
  ·exact vC rfl rfl
  ·exact pC inferInstance inferInstance rfl rfl rfl rfl rfl rfl
  ·exact b0 rfl (by simp)
theorem MR {s:Sta} (hL:Pu s) (hr:f0 s = true) {l:List Act} (hl:l.length ≤ 12) (ha:∀ a ∈ l,zN a) (b:Int) :
 ∃ (T:Tr × Ix) (t:Sta) (F:List ByteArray) (i:Nat),OJ 5 T t F i ∧ de Tryz.prog 9 [dX s,.per (n7 l),iC .i64 b] [] (.tup3 (.ptr 3000 0 0) (dX t) (.per (av (.bool true)))) (Dp T t 5 b):=by
 have hS:=Ki hL hr hl ha
 have hF:∀ a ∈ l,∀ m ∈ t6 a,m ∈ (emB :: (pd s.flt ++ (pd (bB s.know) ++ l.flatMap t6))):=fun a h m hm=>List.mem_cons_of_mem _ (List.mem_append_right _ (List.mem_append_right _ (List.mem_flatMap.2 ⟨a,h,hm⟩)))
 generalize (emB :: (pd s.flt ++ (pd (bB s.know) ++ l.flatMap t6))) = F at hS hF
 have hB:=hL.st
 have hU:=dn hr
 have r1:=ke s hB
 have r2:=kg s hB
 rw [hr] at r1 r2
 have hil:=hL.il
 have c1:=Dq s 5 b hU.1 (by omega) r1 (zU hB (by have:=hL.fl;omega) (by omega) hr)
 have h0:OJ 5 (s.its.foldl (iA 5) (.nil,fk)) s F 0:=⟨hS,OG hU.1 hU.2,(Km 5 s.its (.nil,fk) 0 re).up (by omega)⟩
 generalize s.its.foldl (iA 5) (.nil,fk) = T0 at c1 h0
 obtain ⟨Z,hZ⟩:∃ Z:Nat → (Tr × Ix) × Sta,∀ i,Z i = (l.take i).foldl (fun z a=>((zS 5 z.1 z.2 a).1,(vf z.2 a).1)) (T0,s):=⟨_,fun _=>rfl⟩
 have hW:∀ i,i ≤ l.length → OJ 5 (Z i).1 (Z i).2 F i:=by
  intro i
  induction i with
  | zero=>intro _;rw [hZ];exact h0
  | succ i ih=>
   intro hi
   have h:=ih (by omega)
   rw [hZ,aJ _ _ hi,List.foldl_append]
   rw [hZ] at h
   exact (Dr (b:=b) h (by omega) (ha _ (List.getElem_mem hi)) (hF _ (List.getElem_mem hi))).2.1
 have hN:∀ i (hi:i < l.length),Z (i + 1) = ((zS 5 (Z i).1 (Z i).2 l[i]).1,(vf (Z i).2 l[i]).1):=fun i hi=>by rw [hZ,hZ,aJ _ _ hi,List.foldl_append];rfl
 refine ⟨(Z l.length).1,(Z l.length).2,F,l.length,hW _ (Nat.le_refl _),?_⟩
 have hZ0:(Z 0) = (T0,s):=hZ 0
 refine eR Tryz.func9 Tryz.ntmps9 ?_
 (refine eW r2 (gj MP c1) ?_;repeat' first|apply ai|refine aj fun hc=>?_)
 clear r1 r2 c1 hS h0 hU hZ
 refine an (X:=Nat) (fun i=>i ≤ l.length) (fun i=>ba [(3,.ptr 3 0 0),(7,.ptr 7 0 0),(9,.ptr 700 0 0),(40,.per (n7 l)),(41,iC .i64 (l.length:Nat)),(42,iC .i64 (i:Nat))] ((3,.box 26 ((nc (Z i).2).map Cnt.per)) :: (7,PY) :: Qk (Z i).1 (Z i).2 5 b)) (fun i=>l.length - i) 0 (Nat.zero_le _) ?_ ?_
 ·rw [hZ0]
  exact ae
 ·intro i h1
  by_cases hi:i < l.length
  ·have h:=hW i h1
   have hA:=ha _ (List.getElem_mem hi)
   have c2:=OI h.b hA
   obtain ⟨c3,_,e3⟩:=Dr (b:=b) h (by omega) hA (hF _ (List.getElem_mem hi))
   rw [e3] at c3
   have hn:=hN i hi
   clear hW hF ha hN h hA e3 hZ0
   generalize Z i = z at *
   generalize (zS 5 z.1 z.2 l[i]).1 = T at *
   generalize vf z.2 l[i] = o at *
   obtain ⟨s',e⟩:=o
   simp only at c2 c3 hn
   (refine eW c2 (gj qj c3) ?_;repeat' first|apply ai|refine aj fun hc=>?_)
   refine ⟨i + 1,by omega,by omega,?_⟩
   rw [hn]
   exact ae
  ·obtain rfl:i = l.length:=by omega
   clear hW hF ha hN hZ0
   generalize Z l.length = z at *
   (refine w0 ?_;repeat' first|apply ai|refine aj fun hc=>?_)
   (refine ⟨(by first|exact .inl rfl|exact .inr rfl),MW (Ql) rfl rfl ?_ ?_ ?_ ?_⟩;(focus (repeat (first|exact aW.nil|(refine aW.cons rfl ?_ ?_;(focus first|rfl|skip))))))
   ·exact uq rfl rfl
   ·exact pC inferInstance inferInstance rfl rfl rfl rfl rfl rfl
   ·exact b0 rfl rfl
end
structure Aq where
 rgs:List Rg
 know:List Pc
 key:ByteArray
 bits:Int
abbrev OO (a:Aq):List PV:=[fC a.rgs,iq a.know,av (.string a.key),av (.int .u8 a.bits)]
abbrev P2 (a:Aq):Cnt:=.per (bX (OO a))
section
theorem MS (s:Sta) (l:List Act) (q:Aq) (d1 d2 d3 d4:Bool) (h:d1 = true ∨ d2 = true ∨ d3 = true ∨ d4 = true ∨ (q.key.size:Int) > 100) (a1:Fn Tryz.prog 5 [dX s] (cw d1)) (a2:Fn Tryz.prog 6 [.per (n7 l)] (cw d2))
 (a3:Fn Tryz.prog 7 [dS q.rgs,iC .i64 8] (cw d3)) (a4:Fn Tryz.prog 8 [bV q.know,iC .i64 8] (cw d4)):Fn Tryz.prog 3 [dX s,.per (n7 l),P2 q] (cw true):=by
 have a0:=wU
 rcases h with rfl|rfl|rfl|rfl|h
 ·refine fi Tryz.func3 Tryz.ntmps3 ?_
  (refine aL a0 a1 ?_;repeat' first|apply ai|refine aj fun hc=>?_)
  refine aU ?_
  exact af rfl rfl
 ·cases d1
  all_goals
   refine fi Tryz.func3 Tryz.ntmps3 ?_
   (refine eX a0 a1 a2 ?_;repeat' first|apply ai|refine aj fun hc=>?_)
   refine aU ?_
   exact af rfl rfl
 ·cases d1 <;> cases d2
  all_goals
   refine fi Tryz.func3 Tryz.ntmps3 ?_
   (refine rR a0 a1 a2 a3 ?_;repeat' first|apply ai|refine aj fun hc=>?_)
   refine aU ?_
   exact af rfl rfl
 ·cases d1 <;> cases d2 <;> cases d3
  all_goals
   refine fi Tryz.func3 Tryz.ntmps3 ?_
   (refine oB a0 a1 a2 a3 a4 ?_;repeat' first|apply ai|refine aj fun hc=>?_)
   refine aU ?_
   exact af rfl rfl
 ·cases d1 <;> cases d2 <;> cases d3 <;> cases d4
  all_goals
   refine fi Tryz.func3 Tryz.ntmps3 ?_
   (refine oB a0 a1 a2 a3 a4 ?_;repeat' first|apply ai|refine aj fun hc=>?_)
   refine aU ?_
   exact af rfl rfl
theorem OP (s:Sta) (l:List Act) (q:Aq) (hq:0 ≤ q.bits ∧ q.bits < 256) (hk:¬ (q.key.size:Int) > 100) (a1:Fn Tryz.prog 5 [dX s] (cw false)) (a2:Fn Tryz.prog 6 [.per (n7 l)] (cw false))
 (a3:Fn Tryz.prog 7 [dS q.rgs,iC .i64 8] (cw false)) (a4:Fn Tryz.prog 8 [bV q.know,iC .i64 8] (cw false))
 (a5:∀ b:Int,de Tryz.prog 9 [dX s,.per (n7 l),iC .i64 b] [] (.tup3 (.per (av (.pointer none))) (dX s) (.per (av (.bool true)))) []):Fn Tryz.prog 3 [dX s,.per (n7 l),P2 q] (cw true):=by
 have a0:=wU
 have a6:=a5 (q.bits % 70)
 clear a5
 refine fi Tryz.func3 Tryz.ntmps3 ?_
 (refine He a0 a1 a2 a3 a4 (gj [] a6) ?_;repeat' first|apply ai|refine aj fun hc=>?_)
 refine aU ?_
 exact af rfl rfl
theorem Du (s:Sta) (l:List Act) (q:Aq) (hq:0 ≤ q.bits ∧ q.bits < 256) (hk:¬ (q.key.size:Int) > 100) (a1:Fn Tryz.prog 5 [dX s] (cw false)) (a2:Fn Tryz.prog 6 [.per (n7 l)] (cw false))
 (a3:Fn Tryz.prog 7 [dS q.rgs,iC .i64 8] (cw false)) (a4:Fn Tryz.prog 8 [bV q.know,iC .i64 8] (cw false)) (T:Tr × Ix) (t:Sta) (b:Int) (hb:b = q.bits % 70) (_hl:t.its.length ≤ 1000000) (hrl:q.rgs.length ≤ 1000000)
 (a5:de Tryz.prog 9 [dX s,.per (n7 l),iC .i64 b] [] (.tup3 (.ptr 3000 0 0) (dX t) (.per (av (.bool true)))) (Dp T t 5 b))
 (y:It) (is:Bool) (at':Int) (hat:is = false ∧ at' = -1 ∨ ∃ (i:Nat) (h:i < t.its.length),is = true ∧ at' = (i:Nat) ∧ y = t.its[i]) (U:List It) (z:Rg → Int)
 (c1:de Tryz.prog 10 [.ptr 1000 0 0,sC q.key] (bH T t 5 b) (.tup2 (.per (bX (itP y))) (.per (av (.bool is)))) (bH T t 5 b))
 (c2:Fn Tryz.prog 11 [dX t,sC q.key] (gy at'))
 (c3:de Tryz.prog 12 [.ptr 1000 0 0] (bH T t 5 b) (iC .i64 (t.its.length:Nat)) (bH T t 5 b))
 (c4:de Tryz.prog 14 [.ptr 1000 0 0,dS q.rgs,bV q.know] (bH T t 5 b) (.per (dC U)) (bH T t 5 b))
 (c5:Fn Tryz.prog 15 [dX t,.per (fC q.rgs),gr q.know] (.per (dC U))) (c6:Fn Tryz.prog 13 [eD U,eD U] (cw true))
 (c7:∀ r ∈ q.rgs,de Tryz.prog 16 [.ptr 1000 0 0,uy r] (bH T t 5 b) (.per (av (.int .u64 (z r)))) (bH T t 5 b))
 (c8:∀ r ∈ q.rgs,Fn Tryz.prog 17 [.per (dC t.its),uy r,iC .u64 5,iC .i64 b] (.per (av (.int .u64 (z r))))):Fn Tryz.prog 3 [dX s,.per (n7 l),P2 q] (cw true):=by
 have a0:=wU
 subst hb
 rcases hat with ⟨rfl,rfl⟩|⟨i,hi,rfl,rfl,rfl⟩
 ·refine fi Tryz.func3 Tryz.ntmps3 ?_
  (have kc1:=a0;have kc2:=a1;have kc3:=a2;have kc4:=a3;have kc5:=a4;have km1:=(show fv MP _ _ _ _ _ _ from a5);have km2:=(show fv qj _ _ _ _ _ _ from c1);have kc6:=c2;have km3:=(show fv qj _ _ _ _ _ _ from c3);have km4:=(show fv qj _ _ _ _ _ _ from c4);have kc7:=c5;have kc8:=c6;refine w0 ?_;(repeat' first|apply ai|refine aj fun hc=>?_|((first|apply aO rfl|apply aP rfl|apply aQ rfl|apply aR rfl);(focus ((try (apply b8;(focus rfl);apply ah rfl rfl rfl rfl rfl));first|((apply bn 8;(focus rfl);exact NV ⟨rfl,rfl,rfl⟩ rfl inferInstance rfl rfl (by first|exact .inl ⟨rfl,rfl⟩|exact .inr ⟨rfl,rfl⟩)))));refine w0 ?_));all_goals clear kc8 kc7 km4 km3 kc6 km2 km1 kc5 kc4 kc3 kc2 kc1)
  clear a0 a1 a2 a3 a4 a5 c1 c2 c3 c4 c5 c6
  refine an (X:=Nat) (fun i=>i ≤ q.rgs.length) (fun i=>ba [(7,iC .i64 (q.bits % 70)),(8,.ptr 700 0 0),(9,.ptr 9 0 0),(112,.per (fC q.rgs)),(113,iC .i64 (q.rgs.length:Nat)),(114,iC .i64 (i:Nat))] ((9,.box 26 ((nc t).map Cnt.per)) :: Qk T t 5 (q.bits % 70))) (fun i=>q.rgs.length - i) 0 (Nat.zero_le _) ?_ ?_
  ·exact ae
  ·intro i h1
   by_cases hi:i < q.rgs.length
   ·have d1:=c7 _ (List.getElem_mem hi)
    have d2:=c8 _ (List.getElem_mem hi)
    clear c7 c8
    (refine eW d2 (gj qj d1) ?_;repeat' first|apply ai|refine aj fun hc=>?_)
    refine ⟨i + 1,by omega,by omega,?_⟩
    exact ae
   ·clear c7 c8
    (refine w0 ?_;repeat' first|apply ai|refine aj fun hc=>?_)
    refine aU ?_
    exact af rfl rfl
 ·have hE:xN Tryz.prog 10000 41 (encIt t.its[i]) (encIt t.its[i]) = some true:=by rw [Cz,(oD _ _).2 rfl]
  have hm:(if ((i:Nat):Int) > 0 then ((i:Nat):Int) else 0) = ((i:Nat):Int):=by split <;> omega
  have hge:decide (((i:Nat):Int) ≥ 0) = true:=decide_eq_true (by omega)
  refine fi Tryz.func3 Tryz.ntmps3 ?_
  (repeat' (first|refine fS ?_|refine dx ?_|refine ei ?_|refine ej ?_|refine fT ?_|refine cO ?_|refine e9 gK ?_|refine fQ ?_|refine fR (by kernel_rfl) ?_|(refine nf rfl rfl ⟨fun hc=>?_,fun hc=>?_⟩ <;> (repeat rw [List.length_map] at hc) <;> (try exact gg hc))|((first|apply aO rfl|apply aP rfl|apply aQ rfl|apply aR rfl);focus (first|((apply bn 19;(focus rfl);exact mV ⟨rfl,rfl,rfl⟩ rfl rfl rfl hm))|(apply b8;(focus rfl);apply ah rfl rfl rfl rfl rfl;((apply bn 19;(focus rfl);exact mV ⟨rfl,rfl,rfl⟩ rfl rfl rfl hm)))|exact iH|exact qo (a0)|exact qo (a1)|exact qo (a2)|exact qo (a3)|exact qo (a4)|exact D5 MP (a5)|exact D5 qj (c1)|exact qo (c2)|exact D5 qj (c3)|exact D5 qj (c4)|exact qo (c5)|exact qo (c6)|((apply bn 8;(focus rfl);exact I6 ⟨rfl,rfl,rfl⟩ rfl inferInstance rfl rfl (by first|exact .inl ⟨rfl,rfl⟩|exact .inr ⟨rfl,rfl⟩)))|(apply b8;(focus rfl);apply ah rfl rfl rfl rfl rfl;((apply bn 8;(focus rfl);exact I6 ⟨rfl,rfl,rfl⟩ rfl inferInstance rfl rfl (by first|exact .inl ⟨rfl,rfl⟩|exact .inr ⟨rfl,rfl⟩))))|(exact dR (us:=encIt t.its[i]) (vs:=encIt t.its[i]) ⟨rfl,rfl,rfl⟩ rfl rfl rfl (by first|exact .inl ⟨rfl,rfl⟩|exact .inr ⟨rfl,rfl⟩) O7 rfl hE)|(apply b8;(focus rfl);apply ah rfl rfl rfl rfl rfl;(exact dR (us:=encIt t.its[i]) (vs:=encIt t.its[i]) ⟨rfl,rfl,rfl⟩ rfl rfl rfl (by first|exact .inl ⟨rfl,rfl⟩|exact .inr ⟨rfl,rfl⟩) O7 rfl hE))|fail))|refine ep ?_|refine eu ?_|refine ev ?_|refine jb ?_|refine jc ?_|refine ew ?_|refine dy rfl ?_|((first|refine ng rfl rfl rfl ⟨fun hc=>?_,fun hc=>?_⟩|refine nh rfl rfl rfl ⟨fun hc=>?_,fun hc=>?_⟩) <;> (fail_if_success (have q:(true = true):=hc)) <;> (fail_if_success (have q:(false = false):=hc)) <;> (repeat rw [List.length_map] at hc) <;> (try exact gg hc))|refine cX rfl rfl (fun hc=>?_) ?_))
  clear a0 a1 a2 a3 a4 a5 c1 c2 c3 c4 c5 c6
  refine an (X:=Nat) (fun i=>i ≤ q.rgs.length) (fun i=>ba [(7,iC .i64 (q.bits % 70)),(8,.ptr 700 0 0),(9,.ptr 9 0 0),(112,.per (fC q.rgs)),(113,iC .i64 (q.rgs.length:Nat)),(114,iC .i64 (i:Nat))] ((9,.box 26 ((nc t).map Cnt.per)) :: Qk T t 5 (q.bits % 70))) (fun i=>q.rgs.length - i) 0 (Nat.zero_le _) ?_ ?_
  ·exact ae
  ·intro i h1
   by_cases hi:i < q.rgs.length
   ·have d1:=c7 _ (List.getElem_mem hi)
    have d2:=c8 _ (List.getElem_mem hi)
    clear c7 c8
    (refine eW d2 (gj qj d1) ?_;repeat' first|apply ai|refine aj fun hc=>?_)
    refine ⟨i + 1,by omega,by omega,?_⟩
    exact ae
   ·clear c7 c8
    (refine w0 ?_;repeat' first|apply ai|refine aj fun hc=>?_)
    refine aU ?_
    exact af rfl rfl
end
theorem Kx (s:Sta) (l:List Act) (q:Aq) (hq:0 ≤ q.bits ∧ q.bits < 256):Fn Tryz.prog 3 [dX s,.per (n7 l),P2 q] (cw true):=by
 have a1:=Ke s
 have a2:=Ca l
 have a3:=yi q.rgs 8 (by decide)
 have a4:=nM q.know 8 (by decide)
 by_cases hlg:zM s = true ∨ i3 l = true ∨ iU q.rgs 8 = true ∨ eA q.know 8 = true ∨ (q.key.size:Int) > 100
 ·exact MS s l q _ _ _ _ hlg a1 a2 a3 a4
 have e1:=Bool.eq_false_iff.2 fun w=>hlg (.inl w)
 have e2:=Bool.eq_false_iff.2 fun w=>hlg (.inr (.inl w))
 have e3:=Bool.eq_false_iff.2 fun w=>hlg (.inr (.inr (.inl w)))
 have e4:=Bool.eq_false_iff.2 fun w=>hlg (.inr (.inr (.inr (.inl w))))
 have hk:¬ (q.key.size:Int) > 100:=fun w=>hlg (.inr (.inr (.inr (.inr w))))
 rw [e1] at a1
 rw [e2] at a2
 rw [e3] at a3
 rw [e4] at a4
 have hL:=Kg e1
 obtain ⟨hl,ha⟩:=B9 e2
 have hrl:=qE e3
 have hkw:=tC e4
 have hks:=cS (hkw.mid (by decide) (by decide))
 cases hr:f0 s with
 | false=>
  have r1:=ke s hL.st
  have r2:=kg s hL.st
  rw [hr] at r1 r2
  exact OP s l q hq hk a1 a2 a3 a4 fun b=>Kw s l b r1 r2
 | true=>
  obtain ⟨T,t,F,i,hW,a5⟩:=MR hL hr hl ha (q.bits % 70)
  have hil:=hW.b.il
  have hi:=hW.b.i12
  have hU:=dn hW.b.right
  have hkey:∀ x ∈ t.its,x.key.size ≤ 1000000000:=fun x hx=>pf (List.all_eq_true.1 hU.1 x hx)
  have hsz:=hW.siz
  have hlst:=hW.tr.lst
  have hok:=hW.tr.tree
  have hqk:q.key.size ≤ 1000000000:=by omega
  have c1:=wS T t 5 (q.bits % 70) q.key hqk
  have c3:=J4 T t 5 (q.bits % 70)
  rw [hsz] at c3
  have c4:=Cb T t 5 (q.bits % 70) q.rgs q.know hok (by omega) (by rw [hlst];exact hkey) (by omega) hks
  have c5:=(zT t q.rgs q.know (fun x=>bA q.rgs x.key) (fun x=>bv q.know x.key x.rep x.cnt) (by omega) (fun x hx=>l7 q.rgs x.key (by omega) (hkey x hx)) (fun x hx=>ru q.know x.key x.rep x.cnt hks (hkey x hx))).frz
  rw [hlst] at c4
  have hul:(t.its.filter fun x=>bA q.rgs x.key && !bv q.know x.key x.rep x.cnt).length ≤ 1000000000:=Nat.le_trans (List.length_filter_le _ _) (by omega)
  generalize (t.its.filter fun x=>bA q.rgs x.key && !bv q.know x.key x.rep x.cnt) = U at c4 c5 hul
  have c6:=Ea U U hul
  rw [decide_eq_true rfl] at c6
  have hgs:=JU hok q.key
  rw [hlst] at hgs
  have c7:∀ r ∈ q.rgs,_:=fun r _=>Ox T t 5 (q.bits % 70) r (by omega) (by rw [hlst];exact hkey)
  have c8:∀ r ∈ q.rgs,Fn Tryz.prog 17 [.per (dC t.its),uy r,iC .u64 5,iC .i64 (q.bits % 70)] (.per (av (.int .u64 (cut (y9 T.1 r).2 (q.bits % 70))))):=fun r _=>by
   have:=Oe t.its r 5 (q.bits % 70) (by omega) hkey
   rw [(Js hok r).2,hlst]
   exact this
  rcases m9 t q.key (by omega) with ⟨g,c2⟩|⟨j,hj,g,c2⟩
  ·rw [hgs,g] at c1
   exact Du s l q hq hk a1 a2 a3 a4 T t _ rfl (by omega) (by omega) a5 _ _ _ (.inl ⟨rfl,rfl⟩) U _ c1 c2 c3 c4 c5 c6 c7 c8
  ·rw [hgs,g] at c1
   exact Du s l q hq hk a1 a2 a3 a4 T t _ rfl (by omega) (by omega) a5 _ _ _ (.inr ⟨j,hj,rfl,rfl,rfl⟩) U _ c1 c2 c3 c4 c5 c6 c7 c8
end Go.Proofs.YtliiahjpiagdkaaGreat
