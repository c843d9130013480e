/- Texts joined: AbsP Tr Item. -/
import Derived.Test.YtliiahjpiagdkaaGreatJ21
import Derived.Test.YtliiahjpiagdkaaGreatJ22
import Derived.Test.YtliiahjpiagdkaaGreatJ05
import Derived.Test.YtliiahjpiagdkaaGreatJ09
import Derived.Test.YtliiahjpiagdkaaGreatJ08
set_option maxRecDepth 10000
set_option maxHeartbeats 8000000
namespace Go.Proofs.YtliiahjpiagdkaaGreat
open Go.RowKit
section
variable {P:Program} {n:Nat} {ops:Array Oper} {o:Oper} {S:St} {t:Nat}
def ww (ids:List Nat):List Nat:=ids.map fun i=>2 * i + 1
theorem yW {ids:List Nat}:∀ i ∈ ids,2 * i + 1 ∈ ww ids:=fun i hi=>List.mem_map.2 ⟨i,hi,rfl⟩
theorem gU.mono {F F':List Nat} {ids:List Nat} {x:Operand} {c:Cnt} (h:gU F S ids x c) (hF:∀ k ∈ F,k ∈ F'):gU F' S ids x c:=
 fun n C T g a w hA hR=>h n C T g a w ⟨fun t ht=>hA.1 t (hF _ ht),fun i hi=>hA.2 i (hF _ hi)⟩ hR
inductive fm (S:St) (ids:List Nat):List Operand → List Cnt → Prop
 | nil:fm S ids [] []
 | cons {x:Operand} {c:Cnt} {xs:List Operand} {cs:List Cnt} (h:gU (cJ S x ++ ww ids) S ids x c) (t:fm S ids xs cs):fm S ids (x :: xs) (c :: cs)
theorem fm.gives {ids:List Nat} {xs:List Operand} {cs:List Cnt} (h:fm S ids xs cs) {F:List Nat} (hF:∀ k ∈ eh S xs,k ∈ F) (hI:∀ k ∈ ww ids,k ∈ F):kU F S ids xs cs:=by
 induction h with
 | nil=>exact .nil
 | cons h t ih=>
  refine .cons (h.mono (fun k hk=>?_)) (ih (fun k hk=>hF k (by simp only [eh,List.flatMap_cons,List.mem_append];exact .inr hk)))
  rcases List.mem_append.1 hk with q|q
  ·exact hF k (by simp only [eh,List.flatMap_cons,List.mem_append];exact .inl q)
  ·exact hI k q
theorem yX {ids:List Nat} {x:Operand} {c:Cnt} {A:PV} (hx:S.opd x = c) (h:br S ids c A):gU (cJ S x ++ ww ids) S ids x (.per A):=L0 hx h (fun k hk=>by simp [cJ,hk]) (fun i hi=>by simp [yW i hi])
theorem bP {ids:List Nat} {x:Operand} {A:PV} (hx:S.opd x = .per A):gU (cJ S x ++ ww ids) S ids x (.per A):=yX hx .per
theorem kV {ids:List Nat} {x:Operand} {k:Nat} {es:List (List PV)} (hx:S.opd x = .per (cD k es)):gU (cJ S x ++ ww ids) S ids x (.bor k es):=N2 hx (fun k hk=>by simp [cJ,hk])
theorem bQ {ids:List Nat} {x:Operand} {id vr e:Nat} {cells:List Cnt} {As:List PV} (hx:S.opd x = .ptr id vr 0) (hv:S.ver id = vr) (hb:S.blk id = .box e cells) (hi:jr id ids = true) (h:bp S ids cells As):gU (cJ S x ++ ww ids) S ids x (.per (dw As)):=
 N1 hx hv hb hi h (fun k hk=>by simp [cJ,hk]) (fun i hi=>by simp [yW i hi])
theorem nT {ids:List Nat} {f:FuncId} {xs:List Operand} {As:List Cnt} {r:Ret} (hf:Fn P f As r) (hp:Pl n o t:=by exact ⟨rfl,rfl,rfl⟩) (ho:iE o f xs:=by exact ⟨_,rfl⟩) (hpl:r.plain = true:=by rfl) (ha:Br r:=by infer_instance) (hg:fm S ids xs As) :
 aw n P ops o (eh S xs ++ ww ids) (rF t 0 r) [] S:=I0 hp ho hf hpl ha (hg.gives (fun _ h=>by simp [h]) (fun _ h=>by simp [h]))
instance QK (c:UInt8):Bq (fA c):=by unfold fA;infer_instance
end
inductive Tr where
 | nil
 | node (l:Tr) (x:It) (own:Int) (r:Tr)
def Tr.dep:Tr → Nat
 | .nil=>0
 | .node l _ _ r=>1 + max l.dep r.dep
def Tr.siz:Tr → Nat
 | .nil=>0
 | .node l _ _ r=>1 + l.siz + r.siz
def Tr.tot:Tr → Int
 | .nil=>0
 | .node l _ o r=>IntKind.u64.wrap (IntKind.u64.wrap (o + l.tot) + r.tot)
theorem Tr.dep_le:∀ t:Tr,t.dep ≤ t.siz
 | .nil=>Nat.le_refl _
 | .node l _ _ r=>by have:=l.dep_le;have:=r.dep_le;simp only [Tr.dep,Tr.siz];omega
def lj (v:Value) (h1:v.oneCell' = true) (h2:v.cells = #[v]):OV:=LW (av v) (cn h1 h2)
def nm:Tr → OV
 | .nil=>lj (.pointer none) rfl rfl
 | .node l x o r=>EE 111 [lj (.string x.key) rfl rfl,lj (.int .i64 x.rep) rfl rfl,lj (.int .i64 x.cnt) rfl rfl,lj (.int .i64 x.rank) rfl rfl,lj (.int .i64 x.prio) rfl rfl,lj (.bool x.dead) rfl rfl,lj (.string x.body) rfl rfl,
  nm l,nm r,lj (.int .i64 ((Tr.node l x o r).dep:Nat)) rfl rfl,lj (.int .i64 ((Tr.node l x o r).siz:Nat)) rfl rfl,lj (.int .u64 o) rfl rfl,lj (.int .u64 (Tr.node l x o r).tot) rfl rfl]
def tX:Tr → PV
 | .nil=>av (.pointer none)
 | .node l x o r=>dw (itP x ++ [tX l,tX r,av (.int .i64 ((Tr.node l x o r).dep:Nat)),av (.int .i64 ((Tr.node l x o r).siz:Nat)),av (.int .u64 o),av (.int .u64 (Tr.node l x o r).tot)])
theorem dG {v:Value} {h1:v.oneCell' = true} {h2:v.cells = #[v]}:ld (lj v h1 h2) (av v):=EF
theorem aC:∀ t:Tr,ld (nm t) (tX t)
 | .nil=>dG
 | .node l x o r=>by
  have h1:ld (nm l) (tX l):=aC l
  have h2:ld (nm r) (tX r):=aC r
  unfold nm tX
  refine Bp ?_
  exact .cons dG (.cons dG (.cons dG (.cons dG (.cons dG (.cons dG (.cons dG (.cons h1 (.cons h2 (.cons dG (.cons dG (.cons dG (.cons dG .nil))))))))))))
def iZ (v:Value) (h1:v.oneCell' = true) (h2:v.cells = #[v]):UC:=.p (av v) (cn h1 h2)
def j5 (i j:Nat) (l r:Tr) (x:It) (o d m s:Int):List UC:=[iZ (.string x.key) rfl rfl,iZ (.int .i64 x.rep) rfl rfl,iZ (.int .i64 x.cnt) rfl rfl,iZ (.int .i64 x.rank) rfl rfl,iZ (.int .i64 x.prio) rfl rfl,iZ (.bool x.dead) rfl rfl,iZ (.string x.body) rfl rfl,
 .o i (nm l),.o j (nm r),iZ (.int .i64 d) rfl rfl,iZ (.int .i64 m) rfl rfl,iZ (.int .u64 o) rfl rfl,iZ (.int .u64 s) rfl rfl]
abbrev Pi (cl cr:Cnt) (x:It) (o d m s:Int):List Cnt:=[sC x.key,iC .i64 x.rep,iC .i64 x.cnt,iC .i64 x.rank,iC .i64 x.prio,bC x.dead,sC x.body,cl,cr,iC .i64 d,iC .i64 m,iC .u64 o,iC .u64 s]
abbrev yY (cl cr:Cnt) (x:It) (o d m s:Int):Blk:=.box 111 (Pi cl cr x o d m s)
theorem nU {S:St} {i j:Nat} {l r:Tr} {x:It} {o d m s:Int} (h1:S.blk i = .obj (nm l)) (h2:S.blk j = .obj (nm r)):kT S (j5 i j l r x o d m s):=
 .p (.p (.p (.p (.p (.p (.p (.o h1 (.o h2 (.p (.p (.p (.p .nil))))))))))))
section
variable {P:Program} {n:Nat} {ops:Array Oper} {o:Oper} {S:St} {t:Nat}
theorem bR {ids:List Nat} {x:Operand} {id vr:Nat} {O:OV} {A:PV} (hx:S.opd x = .row id vr) (hv:S.ver id = vr) (hb:S.blk id = .obj O) (hl:ld O A) (hi:jr id ids = true):gU (cJ S x ++ ww ids) S ids x (.per A):=yX hx (.obj hv hb hl hi)
end
section
theorem gw (t:Tr):Fn Tryz.prog 211 [.per (tX t)] (gy ((t.dep:Nat):Int)):=by
 cases t with
 | nil=>
  show Fn Tryz.prog _ [.per (av (.pointer none))] _
  refine fi Tryz.func211 Tryz.ntmps211 ?_
  (refine w0 ?_;repeat' first|apply ai|refine aj fun hc=>?_)
  refine aU ?_
  exact aH rfl rfl
 | node l x o r=>
  unfold tX
  refine fi Tryz.func211 Tryz.ntmps211 ?_
  (refine w0 ?_;repeat' first|apply ai|refine aj fun hc=>?_)
  refine aU ?_
  exact aH rfl rfl
theorem iz (t:Tr):Fn Tryz.prog 62 [.per (tX t)] (gy ((t.siz:Nat):Int)):=by
 cases t with
 | nil=>
  show Fn Tryz.prog _ [.per (av (.pointer none))] _
  refine fi Tryz.func62 Tryz.ntmps62 ?_
  (refine w0 ?_;repeat' first|apply ai|refine aj fun hc=>?_)
  refine aU ?_
  exact aH rfl rfl
 | node l x o r=>
  unfold tX
  refine fi Tryz.func62 Tryz.ntmps62 ?_
  (refine w0 ?_;repeat' first|apply ai|refine aj fun hc=>?_)
  refine aU ?_
  exact aH rfl rfl
theorem mg (t:Tr):Fn Tryz.prog 111 [.per (tX t)] (.per (av (.int .u64 t.tot))):=by
 cases t with
 | nil=>
  show Fn Tryz.prog _ [.per (av (.pointer none))] _
  refine fi Tryz.func111 Tryz.ntmps111 ?_
  (refine w0 ?_;repeat' first|apply ai|refine aj fun hc=>?_)
  refine aU ?_
  exact ct rfl
 | node l x o r=>
  unfold tX
  refine fi Tryz.func111 Tryz.ntmps111 ?_
  (refine w0 ?_;repeat' first|apply ai|refine aj fun hc=>?_)
  refine aU ?_
  exact ct rfl
theorem sM (l r:Tr) (x:It) (o d m s:Int) (hs:(Tr.node l x o r).siz ≤ 1000000) :
 de Tryz.prog 182 [.ptr 2000 0 0] [(2000,yY (.row 2010 0) (.row 2011 0) x o d m s),(2010,.obj (nm l)),(2011,.obj (nm r))] (.row 3000 0) [(3000,.obj (nm (.node l x o r)))]:=by
 have h1:=gw l
 have h2:=gw r
 have h3:=iz l
 have h4:=iz r
 have h5:=mg l
 have h6:=mg r
 have b1:=l.dep_le
 have b2:=r.dep_le
 have hs':1 + l.siz + r.siz ≤ 1000000:=hs
 have hd:(1:Int) + (if ((r.dep:Nat):Int) > ((l.dep:Nat):Int) then ((r.dep:Nat):Int) else ((l.dep:Nat):Int)) = (((Tr.node l x o r).dep:Nat):Int):=by
  simp only [Tr.dep];split <;> omega
 have hm:(1:Int) + ((l.siz:Nat):Int) + ((r.siz:Nat):Int) = (((Tr.node l x o r).siz:Nat):Int):=by
  simp only [Tr.siz];omega
 refine eR Tryz.func182 Tryz.ntmps182 ?_
 (refine rS hd hm ?_;repeat' first|apply ai|refine aj fun hc=>?_|((first|apply aO rfl|apply aP rfl|apply aQ rfl|apply aR rfl);(focus ((try (apply b8;(focus rfl);apply ah rfl rfl rfl rfl rfl));first|((refine nT (ids:=[2010]) (h1) (hg:=?_);(refine fm.cons ?_ fm.nil;first|exact bR rfl rfl rfl (aC _) rfl|exact bP rfl|(refine bQ rfl rfl rfl rfl ?_;(focus (repeat (first|exact bp.nil|(refine bp.cons ?_ ?_;(focus (first|exact br.per|exact br.obj rfl rfl (aC _) rfl|exact br.row rfl rfl rfl))))))))))|((refine nT (ids:=[2011]) (h2) (hg:=?_);(refine fm.cons ?_ fm.nil;first|exact bR rfl rfl rfl (aC _) rfl|exact bP rfl|(refine bQ rfl rfl rfl rfl ?_;(focus (repeat (first|exact bp.nil|(refine bp.cons ?_ ?_;(focus (first|exact br.per|exact br.obj rfl rfl (aC _) rfl|exact br.row rfl rfl rfl))))))))))|((refine nT (ids:=[2010]) (h3) (hg:=?_);(refine fm.cons ?_ fm.nil;first|exact bR rfl rfl rfl (aC _) rfl|exact bP rfl|(refine bQ rfl rfl rfl rfl ?_;(focus (repeat (first|exact bp.nil|(refine bp.cons ?_ ?_;(focus (first|exact br.per|exact br.obj rfl rfl (aC _) rfl|exact br.row rfl rfl rfl))))))))))|((refine nT (ids:=[2011]) (h4) (hg:=?_);(refine fm.cons ?_ fm.nil;first|exact bR rfl rfl rfl (aC _) rfl|exact bP rfl|(refine bQ rfl rfl rfl rfl ?_;(focus (repeat (first|exact bp.nil|(refine bp.cons ?_ ?_;(focus (first|exact br.per|exact br.obj rfl rfl (aC _) rfl|exact br.row rfl rfl rfl))))))))))|((refine nT (ids:=[2010]) (h5) (hg:=?_);(refine fm.cons ?_ fm.nil;first|exact bR rfl rfl rfl (aC _) rfl|exact bP rfl|(refine bQ rfl rfl rfl rfl ?_;(focus (repeat (first|exact bp.nil|(refine bp.cons ?_ ?_;(focus (first|exact br.per|exact br.obj rfl rfl (aC _) rfl|exact br.row rfl rfl rfl))))))))))|((refine nT (ids:=[2011]) (h6) (hg:=?_);(refine fm.cons ?_ fm.nil;first|exact bR rfl rfl rfl (aC _) rfl|exact bP rfl|(refine bQ rfl rfl rfl rfl ?_;(focus (repeat (first|exact bp.nil|(refine bp.cons ?_ ?_;(focus (first|exact br.per|exact br.obj rfl rfl (aC _) rfl|exact br.row rfl rfl rfl))))))))))));refine rS hd hm ?_))
 refine ⟨.inl rfl,dj (rf 2000 _ 111 (j5 2010 2011 l r x o (Tr.node l x o r).dep (Tr.node l x o r).siz (Tr.node l x o r).tot) rfl rfl (nU rfl rfl) rfl) ?_⟩
 refine cc [(2000,3000)] rfl rfl ?_ (uq rfl rfl)
 (repeat (first|exact aW.nil|(refine aW.cons rfl ?_ ?_;(focus first|rfl|skip))))
theorem kW (ll lr r:Tr) (lx x:It) (lo o d m s:Int) (hs:(Tr.node (.node ll lx lo lr) x o r).siz ≤ 1000000) :
 de Tryz.prog 213 [.ptr 2000 0 0] [(2000,yY (.row 2010 0) (.row 2011 0) x o d m s),(2010,.obj (nm (.node ll lx lo lr))),(2011,.obj (nm r))] (.row 3000 0) [(3000,.obj (nm (.node ll lx lo (.node lr x o r))))]:=by
 have f1:=sM lr r x o d m s (by simp only [Tr.siz] at *;omega)
 have f2:=sM ll (.node lr x o r) lx lo (Tr.node ll lx lo lr).dep (Tr.node ll lx lo lr).siz (Tr.node ll lx lo lr).tot (by simp only [Tr.siz] at *;omega)
 refine eR Tryz.func213 Tryz.ntmps213 ?_
 refine bZ (kS 2010 0 111 (j5 2012 2013 ll lr lx lo (Tr.node ll lx lo lr).dep (Tr.node ll lx lo lr).siz (Tr.node ll lx lo lr).tot) rfl rfl rfl) ?_
 (refine lO (gj [(2000,2000),(2010,2013),(2011,2011),(3000,2020)] f1) (gj [(2000,2010),(2010,2012),(2011,2020),(3000,2030)] f2) ?_;repeat' first|apply ai|refine aj fun hc=>?_)
 refine ⟨.inl rfl,cc [(2030,3000)] rfl rfl ?_ (uq rfl rfl)⟩
 (repeat (first|exact aW.nil|(refine aW.cons rfl ?_ ?_;(focus first|rfl|skip))))
theorem mh (l rl rr:Tr) (rx x:It) (ro o d m s:Int) (hs:(Tr.node l x o (.node rl rx ro rr)).siz ≤ 1000000) :
 de Tryz.prog 212 [.ptr 2000 0 0] [(2000,yY (.row 2010 0) (.row 2011 0) x o d m s),(2010,.obj (nm l)),(2011,.obj (nm (.node rl rx ro rr)))] (.row 3000 0) [(3000,.obj (nm (.node (.node l x o rl) rx ro rr)))]:=by
 have f1:=sM l rl x o d m s (by simp only [Tr.siz] at *;omega)
 have f2:=sM (.node l x o rl) rr rx ro (Tr.node rl rx ro rr).dep (Tr.node rl rx ro rr).siz (Tr.node rl rx ro rr).tot (by simp only [Tr.siz] at *;omega)
 refine eR Tryz.func212 Tryz.ntmps212 ?_
 refine bZ (kS 2011 0 111 (j5 2012 2013 rl rr rx ro (Tr.node rl rx ro rr).dep (Tr.node rl rx ro rr).siz (Tr.node rl rx ro rr).tot) rfl rfl rfl) ?_
 (refine lO (gj [(2000,2000),(2010,2010),(2011,2012),(3000,2020)] f1) (gj [(2000,2011),(2010,2020),(2011,2013),(3000,2030)] f2) ?_;repeat' first|apply ai|refine aj fun hc=>?_)
 refine ⟨.inl rfl,cc [(2030,3000)] rfl rfl ?_ (uq rfl rfl)⟩
 (repeat (first|exact aW.nil|(refine aW.cons rfl ?_ ?_;(focus first|rfl|skip))))
def sN:Tr → Tr
 | .node (.node ll lx lo lr) x o r=>.node ll lx lo (.node lr x o r)
 | t=>t
def sP:Tr → Tr
 | .node l x o (.node rl rx ro rr)=>.node (.node l x o rl) rx ro rr
 | t=>t
def Tr.lt:Tr → Tr
 | .nil=>.nil
 | .node l _ _ _=>l
def Tr.rt:Tr → Tr
 | .nil=>.nil
 | .node _ _ _ r=>r
def dF (l:Tr) (x:It) (o:Int) (r:Tr):Tr:=
 if l.dep > r.dep + 1 then (if l.lt.dep < l.rt.dep then sN (.node (sP l) x o r) else sN (.node l x o r))
 else if r.dep > l.dep + 1 then (if r.rt.dep < r.lt.dep then sP (.node l x o (sN r)) else sP (.node l x o r))
 else .node l x o r
theorem p8 (t:Tr):(sN t).siz = t.siz:=by
 unfold sN;split <;> simp only [Tr.siz] <;> omega
theorem p9 (t:Tr):(sP t).siz = t.siz:=by
 unfold sP;split <;> simp only [Tr.siz] <;> omega
theorem rj {t:Tr} (h:0 < t.dep):∃ l x o r,t = .node l x o r:=by
 cases t with
 | nil=>simp [Tr.dep] at h
 | node l x o r=>exact ⟨_,_,_,_,rfl⟩
theorem sQ (l r:Tr) (x:It) (o d m s:Int) (hs:(Tr.node l x o r).siz ≤ 1000000) :
 de Tryz.prog 183 [.ptr 2000 0 0] [(2000,yY (.row 2010 0) (.row 2011 0) x o d m s),(2010,.obj (nm l)),(2011,.obj (nm r))] (.row 3000 0) [(3000,.obj (nm (dF l x o r)))]:=by
 have b1:=l.dep_le
 have b2:=r.dep_le
 have hs':1 + l.siz + r.siz ≤ 1000000:=hs
 have h1:=gw l
 have h2:=gw r
 by_cases c1:l.dep > r.dep + 1
 ·obtain ⟨ll,lx,lo,lr,rfl⟩:=rj (t:=l) (by omega)
  have h3:=gw ll
  have h4:=gw lr
  by_cases c2:ll.dep < lr.dep
  ·obtain ⟨al,ax,ao,ar,rfl⟩:=rj (t:=lr) (by omega)
   have hL:dF (.node ll lx lo (.node al ax ao ar)) x o r = .node (.node ll lx lo al) ax ao (.node ar x o r):=by
    unfold dF
    rw [if_pos c1,if_pos (show (Tr.lt (.node ll lx lo (.node al ax ao ar))).dep < (Tr.rt (.node ll lx lo (.node al ax ao ar))).dep from c2)];rfl
   rw [hL]
   have t1:=mh ll al ar ax lx ao lo (Tr.node ll lx lo (.node al ax ao ar)).dep (Tr.node ll lx lo (.node al ax ao ar)).siz (Tr.node ll lx lo (.node al ax ao ar)).tot (by simp only [Tr.siz] at *;omega)
   have t2:=kW (.node ll lx lo al) ar r ax x ao o d m s (by simp only [Tr.siz] at *;omega)
   clear hL
   refine eR Tryz.func183 Tryz.ntmps183 ?_
   refine bZ (kS 2010 0 111 (j5 2012 2013 ll (.node al ax ao ar) lx lo (Tr.node ll lx lo (.node al ax ao ar)).dep (Tr.node ll lx lo (.node al ax ao ar)).siz (Tr.node ll lx lo (.node al ax ao ar)).tot) rfl rfl rfl) ?_
   (refine lO (gj [(2000,2010),(2010,2012),(2011,2013),(3000,2020)] t1) (gj [(2000,2000),(2010,2020),(2011,2011),(3000,2030)] t2) ?_;repeat' first|apply ai|refine aj fun hc=>?_|((first|apply aO rfl|apply aP rfl|apply aQ rfl|apply aR rfl);(focus ((try (apply b8;(focus rfl);apply ah rfl rfl rfl rfl rfl));first|((refine nT (ids:=[2010,2012,2013]) (h1) (hg:=?_);(refine fm.cons ?_ fm.nil;first|exact bR rfl rfl rfl (aC _) rfl|exact bP rfl|(refine bQ rfl rfl rfl rfl ?_;(focus (repeat (first|exact bp.nil|(refine bp.cons ?_ ?_;(focus (first|exact br.per|exact br.obj rfl rfl (aC _) rfl|exact br.row rfl rfl rfl))))))))))|((refine nT (ids:=[2011]) (h2) (hg:=?_);(refine fm.cons ?_ fm.nil;first|exact bR rfl rfl rfl (aC _) rfl|exact bP rfl|(refine bQ rfl rfl rfl rfl ?_;(focus (repeat (first|exact bp.nil|(refine bp.cons ?_ ?_;(focus (first|exact br.per|exact br.obj rfl rfl (aC _) rfl|exact br.row rfl rfl rfl))))))))))|((refine nT (ids:=[2012]) (h3) (hg:=?_);(refine fm.cons ?_ fm.nil;first|exact bR rfl rfl rfl (aC _) rfl|exact bP rfl|(refine bQ rfl rfl rfl rfl ?_;(focus (repeat (first|exact bp.nil|(refine bp.cons ?_ ?_;(focus (first|exact br.per|exact br.obj rfl rfl (aC _) rfl|exact br.row rfl rfl rfl))))))))))|((refine nT (ids:=[2013]) (h4) (hg:=?_);(refine fm.cons ?_ fm.nil;first|exact bR rfl rfl rfl (aC _) rfl|exact bP rfl|(refine bQ rfl rfl rfl rfl ?_;(focus (repeat (first|exact bp.nil|(refine bp.cons ?_ ?_;(focus (first|exact br.per|exact br.obj rfl rfl (aC _) rfl|exact br.row rfl rfl rfl))))))))))));refine lO (gj [(2000,2010),(2010,2012),(2011,2013),(3000,2020)] t1) (gj [(2000,2000),(2010,2020),(2011,2011),(3000,2030)] t2) ?_))
   refine ⟨.inl rfl,cc [(2030,3000)] rfl rfl ?_ (uq rfl rfl)⟩
   (repeat (first|exact aW.nil|(refine aW.cons rfl ?_ ?_;(focus first|rfl|skip))))
  ·have hL:dF (.node ll lx lo lr) x o r = .node ll lx lo (.node lr x o r):=by
    unfold dF
    rw [if_pos c1,if_neg (show ¬ (Tr.lt (.node ll lx lo lr)).dep < (Tr.rt (.node ll lx lo lr)).dep from c2)];rfl
   rw [hL]
   have t2:=kW ll lr r lx x lo o d m s (by simp only [Tr.siz] at *;omega)
   clear hL
   refine eR Tryz.func183 Tryz.ntmps183 ?_
   refine bZ (kS 2010 0 111 (j5 2012 2013 ll lr lx lo (Tr.node ll lx lo lr).dep (Tr.node ll lx lo lr).siz (Tr.node ll lx lo lr).tot) rfl rfl rfl) ?_
   (refine w0 ?_;repeat' first|apply ai|refine aj fun hc=>?_|((first|apply aO rfl|apply aP rfl|apply aQ rfl|apply aR rfl);(focus ((try (apply b8;(focus rfl);apply ah rfl rfl rfl rfl rfl));first|((refine nT (ids:=[2010,2012,2013]) (h1) (hg:=?_);(refine fm.cons ?_ fm.nil;first|exact bR rfl rfl rfl (aC _) rfl|exact bP rfl|(refine bQ rfl rfl rfl rfl ?_;(focus (repeat (first|exact bp.nil|(refine bp.cons ?_ ?_;(focus (first|exact br.per|exact br.obj rfl rfl (aC _) rfl|exact br.row rfl rfl rfl))))))))))|((refine nT (ids:=[2011]) (h2) (hg:=?_);(refine fm.cons ?_ fm.nil;first|exact bR rfl rfl rfl (aC _) rfl|exact bP rfl|(refine bQ rfl rfl rfl rfl ?_;(focus (repeat (first|exact bp.nil|(refine bp.cons ?_ ?_;(focus (first|exact br.per|exact br.obj rfl rfl (aC _) rfl|exact br.row rfl rfl rfl))))))))))|((refine nT (ids:=[2012]) (h3) (hg:=?_);(refine fm.cons ?_ fm.nil;first|exact bR rfl rfl rfl (aC _) rfl|exact bP rfl|(refine bQ rfl rfl rfl rfl ?_;(focus (repeat (first|exact bp.nil|(refine bp.cons ?_ ?_;(focus (first|exact br.per|exact br.obj rfl rfl (aC _) rfl|exact br.row rfl rfl rfl))))))))))|((refine nT (ids:=[2013]) (h4) (hg:=?_);(refine fm.cons ?_ fm.nil;first|exact bR rfl rfl rfl (aC _) rfl|exact bP rfl|(refine bQ rfl rfl rfl rfl ?_;(focus (repeat (first|exact bp.nil|(refine bp.cons ?_ ?_;(focus (first|exact br.per|exact br.obj rfl rfl (aC _) rfl|exact br.row rfl rfl rfl))))))))))));refine w0 ?_))
   refine jx (rf 2010 _ 111 (j5 2012 2013 ll lr lx lo (Tr.node ll lx lo lr).dep (Tr.node ll lx lo lr).siz (Tr.node ll lx lo lr).tot) rfl rfl (nU rfl rfl) rfl) ?_
   (refine fB (gj [(2000,2000),(2010,2010),(2011,2011),(3000,2030)] t2) ?_;repeat' first|apply ai|refine aj fun hc=>?_)
   refine ⟨.inl rfl,cc [(2030,3000)] rfl rfl ?_ (uq rfl rfl)⟩
   (repeat (first|exact aW.nil|(refine aW.cons rfl ?_ ?_;(focus first|rfl|skip))))
 ·by_cases c3:r.dep > l.dep + 1
  ·obtain ⟨rl,rx,ro,rr,rfl⟩:=rj (t:=r) (by omega)
   have h3:=gw rl
   have h4:=gw rr
   by_cases c2:rr.dep < rl.dep
   ·obtain ⟨al,ax,ao,ar,rfl⟩:=rj (t:=rl) (by omega)
    have hL:dF l x o (.node (.node al ax ao ar) rx ro rr) = .node (.node l x o al) ax ao (.node ar rx ro rr):=by
     unfold dF
     rw [if_neg c1,if_pos c3,if_pos (show (Tr.rt (.node (.node al ax ao ar) rx ro rr)).dep < (Tr.lt (.node (.node al ax ao ar) rx ro rr)).dep from c2)];rfl
    rw [hL]
    have t1:=kW al ar rr ax rx ao ro (Tr.node (.node al ax ao ar) rx ro rr).dep (Tr.node (.node al ax ao ar) rx ro rr).siz (Tr.node (.node al ax ao ar) rx ro rr).tot (by simp only [Tr.siz] at *;omega)
    have t2:=mh l al (.node ar rx ro rr) ax x ao o d m s (by simp only [Tr.siz] at *;omega)
    clear hL
    refine eR Tryz.func183 Tryz.ntmps183 ?_
    refine bZ (kS 2011 0 111 (j5 2012 2013 (.node al ax ao ar) rr rx ro (Tr.node (.node al ax ao ar) rx ro rr).dep (Tr.node (.node al ax ao ar) rx ro rr).siz (Tr.node (.node al ax ao ar) rx ro rr).tot) rfl rfl rfl) ?_
    (refine lO (gj [(2000,2011),(2010,2012),(2011,2013),(3000,2020)] t1) (gj [(2000,2000),(2010,2010),(2011,2020),(3000,2030)] t2) ?_;repeat' first|apply ai|refine aj fun hc=>?_|((first|apply aO rfl|apply aP rfl|apply aQ rfl|apply aR rfl);(focus ((try (apply b8;(focus rfl);apply ah rfl rfl rfl rfl rfl));first|((refine nT (ids:=[2010]) (h1) (hg:=?_);(refine fm.cons ?_ fm.nil;first|exact bR rfl rfl rfl (aC _) rfl|exact bP rfl|(refine bQ rfl rfl rfl rfl ?_;(focus (repeat (first|exact bp.nil|(refine bp.cons ?_ ?_;(focus (first|exact br.per|exact br.obj rfl rfl (aC _) rfl|exact br.row rfl rfl rfl))))))))))|((refine nT (ids:=[2011,2012,2013]) (h2) (hg:=?_);(refine fm.cons ?_ fm.nil;first|exact bR rfl rfl rfl (aC _) rfl|exact bP rfl|(refine bQ rfl rfl rfl rfl ?_;(focus (repeat (first|exact bp.nil|(refine bp.cons ?_ ?_;(focus (first|exact br.per|exact br.obj rfl rfl (aC _) rfl|exact br.row rfl rfl rfl))))))))))|((refine nT (ids:=[2012]) (h3) (hg:=?_);(refine fm.cons ?_ fm.nil;first|exact bR rfl rfl rfl (aC _) rfl|exact bP rfl|(refine bQ rfl rfl rfl rfl ?_;(focus (repeat (first|exact bp.nil|(refine bp.cons ?_ ?_;(focus (first|exact br.per|exact br.obj rfl rfl (aC _) rfl|exact br.row rfl rfl rfl))))))))))|((refine nT (ids:=[2013]) (h4) (hg:=?_);(refine fm.cons ?_ fm.nil;first|exact bR rfl rfl rfl (aC _) rfl|exact bP rfl|(refine bQ rfl rfl rfl rfl ?_;(focus (repeat (first|exact bp.nil|(refine bp.cons ?_ ?_;(focus (first|exact br.per|exact br.obj rfl rfl (aC _) rfl|exact br.row rfl rfl rfl))))))))))));refine lO (gj [(2000,2011),(2010,2012),(2011,2013),(3000,2020)] t1) (gj [(2000,2000),(2010,2010),(2011,2020),(3000,2030)] t2) ?_))
    refine ⟨.inl rfl,cc [(2030,3000)] rfl rfl ?_ (uq rfl rfl)⟩
    (repeat (first|exact aW.nil|(refine aW.cons rfl ?_ ?_;(focus first|rfl|skip))))
   ·have hL:dF l x o (.node rl rx ro rr) = .node (.node l x o rl) rx ro rr:=by
     unfold dF
     rw [if_neg c1,if_pos c3,if_neg (show ¬ (Tr.rt (.node rl rx ro rr)).dep < (Tr.lt (.node rl rx ro rr)).dep from c2)];rfl
    rw [hL]
    have t2:=mh l rl rr rx x ro o d m s (by simp only [Tr.siz] at *;omega)
    clear hL
    refine eR Tryz.func183 Tryz.ntmps183 ?_
    refine bZ (kS 2011 0 111 (j5 2012 2013 rl rr rx ro (Tr.node rl rx ro rr).dep (Tr.node rl rx ro rr).siz (Tr.node rl rx ro rr).tot) rfl rfl rfl) ?_
    (refine w0 ?_;repeat' first|apply ai|refine aj fun hc=>?_|((first|apply aO rfl|apply aP rfl|apply aQ rfl|apply aR rfl);(focus ((try (apply b8;(focus rfl);apply ah rfl rfl rfl rfl rfl));first|((refine nT (ids:=[2010]) (h1) (hg:=?_);(refine fm.cons ?_ fm.nil;first|exact bR rfl rfl rfl (aC _) rfl|exact bP rfl|(refine bQ rfl rfl rfl rfl ?_;(focus (repeat (first|exact bp.nil|(refine bp.cons ?_ ?_;(focus (first|exact br.per|exact br.obj rfl rfl (aC _) rfl|exact br.row rfl rfl rfl))))))))))|((refine nT (ids:=[2011,2012,2013]) (h2) (hg:=?_);(refine fm.cons ?_ fm.nil;first|exact bR rfl rfl rfl (aC _) rfl|exact bP rfl|(refine bQ rfl rfl rfl rfl ?_;(focus (repeat (first|exact bp.nil|(refine bp.cons ?_ ?_;(focus (first|exact br.per|exact br.obj rfl rfl (aC _) rfl|exact br.row rfl rfl rfl))))))))))|((refine nT (ids:=[2012]) (h3) (hg:=?_);(refine fm.cons ?_ fm.nil;first|exact bR rfl rfl rfl (aC _) rfl|exact bP rfl|(refine bQ rfl rfl rfl rfl ?_;(focus (repeat (first|exact bp.nil|(refine bp.cons ?_ ?_;(focus (first|exact br.per|exact br.obj rfl rfl (aC _) rfl|exact br.row rfl rfl rfl))))))))))|((refine nT (ids:=[2013]) (h4) (hg:=?_);(refine fm.cons ?_ fm.nil;first|exact bR rfl rfl rfl (aC _) rfl|exact bP rfl|(refine bQ rfl rfl rfl rfl ?_;(focus (repeat (first|exact bp.nil|(refine bp.cons ?_ ?_;(focus (first|exact br.per|exact br.obj rfl rfl (aC _) rfl|exact br.row rfl rfl rfl))))))))))));refine w0 ?_))
    refine jx (rf 2011 _ 111 (j5 2012 2013 rl rr rx ro (Tr.node rl rx ro rr).dep (Tr.node rl rx ro rr).siz (Tr.node rl rx ro rr).tot) rfl rfl (nU rfl rfl) rfl) ?_
    (refine fB (gj [(2000,2000),(2010,2010),(2011,2011),(3000,2030)] t2) ?_;repeat' first|apply ai|refine aj fun hc=>?_)
    refine ⟨.inl rfl,cc [(2030,3000)] rfl rfl ?_ (uq rfl rfl)⟩
    (repeat (first|exact aW.nil|(refine aW.cons rfl ?_ ?_;(focus first|rfl|skip))))
  ·have hL:dF l x o r = .node l x o r:=by
    unfold dF
    rw [if_neg c1,if_neg c3]
   rw [hL]
   have f:=sM l r x o d m s hs
   clear hL
   refine eR Tryz.func183 Tryz.ntmps183 ?_
   (refine fB (gj [(2000,2000),(2010,2010),(2011,2011),(3000,2030)] f) ?_;repeat' first|apply ai|refine aj fun hc=>?_|((first|apply aO rfl|apply aP rfl|apply aQ rfl|apply aR rfl);(focus ((try (apply b8;(focus rfl);apply ah rfl rfl rfl rfl rfl));first|((refine nT (ids:=[2010]) (h1) (hg:=?_);(refine fm.cons ?_ fm.nil;first|exact bR rfl rfl rfl (aC _) rfl|exact bP rfl|(refine bQ rfl rfl rfl rfl ?_;(focus (repeat (first|exact bp.nil|(refine bp.cons ?_ ?_;(focus (first|exact br.per|exact br.obj rfl rfl (aC _) rfl|exact br.row rfl rfl rfl))))))))))|((refine nT (ids:=[2011]) (h2) (hg:=?_);(refine fm.cons ?_ fm.nil;first|exact bR rfl rfl rfl (aC _) rfl|exact bP rfl|(refine bQ rfl rfl rfl rfl ?_;(focus (repeat (first|exact bp.nil|(refine bp.cons ?_ ?_;(focus (first|exact br.per|exact br.obj rfl rfl (aC _) rfl|exact br.row rfl rfl rfl))))))))))));refine fB (gj [(2000,2000),(2010,2010),(2011,2011),(3000,2030)] f) ?_))
   refine ⟨.inl rfl,cc [(2030,3000)] rfl rfl ?_ (uq rfl rfl)⟩
   (repeat (first|exact aW.nil|(refine aW.cons rfl ?_ ?_;(focus first|rfl|skip))))
def j6:Tr → It → Int → Tr
 | .nil,x,o=>.node .nil x o .nil
 | .node l y p r,x,o=>if bu x.key y.key < 0 then dF (j6 l x o) y p r else if bu x.key y.key > 0 then dF l y p (j6 r x o) else dF l x o r
theorem nV (l:Tr) (x:It) (o:Int) (r:Tr):(dF l x o r).siz = 1 + l.siz + r.siz:=by
 unfold dF
 split
 ·split
  ·rw [p8];simp only [Tr.siz,p9]
  ·rw [p8];rfl
 ·split
  ·split
   ·rw [p9];simp only [Tr.siz,p8]
   ·rw [p9];rfl
  ·rfl
theorem j7:∀ (t:Tr) (x:It) (o:Int),(j6 t x o).siz ≤ t.siz + 1
 | .nil,x,o=>by simp [j6,Tr.siz]
 | .node l y p r,x,o=>by
  have h1:=j7 l x o
  have h2:=j7 r x o
  unfold j6
  split
  ·rw [nV];simp only [Tr.siz];omega
  ·split
   ·rw [nV];simp only [Tr.siz];omega
   ·rw [nV];simp only [Tr.siz];omega
def Pj (x:It) (o d m s:Int):List UC:=[iZ (.string x.key) rfl rfl,iZ (.int .i64 x.rep) rfl rfl,iZ (.int .i64 x.cnt) rfl rfl,iZ (.int .i64 x.rank) rfl rfl,iZ (.int .i64 x.prio) rfl rfl,iZ (.bool x.dead) rfl rfl,iZ (.string x.body) rfl rfl,
 iZ (.pointer none) rfl rfl,iZ (.pointer none) rfl rfl,iZ (.int .i64 d) rfl rfl,iZ (.int .i64 m) rfl rfl,iZ (.int .u64 o) rfl rfl,iZ (.int .u64 s) rfl rfl]
theorem L7 (x:It) (o d m s:Int) :
 de Tryz.prog 182 [.ptr 2000 0 0] [(2000,yY (.per (av (.pointer none))) (.per (av (.pointer none))) x o d m s)] (.row 3000 0) [(3000,.obj (nm (.node .nil x o .nil)))]:=by
 have h1:Fn Tryz.prog 211 [.per (av (.pointer none))] (gy 0):=gw .nil
 have h3:Fn Tryz.prog 62 [.per (av (.pointer none))] (gy 0):=iz .nil
 have h5:Fn Tryz.prog 111 [.per (av (.pointer none))] (.per (av (.int .u64 0))):=mg .nil
 refine eR Tryz.func182 Tryz.ntmps182 ?_
 (refine eX h1 h3 h5 ?_;repeat' first|apply ai|refine aj fun hc=>?_)
 refine ⟨.inl rfl,dj (rf 2000 _ 111 (Pj x o 1 1 (Tr.node .nil x o .nil).tot) rfl rfl (.p (.p (.p (.p (.p (.p (.p (.p (.p (.p (.p (.p (.p .nil))))))))))))) rfl) ?_⟩
 refine cc [(2000,3000)] rfl rfl ?_ (uq rfl rfl)
 (repeat (first|exact aW.nil|(refine aW.cons rfl ?_ ?_;(focus first|rfl|skip))))
theorem Bt:∀ (t:Tr) (x:It) (o:Int),t.siz ≤ 900000 → x.key.size ≤ 1000000000 → de Tryz.prog 139 [.row 2000 0,wV x,iC .u64 o] [(2000,.obj (nm t))] (.row 3000 0) [(3000,.obj (nm (j6 t x o)))]
 | .nil,x,o,hs,hk=>by
  have f:=L7 x o 0 0 0
  unfold j6
  refine eR Tryz.func139 Tryz.ntmps139 ?_
  refine bZ (LZ 2000 0 (A:=av (.pointer none)) rfl rfl) ?_
  (refine fB (gj [(2000,13),(3000,2030)] f) ?_;repeat' first|apply ai|refine aj fun hc=>?_)
  refine ⟨.inl rfl,cc [(2030,3000)] rfl rfl ?_ (uq rfl rfl)⟩
  (repeat (first|exact aW.nil|(refine aW.cons rfl ?_ ?_;(focus first|rfl|skip))))
 | .node l y p r,x,o,hs,hk=>by
  have g1:=Bt l x o (by simp only [Tr.siz] at hs;omega) hk
  have g2:=Bt r x o (by simp only [Tr.siz] at hs;omega) hk
  have s1:=j7 l x o
  have s2:=j7 r x o
  have hkc:=eN x.key y.key (by omega)
  have l1:=sQ (j6 l x o) r y p (Tr.node l y p r).dep (Tr.node l y p r).siz (Tr.node l y p r).tot (by simp only [Tr.siz] at *;omega)
  have l2:=sQ l (j6 r x o) y p (Tr.node l y p r).dep (Tr.node l y p r).siz (Tr.node l y p r).tot (by simp only [Tr.siz] at *;omega)
  have l3:=sQ l r x o (Tr.node l y p r).dep (Tr.node l y p r).siz (Tr.node l y p r).tot (by simp only [Tr.siz] at *;omega)
  unfold j6
  by_cases c1:bu x.key y.key < 0
  ·rw [if_pos c1]
   refine eR Tryz.func139 Tryz.ntmps139 ?_
   refine bZ (kS 2000 0 111 (j5 2010 2011 l r y p (Tr.node l y p r).dep (Tr.node l y p r).siz (Tr.node l y p r).tot) rfl rfl rfl) ?_
   (refine lM hkc (gj [(2000,2010),(3000,2020)] g1) (gj [(2000,2000),(2010,2020),(2011,2011),(3000,2030)] l1) ?_;repeat' first|apply ai|refine aj fun hc=>?_)
   refine ⟨.inl rfl,cc [(2030,3000)] rfl rfl ?_ (uq rfl rfl)⟩
   (repeat (first|exact aW.nil|(refine aW.cons rfl ?_ ?_;(focus first|rfl|skip))))
  ·rw [if_neg c1]
   by_cases c2:bu x.key y.key > 0
   ·rw [if_pos c2]
    refine eR Tryz.func139 Tryz.ntmps139 ?_
    refine bZ (kS 2000 0 111 (j5 2010 2011 l r y p (Tr.node l y p r).dep (Tr.node l y p r).siz (Tr.node l y p r).tot) rfl rfl rfl) ?_
    (refine lM hkc (gj [(2000,2011),(3000,2020)] g2) (gj [(2000,2000),(2010,2010),(2011,2020),(3000,2030)] l2) ?_;repeat' first|apply ai|refine aj fun hc=>?_)
    refine ⟨.inl rfl,cc [(2030,3000)] rfl rfl ?_ (uq rfl rfl)⟩
    (repeat (first|exact aW.nil|(refine aW.cons rfl ?_ ?_;(focus first|rfl|skip))))
   ·rw [if_neg c2]
    refine eR Tryz.func139 Tryz.ntmps139 ?_
    refine bZ (kS 2000 0 111 (j5 2010 2011 l r y p (Tr.node l y p r).dep (Tr.node l y p r).siz (Tr.node l y p r).tot) rfl rfl rfl) ?_
    (refine eW hkc (gj [(2000,2000),(2010,2010),(2011,2011),(3000,2030)] l3) ?_;repeat' first|apply ai|refine aj fun hc=>?_)
    refine ⟨.inl rfl,cc [(2030,3000)] rfl rfl ?_ (uq rfl rfl)⟩
    (repeat (first|exact aW.nil|(refine aW.cons rfl ?_ ?_;(focus first|rfl|skip))))
def I7:Tr → It → Int → Tr → It × Int × Tr
 | .nil,x,o,r=>(x,o,r)
 | .node l y p q,x,o,r=>((I7 l y p q).1,(I7 l y p q).2.1,dF (I7 l y p q).2.2 x o r)
def N7:Tr → ByteArray → Bool
 | .nil,_=>false
 | .node l y _ r,k=>if bu k y.key < 0 then N7 l k else if bu k y.key > 0 then N7 r k else true
def uU:Tr → ByteArray → Tr
 | .nil,_=>.nil
 | .node l y p r,k=>if bu k y.key < 0 then dF (uU l k) y p r else if bu k y.key > 0 then dF l y p (uU r k) else (match r with
  | .nil=>l
  | .node rl z q rr=>dF l (I7 rl z q rr).1 (I7 rl z q rr).2.1 (I7 rl z q rr).2.2)
end
theorem I8 (s:ByteArray) (w:World) :
 Calls Tryz.prog 91 #[.string s] w fun e w'=>e = .returned (.bool (cY s)) ∧ w = w':=by
 go_enter Tryz.func91,Tryz.ntmps91
 go_wp2
 all_goals
  go_ret
  refine ⟨eJ (my ?_),rfl⟩
  rw [cY,Bool.eq_iff_iff];simp;omega
theorem yZ (s:ByteArray) (w:World) :
 Calls Tryz.prog 101 #[.string s] w fun e w'=>e = .returned (.bool (cY s)) ∧ w = w':=by
 go_enter Tryz.func101,Tryz.ntmps101
 go_wp2
 all_goals
  go_ret
  refine ⟨eJ (my ?_),rfl⟩
  rw [cY,Bool.eq_iff_iff];simp;omega
theorem I9 (r c:Int) (w:World) :
 Calls Tryz.prog 112 #[.agg #[.int .i64 r,.int .i64 c]] w fun e w'=>e = .returned (.bool (cC r c)) ∧ bw w w':=by
 go_enter Tryz.func112,Tryz.ntmps112
 go_wp2
 all_goals
  go_ret
  refine ⟨eJ (my ?_),(bw.refl _).alloc _⟩
  rw [cC,Bool.eq_iff_iff];simp;omega
theorem y0 (r c:Int) (w:World) :
 Calls Tryz.prog 114 #[.agg #[.int .i64 r,.int .i64 c]] w fun e w'=>e = .returned (.bool (cC r c)) ∧ bw w w':=by
 go_enter Tryz.func114,Tryz.ntmps114
 go_wp2
 all_goals
  go_ret
  refine ⟨eJ (my ?_),(bw.refl _).alloc _⟩
  rw [cC,Bool.eq_iff_iff];simp;omega
theorem C1 (x:It) (w:World) :
 Calls Tryz.prog 120 #[pg x] w fun e w'=>e = .returned (.bool (itR x)) ∧ bw w w':=by
 obtain ⟨key,rep,cnt,rank,prio,dead,body⟩:=x
 unfold pg
 go_enter Tryz.func120,Tryz.ntmps120
 go_wp2_with fail
 refine (I8 _ _).mono ?_
 rintro e w1 ⟨rfl,rfl⟩
 go_wp2_with (go_at_call 112;refine (I9 _ _ _).mono ?_;rintro e w1 ⟨rfl,hx⟩;obtain ⟨hc,hf⟩:=(show (∀ b o,b < w.heap.size + 1 → w1.cell? ⟨b,o,none⟩ = _) ∧ _ from ⟨by simpa using hx.cells,by simpa using hx.frozens⟩))
 all_goals
  go_ret
  refine ⟨eJ (my ?_),?_⟩
  ·simp only [itR]
   try simp only [t7]
   simp_all
   try omega
  ·first|exact (bw.refl _).alloc _|exact ((bw.refl _).alloc _).trans hx
theorem sR (x:It) (w:World) :
 Calls Tryz.prog 96 #[pg x] w fun e w'=>e = .returned (.bool (itR x)) ∧ bw w w':=by
 obtain ⟨key,rep,cnt,rank,prio,dead,body⟩:=x
 unfold pg
 go_enter Tryz.func96,Tryz.ntmps96
 go_wp2_with fail
 refine (yZ _ _).mono ?_
 rintro e w1 ⟨rfl,rfl⟩
 go_wp2_with (go_at_call 114;refine (y0 _ _ _).mono ?_;rintro e w1 ⟨rfl,hx⟩;obtain ⟨hc,hf⟩:=(show (∀ b o,b < w.heap.size + 1 → w1.cell? ⟨b,o,none⟩ = _) ∧ _ from ⟨by simpa using hx.cells,by simpa using hx.frozens⟩))
 all_goals
  go_ret
  refine ⟨eJ (my ?_),?_⟩
  ·simp only [itR]
   try simp only [t7]
   simp_all
   try omega
   try (rw [Bool.eq_iff_iff];simp only [Bool.not_eq_true',Bool.or_eq_true,decide_eq_true_eq,decide_eq_false_iff_not,← ByteArray.size_eq_zero_iff];omega)
  ·first|exact (bw.refl _).alloc _|exact ((bw.refl _).alloc _).trans hx
def tY (w:World) (b o:Nat) (x:It):Prop:=
 w.cell? ⟨b,o,none⟩ = some (.string x.key) ∧ w.cell? ⟨b,o + 1,none⟩ = some (.int .i64 x.rep) ∧ w.cell? ⟨b,o + 2,none⟩ = some (.int .i64 x.cnt) ∧ w.cell? ⟨b,o + 3,none⟩ = some (.int .i64 x.rank) ∧
 w.cell? ⟨b,o + 4,none⟩ = some (.int .i64 x.prio) ∧ w.cell? ⟨b,o + 5,none⟩ = some (.bool x.dead) ∧ w.cell? ⟨b,o + 6,none⟩ = some (.string x.body)
theorem tY.ext {w w':World} {b o:Nat} {x:It} (h:tY w b o x) (he:bw w w'):tY w' b o x:=by
 obtain ⟨h0,h1,h2,h3,h4,h5,h6⟩:=h
 exact ⟨he.cell h0,he.cell h1,he.cell h2,he.cell h3,he.cell h4,he.cell h5,he.cell h6⟩
theorem PO.open {w:World} {v:Value} {l:List It} (h:PO w v l) :
 ∃ a c b o,v = .slice a l.length c ∧ l.length ≤ c ∧ c ≤ maxLen ∧ (0 < l.length → a = some ⟨b,o,none⟩) ∧ ∀ (i:Nat) (h:i < l.length),tY w b (o + i * 7) l[i]:=by
 obtain ⟨a,c,b,o,hv,h1,h2,h3,h0,h4⟩:=h
 refine ⟨a,c,b,o,hv,h1,h2,h3,fun i hi=>?_⟩
 have:=h4 i l[i] (by simp [hi])
 exact ⟨this 0 _ rfl,this 1 _ rfl,this 2 _ rfl,this 3 _ rfl,this 4 _ rfl,this 5 _ rfl,this 6 _ rfl⟩
theorem tY.box {w:World} (x:It) (T:TypeId):tY (w.alloc (.cells #[.string x.key,.int .i64 x.rep,.int .i64 x.cnt,.int .i64 x.rank,.int .i64 x.prio,.bool x.dead,.string x.body] T)) w.heap.size 0 x:=by
 have hc:∀ j v,(#[.string x.key,.int .i64 x.rep,.int .i64 x.cnt,.int .i64 x.rank,.int .i64 x.prio,.bool x.dead,.string x.body]:Array Value)[j]? = some v →
  (w.alloc (.cells #[.string x.key,.int .i64 x.rep,.int .i64 x.cnt,.int .i64 x.rank,.int .i64 x.prio,.bool x.dead,.string x.body] T)).cell? ⟨w.heap.size,j,none⟩ = some v:=by
  intro j v hj
  rw [cell_of_row _ _ _ _ _ _ (heap_alloc_new w _)];exact hj
 exact ⟨hc 0 _ rfl,hc 1 _ rfl,hc 2 _ rfl,hc 3 _ rfl,hc 4 _ rfl,hc 5 _ rfl,hc 6 _ rfl⟩
end Go.Proofs.YtliiahjpiagdkaaGreat
