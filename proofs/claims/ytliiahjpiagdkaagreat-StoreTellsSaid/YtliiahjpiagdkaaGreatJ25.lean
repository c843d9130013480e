/- Texts joined: TrH TrM IxK TrL RefU TrK. -/
import Derived.Test.YtliiahjpiagdkaaGreatJ06
import Derived.Test.YtliiahjpiagdkaaGreatJ24
import Derived.Test.YtliiahjpiagdkaaGreatJ08
import Derived.Test.YtliiahjpiagdkaaGreatJ05
import Derived.Test.YtliiahjpiagdkaaGreatJ23
import Derived.Test.YtliiahjpiagdkaaGreatJ09
import Derived.Test.YtliiahjpiagdkaaGreatJ22
import Derived.Test.YtliiahjpiagdkaaGreatJ11
import Derived.Test.YtliiahjpiagdkaaGreatJ07
import Derived.Test.YtliiahjpiagdkaaGreatJ15
set_option maxRecDepth 10000
set_option maxHeartbeats 8000000
namespace Go.Proofs.YtliiahjpiagdkaaGreat
open Go.RowKit
theorem Mb {N:BP} {w:World} {vs:List Value} {v:Value} (h:(bX (vs.map av)).p N w v):v = .agg vs.toArray:=by
 obtain ⟨us,rfl,hs,hc⟩:=h
 congr 1
 apply Array.ext
 ·simpa using hs
 ·intro i h1 h2
  have hv:vs[i]? = some (vs.toArray[i]):=by simp
  obtain ⟨y,hy,-,hr⟩:=hc i (av (vs.toArray[i])) (by rw [List.getElem?_map,hv];rfl)
  have hr:y = vs.toArray[i]:=hr
  have:us[i]? = some us[i]:=by simp [h1]
  rw [this] at hy
  cases hy
  exact hr
theorem Ob {N:BP} {w:World} {v:Value} {x:It} (h:(bX (itP x)).p N w v):v = pg x:=Mb (vs:=encIt x) h
theorem EN (seed:Int) (x:It):Fn Tryz.prog 140 [iC .u64 seed,.per (bX (itP x))] (.per (av (.int .u64 (dp seed x)))):=by
 refine ⟨⟨_,Tryz.func140,by kernel_rfl,by kernel_rfl⟩,fun N0 w vs _ ha=>?_⟩
 obtain ⟨v,u,rfl,h1,h2⟩:=Cu ha
 obtain rfl:v = .int .u64 seed:=h1
 obtain rfl:u = pg x:=Ob h2
 refine Calls.mono (EK seed x w) ?_
 rintro e w' ⟨rfl,h⟩
 exact ⟨_,rfl,h,rfl⟩
theorem Jf (h n:Int) (h0:0 ≤ h) (h1:h < 18446744073709551616):Fn Tryz.prog 73 [iC .u64 h,iC .i64 n] (.per (av (.int .u64 (cut h n)))):=by
 refine ⟨⟨_,Tryz.func73,by kernel_rfl,by kernel_rfl⟩,fun N0 w vs _ ha=>?_⟩
 obtain ⟨v,u,rfl,e1,e2⟩:=Cu ha
 obtain rfl:v = .int .u64 h:=e1
 obtain rfl:u = .int .i64 n:=e2
 refine Calls.mono (Ma h n w h0 h1) ?_
 rintro e w' ⟨rfl,rfl⟩
 exact ⟨_,rfl,bw.refl _,rfl⟩
theorem Mc (h n:Int) (h0:0 ≤ h) (h1:h < 18446744073709551616):Fn Tryz.prog 37 [iC .u64 h,iC .i64 n] (.per (av (.int .u64 (cut h n)))):=by
 refine ⟨⟨_,Tryz.func37,by kernel_rfl,by kernel_rfl⟩,fun N0 w vs _ ha=>?_⟩
 obtain ⟨v,u,rfl,e1,e2⟩:=Cu ha
 obtain rfl:v = .int .u64 h:=e1
 obtain rfl:u = .int .i64 n:=e2
 refine Calls.mono (Bz h n w h0 h1) ?_
 rintro e w' ⟨rfl,rfl⟩
 exact ⟨_,rfl,bw.refl _,rfl⟩
theorem Jg (seed:Int) (l:List It):Fn Tryz.prog 38 [iC .u64 seed,.per (cD 7 (l.map itP))] (.per (av (.int .u64 (qK seed l)))):=by
 refine ⟨⟨_,Tryz.func38,by kernel_rfl,by kernel_rfl⟩,fun N0 w vs _ ha=>?_⟩
 obtain ⟨v,u,rfl,h1,h2⟩:=Cu ha
 obtain rfl:v = .int .u64 seed:=h1
 refine Calls.mono (y8 seed u l w (Nx h2)) ?_
 rintro e w' ⟨rfl,h⟩
 exact ⟨_,rfl,h,rfl⟩
def gD (t:Tr) (seed bits:Int):PV:=dw [tX t,av (.int .u64 seed),av (.int .i64 bits)]
section
variable {n:Nat} {S:St}
theorem Md (id off idr e:Nat) {u:Value} {cells:List Cnt} (h1:u.oneCell' = true) (h2:u.cells = #[u]) (hb:S.blk id = .box e cells) (hc:cells[off]? = some (.per (av u))) (hne:Nat.beq idr id = false:=by rfl) (hfx:cV idr = false:=by rfl) :
 Le n S (S.app none .any [(id,S.ver id,.box e (cells.set off (.row idr (S.ver idr + 1)))),(idr,S.ver idr + 1,.obj (lj u h1 h2))]):=by
 rintro C a w ⟨g,hR⟩
 have hne':idr ≠ id:=fun e=>by rw [aG.2 e] at hne;cases hne
 have hvr:∀ i,(S.app none .any [(id,S.ver id,.box e (cells.set off (.row idr (S.ver idr + 1)))),(idr,S.ver idr + 1,.obj (lj u h1 h2))]).ver i = if i = idr then S.ver idr + 1 else S.ver i:=by
  intro i
  rw [St.app_ver]
  unfold ub
  cases hbq:Nat.beq i id with
  | true=>
   have:=aG.1 hbq
   subst this
   rw [if_neg (Ne.symm hne')];rfl
  | false=>
   show ((ub [(idr,S.ver idr + 1,Blk.obj (lj u h1 h2))] i).map (·.1)).getD (S.ver i) = _
   rw [kh]
   split <;> rfl
 have hst:=mG (v:=u) (t:=idr) hR (bw.refl w) hvr hfx
 have hrh:(g.mkN idr u).rh idr = u:=if_pos rfl
 have hid:hst = hst:=rfl
 refine ⟨g.mkN idr u,?_⟩
 have key:=hR.appL (g':=g.mkN idr u) (bs:=[(id,S.ver id,.box e (cells.set off (.row idr (S.ver idr + 1)))),(idr,S.ver idr + 1,.obj (lj u h1 h2))]) (d:=none) (fun t h=>by cases h) (c:=.any) (v:=undef)
  (hst.cong ?hcg) trivial ?_
 case hcg=>
  intro i hi
  subst hi
  unfold ub
  rw [hne]
  show ub [(i,S.ver i + 1,Blk.obj (lj u h1 h2))] i ≠ none
  rw [kh,if_pos rfl];simp
 ·exact key
 ·intro i v B hu
  rcases GI hu with ⟨rfl,rfl,rfl⟩|⟨rfl,rfl,rfl⟩
  ·have h0:=hst.brep (fun b id e=>(hR.dom b id e).1) (id:=i) (fun h=>hne' h.symm) (hR.blks i)
   rw [hb] at h0
   obtain ⟨cs,q1,q2,q3,q4⟩:=h0
   refine ⟨cs,q1,q2,by rw [q3];simp,fun j c hj=>?_⟩
   rw [List.getElem?_set] at hj
   split at hj
   ·rename_i e1
    subst e1
    split at hj
    ·cases hj
     obtain ⟨y,r1,r2,r3⟩:=q4 off _ hc
     refine ⟨y,r1,r2,by rw [hvr,if_pos rfl];exact Nat.le_refl _,fun _=>?_⟩
     rw [hrh];exact r3
    ·cases hj
   ·exact q4 j c hj
  ·exact hrh
end
section
theorem mj (t:Tr) (s b:Int):Fn Tryz.prog 60 [.per (gD t s b)] (.per (tX t)):=by
 unfold gD
 refine fi Tryz.func60 Tryz.ntmps60 ?_
 (refine w0 ?_;repeat' first|apply ai|refine aj fun hc=>?_)
 refine aU ?_
 exact ct rfl
theorem Jh (t:Tr) (s b:Int):Fn Tryz.prog 27 [.per (gD t s b)] (gy ((t.siz:Nat):Int)):=by
 have h1:=mj t s b
 have h2:=iz t
 unfold gD at *
 refine fi Tryz.func27 Tryz.ntmps27 ?_
 (refine aL h1 h2 ?_;repeat' first|apply ai|refine aj fun hc=>?_)
 refine aU ?_
 exact aH rfl rfl
def BA:It:=⟨⟨#[]⟩,0,0,0,0,false,⟨#[]⟩⟩
abbrev Ji (x:It):List Cnt:=[sC x.key,iC .i64 x.rep,iC .i64 x.cnt,iC .i64 x.rank,iC .i64 x.prio,bC x.dead,sC x.body]
theorem sW (l:Tr) (x:It) (o:Int) (r:Tr):tX (.node l x o r) = dw (itP x ++ [tX l,tX r,av (.int .i64 ((Tr.node l x o r).dep:Nat)),av (.int .i64 ((Tr.node l x o r).siz:Nat)),av (.int .u64 o),av (.int .u64 (Tr.node l x o r).tot)]):=by rw [tX]
def jM:Tr → ByteArray → Option It
 | .nil,_=>none
 | .node l y _ r,k=>if bu k y.key < 0 then jM l k else if bu k y.key > 0 then jM r k else some y
theorem Jj (t:Tr) (s b:Int) (k:ByteArray) (hk:k.size ≤ 1000000000):Fn Tryz.prog 26 [.per (gD t s b),sC k] (.tup2 (.per (bX (itP ((jM t k).getD BA)))) (cw (jM t k).isSome)):=by
 have h1:=mj t s b
 generalize hR:jM t k = R
 generalize gD t s b = T at *
 refine fi Tryz.func26 Tryz.ntmps26 ?_
 (refine az h1 ?_;repeat' first|apply ai|refine aj fun hc=>?_)
 refine an (X:=Tr) (fun u=>jM u k = R) (fun u=>ba [(1,sC k),(4,.ptr 4 0 0),(6,.per (tX u))] [(4,.box 41 (Ji BA))]) Tr.siz t hR ?_ ?_
 ·exact ae
 ·intro u hu
  cases u with
  | nil=>
   simp only [jM] at hu
   subst hu
   show AW _ _ _ _ (ba [(1,sC k),(4,.ptr 4 0 0),(6,.per (av (.pointer none)))] [(4,.box 41 (Ji BA))])
   (refine w0 ?_;repeat' first|apply ai|refine aj fun hc=>?_)
   refine im ?_ ?_
   ·exact bL inferInstance inferInstance rfl rfl rfl rfl rfl rfl
   ·exact af rfl rfl
  | node l y p r=>
   have hkc:=eN k y.key (by omega)
   simp only [jM] at hu
   rw [sW]
   (refine az hkc ?_;repeat' first|apply ai|refine aj fun hc=>?_|((first|apply aO rfl|apply aP rfl|apply aQ rfl|apply aR rfl);(focus ((try (apply b8;(focus rfl);apply ah rfl rfl rfl rfl rfl));first|((apply bn 5;(focus rfl);first|exact bg ⟨rfl,rfl,rfl⟩ rfl inferInstance inferInstance rfl rfl rfl rfl|exact bh ⟨rfl,rfl,rfl⟩ rfl inferInstance inferInstance rfl rfl rfl rfl))));refine az hkc ?_))
   ·rw [if_pos (by assumption)] at hu
    refine ⟨l,hu,by simp only [Tr.siz];omega,?_⟩
    exact ae
   ·rw [if_neg (by assumption),if_pos (by assumption)] at hu
    refine ⟨r,hu,by simp only [Tr.siz];omega,?_⟩
    exact ae
   ·rw [if_neg (by assumption),if_neg (by assumption)] at hu
    subst hu
    refine im ?_ ?_
    ·exact bL inferInstance inferInstance rfl rfl rfl rfl rfl rfl
    ·exact af rfl rfl
def Mf:Tr → Nat → It
 | .nil,_=>BA
 | .node l y _ r,i=>if i < l.siz then Mf l i else if l.siz < i then Mf r (i - (l.siz + 1)) else y
theorem Mg (t:Tr) (s b i:Int) (hs:t.siz ≤ 1000000):Fn Tryz.prog 32 [.per (gD t s b),iC .i64 i] (.tup2 (.per (bX (itP (if i < 0 ∨ i ≥ (t.siz:Nat) then BA else Mf t i.toNat)))) (cw (decide (0 ≤ i ∧ i < (t.siz:Nat))))):=by
 have h1:=mj t s b
 have h2:=iz t
 generalize gD t s b = T at *
 refine fi Tryz.func32 Tryz.ntmps32 ?_
 (refine aL h1 h2 ?_;repeat' first|apply ai|refine aj fun hc=>?_)
 ·have hD:decide (0 ≤ i ∧ i < ((t.siz:Nat):Int)) = false:=decide_eq_false (by omega)
  rw [if_pos (show i < 0 ∨ i ≥ ((t.siz:Nat):Int) by omega),hD]
  refine im ?_ ?_
  ·exact bL inferInstance inferInstance rfl rfl rfl rfl rfl rfl
  ·exact af rfl rfl
 ·have hD:decide (0 ≤ i ∧ i < ((t.siz:Nat):Int)) = false:=decide_eq_false (by omega)
  rw [if_pos (show i < 0 ∨ i ≥ ((t.siz:Nat):Int) by omega),hD]
  refine im ?_ ?_
  ·exact bL inferInstance inferInstance rfl rfl rfl rfl rfl rfl
  ·exact af rfl rfl
 ·have hD:decide (0 ≤ i ∧ i < ((t.siz:Nat):Int)) = true:=decide_eq_true (by omega)
  rw [if_neg (show ¬ (i < 0 ∨ i ≥ ((t.siz:Nat):Int)) by omega),hD]
  clear h1 h2
  obtain ⟨j,rfl⟩:∃ j:Nat,i = j:=⟨i.toNat,by omega⟩
  rw [Int.toNat_natCast]
  generalize hR:Mf t j = R
  refine an (X:=Tr × Nat) (fun u=>u.2 < u.1.siz ∧ u.1.siz ≤ 1000000 ∧ Mf u.1 u.2 = R) (fun u=>ba [(1,iC .i64 (u.2:Nat)),(4,.ptr 4 0 0),(6,.per (tX u.1))] [(4,.box 41 (Ji BA))]) (fun u=>u.1.siz) (t,j) ⟨by simp only;omega,by simp only;omega,hR⟩ ?_ ?_
  ·exact ae
  ·intro u ⟨hj,hb,hu⟩
   obtain ⟨u,i⟩:=u
   simp only at hj hb hu ⊢
   cases u with
   | nil=>simp [Tr.siz] at hj
   | node l y p r=>
    have h3:=iz l
    simp only [Mf] at hu
    simp only [Tr.siz] at hj hb
    rw [sW]
    (refine az h3 ?_;repeat' first|apply ai|refine aj fun hc=>?_|((first|apply aO rfl|apply aP rfl|apply aQ rfl|apply aR rfl);(focus ((try (apply b8;(focus rfl);apply ah rfl rfl rfl rfl rfl));first|((apply bn 5;(focus rfl);first|exact bg ⟨rfl,rfl,rfl⟩ rfl inferInstance inferInstance rfl rfl rfl rfl|exact bh ⟨rfl,rfl,rfl⟩ rfl inferInstance inferInstance rfl rfl rfl rfl))));refine az h3 ?_))
    ·rw [if_pos (by omega)] at hu
     refine ⟨(l,i),⟨by simp only;omega,by simp only;omega,hu⟩,by simp only [Tr.siz];omega,?_⟩
     exact ae
    ·rw [if_neg (by omega),if_pos (by omega)] at hu
     refine ⟨(r,i - (l.siz + 1)),⟨by simp only;omega,by simp only;omega,hu⟩,by simp only [Tr.siz];omega,?_⟩
     exact ae
    ·rw [if_neg (by omega),if_neg (by omega)] at hu
     subst hu
     refine im ?_ ?_
     ·exact bL inferInstance inferInstance rfl rfl rfl rfl rfl rfl
     ·exact af rfl rfl
def cK:Tr → ByteArray → Nat × Int
 | .nil,_=>(0,0)
 | .node l y p r,k=>if bu y.key k < 0 then ((cK r k).1 + (1 + l.siz),(cK r k).2 + (p + l.tot)) else cK l k
theorem j8:∀ (t:Tr) (k:ByteArray),(cK t k).1 ≤ t.siz
 | .nil,_=>Nat.le_refl _
 | .node l y p r,k=>by
  have h1:=j8 l k
  have h2:=j8 r k
  rw [cK]
  simp only [Tr.siz]
  split <;> (try simp only) <;> omega
theorem ml (x:Int):IntKind.u64.wrap x = x % 18446744073709551616:=by simp [IntKind.wrap,IntKind.bits,IntKind.signed]
def Tr.lst:Tr → List It
 | .nil=>[]
 | .node l x _ r=>l.lst ++ x :: r.lst
theorem nW (t:Tr) (s b:Int) (k:ByteArray) (hs:t.siz ≤ 1000000) (hw:∀ x ∈ t.lst,x.key.size ≤ 1000000000):Fn Tryz.prog 67 [.per (gD t s b),sC k] (.tup2 (gy (((cK t k).1:Nat):Int)) (.per (av (.int .u64 (IntKind.u64.wrap (cK t k).2))))):=by
 have h1:=mj t s b
 have hM:=j8 t k
 generalize hR:cK t k = R at *
 generalize gD t s b = T at *
 refine fi Tryz.func67 Tryz.ntmps67 ?_
 (refine az h1 ?_;repeat' first|apply ai|refine aj fun hc=>?_)
 refine an (X:=Tr × Nat × Int) (fun u=>(∀ x ∈ u.1.lst,x.key.size ≤ 1000000000) ∧ u.2.1 + (cK u.1 k).1 = R.1 ∧ IntKind.u64.wrap (u.2.2 + (cK u.1 k).2) = IntKind.u64.wrap R.2 ∧ IntKind.u64.wrap u.2.2 = u.2.2) (fun u=>ba [(1,sC k),(4,iC .i64 0),(5,iC .u64 0),(6,iC .i64 (u.2.1:Nat)),(7,iC .u64 u.2.2),(8,.per (tX u.1))] []) (fun u=>u.1.siz) (t,0,0) ⟨hw,by simp [hR],by simp [hR],by simp [ml]⟩ ?_ ?_
 ·exact ae
 ·intro u ⟨hw,e1,e2,e3⟩
  obtain ⟨u,m,z⟩:=u
  simp only at e1 e2 e3 hw ⊢
  cases u with
  | nil=>
   simp only [cK,Int.add_zero,Nat.add_zero] at e1 e2
   rw [e3] at e2
   subst e1
   subst e2
   show AW _ _ _ _ (ba [(1,sC k),(4,iC .i64 0),(5,iC .u64 0),(6,iC .i64 (R.1:Nat)),(7,iC .u64 _),(8,.per (av (.pointer none)))] [])
   (refine w0 ?_;repeat' first|apply ai|refine aj fun hc=>?_)
   refine im ?_ ?_
   ·exact aH rfl rfl
   ·exact ct rfl
  | node l y p r=>
   have h3:=eN y.key k (by have:=hw y (by simp [Tr.lst]);omega)
   have h4:=iz l
   have h5:=mg l
   simp only [cK] at e1 e2
   rw [sW]
   by_cases c1:bu y.key k < 0
   ·rw [if_pos c1] at e1 e2
    simp only at e1 e2
    have e4:(m:Int) + (1 + (l.siz:Nat)) = ((m + (1 + l.siz):Nat):Int):=by omega
    (refine jW e4 h3 h4 h5 ?_;repeat' first|apply ai|refine aj fun hc=>?_)
    refine ⟨(r,m + (1 + l.siz),IntKind.u64.wrap (z + IntKind.u64.wrap (p + l.tot))),⟨fun x hx=>hw x (by simp [Tr.lst,hx]),by simp only;omega,?_,by simp only [ml];omega⟩,by simp only [Tr.siz];omega,?_⟩
    ·rw [← e2]
     simp only [ml]
     omega
    ·exact ae
   ·rw [if_neg c1] at e1 e2
    (refine eX h3 h4 h5 ?_;repeat' first|apply ai|refine aj fun hc=>?_)
    refine ⟨(l,m,z),⟨fun x hx=>hw x (by simp [Tr.lst,hx]),e1,e2,e3⟩,by simp only [Tr.siz];omega,?_⟩
    exact ae
theorem BB (t:Tr) (s b:Int) (k:ByteArray) (hs:t.siz ≤ 1000000) (hw:∀ x ∈ t.lst,x.key.size ≤ 1000000000):Fn Tryz.prog 30 [.per (gD t s b),sC k] (gy (((cK t k).1:Nat):Int)):=by
 have h1:=nW t s b k hs hw
 generalize gD t s b = T at *
 refine fi Tryz.func30 Tryz.ntmps30 ?_
 (refine az h1 ?_;repeat' first|apply ai|refine aj fun hc=>?_)
 refine aU ?_
 exact aH rfl rfl
def y9 (t:Tr) (r:Rg):Int × Int:=
 if eO r then (if r.op then (((t.siz:Nat):Int) - (((cK t r.lo).1:Nat):Int),IntKind.u64.wrap (t.tot - IntKind.u64.wrap (cK t r.lo).2))
  else ((((cK t r.hi).1:Nat):Int) - (((cK t r.lo).1:Nat):Int),IntKind.u64.wrap (IntKind.u64.wrap (cK t r.hi).2 - IntKind.u64.wrap (cK t r.lo).2)))
 else (0,0)
theorem C3 (t:Tr) (s b:Int) (r:Rg) (hs:t.siz ≤ 1000000) (hw:∀ x ∈ t.lst,x.key.size ≤ 1000000000):Fn Tryz.prog 68 [.per (gD t s b),uy r] (.tup2 (gy (y9 t r).1) (.per (av (.int .u64 (y9 t r).2)))):=by
 have h0:=e7 r
 have h1:=mj t s b
 have h2:=iz t
 have h3:=mg t
 have h4:=nW t s b r.lo hs hw
 have h5:=nW t s b r.hi hs hw
 have l4:=j8 t r.lo
 have l5:=j8 t r.hi
 generalize hO:y9 t r = O
 unfold y9 at hO
 generalize gD t s b = T at *
 obtain ⟨lo,hi,op⟩:=r
 simp only at *
 by_cases c:eO ⟨lo,hi,op⟩ = true
 ·rw [if_pos c] at hO
  cases op with
  | true=>
   rw [if_pos rfl] at hO
   subst hO
   refine fi Tryz.func68 Tryz.ntmps68 ?_
   (refine oB h0 h1 h2 h3 h4 ?_;repeat' first|apply ai|refine aj fun hc=>?_)
   refine im ?_ ?_
   ·exact aH rfl rfl
   ·exact ct rfl
  | false=>
   rw [if_neg (by simp)] at hO
   subst hO
   refine fi Tryz.func68 Tryz.ntmps68 ?_
   (refine Hd h0 h1 h2 h3 h4 h5 ?_;repeat' first|apply ai|refine aj fun hc=>?_)
   refine im ?_ ?_
   ·exact aH rfl rfl
   ·exact ct rfl
 ·rw [if_neg c] at hO
  subst hO
  refine fi Tryz.func68 Tryz.ntmps68 ?_
  (refine az h0 ?_;repeat' first|apply ai|refine aj fun hc=>?_)
  refine im ?_ ?_
  ·exact aH rfl rfl
  ·exact ct rfl
theorem C4 (t:Tr) (r:Rg):0 ≤ (y9 t r).2 ∧ (y9 t r).2 < 18446744073709551616:=by
 unfold y9
 simp only [ml]
 split
 ·split <;> constructor <;> (try simp only) <;> omega
 ·decide
theorem BC (t:Tr) (s b:Int) (r:Rg) (hs:t.siz ≤ 1000000) (hw:∀ x ∈ t.lst,x.key.size ≤ 1000000000):Fn Tryz.prog 31 [.per (gD t s b),uy r] (gy (y9 t r).1):=by
 have h1:=C3 t s b r hs hw
 generalize gD t s b = T at *
 obtain ⟨lo,hi,op⟩:=r
 refine fi Tryz.func31 Tryz.ntmps31 ?_
 (refine az h1 ?_;repeat' first|apply ai|refine aj fun hc=>?_)
 refine aU ?_
 exact aH rfl rfl
theorem Jk (t:Tr) (s b:Int) (r:Rg) (hs:t.siz ≤ 1000000) (hw:∀ x ∈ t.lst,x.key.size ≤ 1000000000):Fn Tryz.prog 36 [.per (gD t s b),uy r] (.per (av (.int .u64 (cut (y9 t r).2 b)))):=by
 have h1:=C3 t s b r hs hw
 have h2:=Jf (y9 t r).2 b (C4 t r).1 (C4 t r).2
 unfold gD at *
 obtain ⟨lo,hi,op⟩:=r
 refine fi Tryz.func36 Tryz.ntmps36 ?_
 (refine aL h1 h2 ?_;repeat' first|apply ai|refine aj fun hc=>?_)
 refine aU ?_
 exact ct rfl
theorem Jl (s b:Int):de Tryz.prog 42 [iC .u64 s,iC .i64 b] [] (.ptr 3000 0 0) [(3000,.box 121 [.row 3001 0,iC .u64 s,iC .i64 b]),(3001,.obj (nm .nil))]:=by
 refine eR Tryz.func42 Tryz.ntmps42 ?_
 (refine w0 ?_;repeat' first|apply ai|refine aj fun hc=>?_)
 refine ⟨.inl rfl,dj (Md 8 0 2000 121 (u:=.pointer none) (cells:=[.per (av (.pointer none)),iC .u64 s,iC .i64 b]) rfl rfl rfl rfl) ?_⟩
 refine cc [(8,3000),(2000,3001)] rfl rfl ?_ (uq rfl rfl)
 (repeat (first|exact aW.nil|(refine aW.cons rfl ?_ ?_;(focus first|rfl|skip))))
abbrev M8 (s b:Int):Blk:=.box 121 [.row 2000 0,iC .u64 s,iC .i64 b]
theorem EO (t:Tr) (s b:Int) (x:It) (hx:itR x = true) (hs:t.siz ≤ 900000) (hkx:x.key.size ≤ 1000000000):de Tryz.prog 88 [.ptr 1000 0 0,wV x] [(1000,M8 s b),(2000,.obj (nm t))] (.per (av (.bool true))) [(1000,M8 s b),(2000,.obj (nm (j6 t x (dp s x))))]:=by
 have h1:=ny x
 have h2:=EN s x
 have h3:=Bt t x (dp s x) hs hkx
 refine eR Tryz.func88 Tryz.ntmps88 ?_
 (refine Hc h1 h2 (gj [(2000,2000),(3000,2020)] h3) ?_;repeat' first|apply ai|refine aj fun hc=>?_)
 all_goals
  refine ⟨.inl rfl,cc [(1000,1000),(2020,2000)] rfl rfl ?_ (b0 rfl rfl)⟩
  (repeat (first|exact aW.nil|(refine aW.cons rfl ?_ ?_;(focus first|rfl|skip))))
end
def C5 (x:Ix) (r c:Int):ByteArray:=if j4 x r c then ((x.rows (r - 1).toNat)[f5 (x.rows (r - 1).toNat) c]?.getD (0,⟨#[]⟩)).2 else ⟨#[]⟩
section
theorem Oc (x:Ix) (r c:Int) (hB:pW x 1000000):de Tryz.prog 47 [.ptr 1000 0 0,qF r c] (qw x) (.tup2 (.per (av (.string (C5 x r c)))) (.per (av (.bool (j4 x r c))))) (qw x):=by
 have c1:=yV x r c hB
 unfold C5
 cases hv:j4 x r c with
 | false=>
  rw [hv] at c1
  generalize yU x r c = p at c1
  refine eR Tryz.func47 Tryz.ntmps47 ?_
  (have km1:=(show fv I3 _ _ _ _ _ _ from c1);refine qp ?_;(repeat' first|apply ai|refine aj fun hc=>?_);all_goals clear km1)
  (refine ⟨(by first|exact .inl rfl|exact .inr rfl),oy (I3) rfl rfl ?_ ?_ ?_⟩;(focus (repeat (first|exact aW.nil|(refine aW.cons rfl ?_ ?_;(focus first|rfl|skip))))))
  ·exact vB rfl rfl
  ·exact b0 rfl rfl
 | true=>
  rw [hv] at c1
  have hv2:=hv
  unfold j4 at hv2
  rw [Bool.and_eq_true] at hv2
  have e1:yU x r c = f5 (x.rows (r - 1).toNat) c:=by unfold yU;rw [if_pos hv2.1]
  have hv':=hv2.1
  unfold cC at hv'
  have hv':=of_decide_eq_true hv'
  have hlt:=pY hv2.2
  have hln:=hB.len (r - 1).toNat
  rw [e1] at c1
  rw [if_pos rfl,List.getElem?_eq_getElem hlt]
  show de _ _ _ _ (.tup2 (.per (av (.string (x.rows (r - 1).toNat)[f5 (x.rows (r - 1).toNat) c].2))) _) _
  have kL1:Hid (((x.rows (r - 1).toNat).map li)[f5 (x.rows (r - 1).toNat) c]? = some (li (x.rows (r - 1).toNat)[f5 (x.rows (r - 1).toNat) c])):=Lib.hid (by rw [List.getElem?_map,List.getElem?_eq_getElem hlt];rfl)
  generalize (x.rows (r - 1).toNat)[f5 (x.rows (r - 1).toNat) c] = y at kL1 ⊢
  have hll:f5 (x.rows (r - 1).toNat) c < ((x.rows (r - 1).toNat).map li).length:=by rw [List.length_map];exact hlt
  generalize f5 (x.rows (r - 1).toNat) c = p at c1 kL1 hll ⊢
  clear hv hv2 e1 hB hlt hln
  obtain ⟨j,hj⟩:∃ j,(r - 1).toNat = j:=⟨_,rfl⟩
  rw [hj] at kL1 hll
  rcases sL hv'.1 hv'.2.1 hj with ⟨rfl,rfl⟩|⟨rfl,rfl⟩|⟨rfl,rfl⟩|⟨rfl,rfl⟩|⟨rfl,rfl⟩|⟨rfl,rfl⟩|⟨rfl,rfl⟩|⟨rfl,rfl⟩|⟨rfl,rfl⟩|⟨rfl,rfl⟩|⟨rfl,rfl⟩|⟨rfl,rfl⟩|⟨rfl,rfl⟩|⟨rfl,rfl⟩|⟨rfl,rfl⟩|⟨rfl,rfl⟩
  all_goals
   clear hj hv'
   refine eR Tryz.func47 Tryz.ntmps47 ?_
   (have km1:=(show fv I3 _ _ _ _ _ _ from c1);refine qp ?_;(repeat' first|apply ai|refine aj fun hc=>?_);all_goals clear km1)
   (refine ⟨(by first|exact .inl rfl|exact .inr rfl),oy (I3) rfl rfl ?_ ?_ ?_⟩;(focus (repeat (first|exact aW.nil|(refine aW.cons rfl ?_ ?_;(focus first|rfl|skip))))))
   ·exact vB rfl rfl
   ·exact b0 rfl rfl
theorem Od:de Tryz.prog 43 [] [] (.ptr 3000 0 0) ((3000,.box 130 [.row 3001 0,.row 3002 0,.row 3003 0,.row 3004 0,.row 3005 0,.row 3006 0,.row 3007 0,.row 3008 0,.row 3009 0,.row 3010 0,.row 3011 0,.row 3012 0,.row 3013 0,.row 3014 0,.row 3015 0,.row 3016 0,iC .i64 0]) :: (List.range 16).map fun i=>(3001 + i,bt [])):=by
 refine eR Tryz.func43 Tryz.ntmps43 ?_
 (refine qp ?_;repeat' first|apply ai|refine aj fun hc=>?_)
 refine ⟨.inl rfl,dj (show Le _ _ (ba [(0,.ptr 2 0 0)] [(2,.box 130 (List.replicate 16 (.per (av (.slice none 0 0))) ++ [iC .i64 0]))]) from (by exact ae)) ?_⟩
 refine dj (dM 2 0 2000 130 140 2 rfl rfl) ?_
 refine dj (dM 2 1 2001 130 140 2 rfl rfl) ?_
 refine dj (dM 2 2 2002 130 140 2 rfl rfl) ?_
 refine dj (dM 2 3 2003 130 140 2 rfl rfl) ?_
 refine dj (dM 2 4 2004 130 140 2 rfl rfl) ?_
 refine dj (dM 2 5 2005 130 140 2 rfl rfl) ?_
 refine dj (dM 2 6 2006 130 140 2 rfl rfl) ?_
 refine dj (dM 2 7 2007 130 140 2 rfl rfl) ?_
 refine dj (dM 2 8 2008 130 140 2 rfl rfl) ?_
 refine dj (dM 2 9 2009 130 140 2 rfl rfl) ?_
 refine dj (dM 2 10 2010 130 140 2 rfl rfl) ?_
 refine dj (dM 2 11 2011 130 140 2 rfl rfl) ?_
 refine dj (dM 2 12 2012 130 140 2 rfl rfl) ?_
 refine dj (dM 2 13 2013 130 140 2 rfl rfl) ?_
 refine dj (dM 2 14 2014 130 140 2 rfl rfl) ?_
 refine dj (dM 2 15 2015 130 140 2 rfl rfl) ?_
 refine cc ((2,3000) :: (List.range 16).map fun i=>(2000 + i,3001 + i)) rfl rfl ?_ (uq rfl rfl)
 (repeat (first|exact aW.nil|(refine aW.cons rfl ?_ ?_;(focus first|rfl|skip))))
end
end Go.Proofs.YtliiahjpiagdkaaGreat
namespace Go.Proofs.YtliiahjpiagdkaaGreat
def Tr.pl:Tr → List (It × Int)
 | .nil=>[]
 | .node l x o r=>l.pl ++ (x,o) :: r.pl
theorem jn:∀ t:Tr,t.lst = t.pl.map (·.1)
 | .nil=>rfl
 | .node l x o r=>by
  have h1:=jn l
  have h2:=jn r
  simp only [Tr.lst,Tr.pl,List.map_append,List.map_cons,h1,h2]
theorem qc:∀ t:Tr,t.siz = t.pl.length
 | .nil=>rfl
 | .node l x o r=>by
  have h1:=qc l
  have h2:=qc r
  simp only [Tr.siz,Tr.pl,List.length_append,List.length_cons];omega
theorem sX (t:Tr):(sN t).pl = t.pl:=by
 unfold sN;split <;> simp [Tr.pl]
theorem sY (t:Tr):(sP t).pl = t.pl:=by
 unfold sP;split <;> simp [Tr.pl]
theorem jo (l:Tr) (x:It) (o:Int) (r:Tr):(dF l x o r).pl = l.pl ++ (x,o) :: r.pl:=by
 unfold dF
 split
 ·split
  ·rw [sX];simp [Tr.pl,sY]
  ·rw [sX];rfl
 ·split
  ·split
   ·rw [sY];simp [Tr.pl,sX]
   ·rw [sY];rfl
  ·rfl
def mn (l:List (It × Int)):Prop:=l.Pairwise (fun a b=>a.1.key < b.1.key)
def j9:List (It × Int) → It → Int → List (It × Int)
 | [],x,o=>[(x,o)]
 | y :: l,x,o=>if x.key < y.1.key then (x,o) :: y :: l else if y.1.key < x.key then y :: j9 l x o else (x,o) :: l
theorem EP (a:List (It × Int)) (y:It × Int) (b:List (It × Int)) (x:It) (o:Int) (h:x.key < y.1.key):j9 (a ++ y :: b) x o = j9 a x o ++ y :: b:=by
 induction a with
 | nil=>simp [j9,h]
 | cons z a ih=>
  simp only [List.cons_append,j9,ih]
  split
  ·rfl
  ·split <;> rfl
theorem sZ (a:List (It × Int)) (b:List (It × Int)) (x:It) (o:Int) (h:∀ z ∈ a,z.1.key < x.key):j9 (a ++ b) x o = a ++ j9 b x o:=by
 induction a with
 | nil=>rfl
 | cons z a ih=>
  have h1:=h z (by simp)
  have h2:¬ x.key < z.1.key:=by grind
  simp only [List.cons_append,j9,if_neg h2,if_pos h1,ih (fun u hu=>h u (by simp [hu]))]
theorem za (l:List (It × Int)) (x:It) (o:Int):∀ p ∈ j9 l x o,p = (x,o) ∨ p ∈ l:=by
 induction l with
 | nil=>intro p hp;simp [j9] at hp;exact .inl hp
 | cons y l ih=>
  intro p hp
  unfold j9 at hp
  split at hp
  ·simp at hp;rcases hp with h|h|h <;> simp [h]
  ·split at hp
   ·simp at hp
    rcases hp with h|h
    ·simp [h]
    ·rcases ih p h with h|h <;> simp [h]
   ·simp at hp;rcases hp with h|h <;> simp [h]
theorem Jm (l:List (It × Int)) (x:It) (o:Int) (h:mn l):mn (j9 l x o):=by
 unfold mn at *
 induction l with
 | nil=>simp [j9]
 | cons y l ih=>
  have h1:=List.pairwise_cons.1 h
  unfold j9
  split
  ·rename_i c
   refine List.pairwise_cons.2 ⟨fun z hz=>?_,h⟩
   rcases List.mem_cons.1 hz with rfl|hz
   ·exact c
   ·have:=h1.1 z hz;simp only;grind
  ·split
   ·rename_i c1 c2
    refine List.pairwise_cons.2 ⟨fun z hz=>?_,ih h1.2⟩
    rcases za l x o z hz with rfl|hz
    ·exact c2
    ·exact h1.1 z hz
   ·rename_i c1 c2
    have e:x.key = y.1.key:=by grind
    refine List.pairwise_cons.2 ⟨fun z hz=>?_,h1.2⟩
    have:=h1.1 z hz
    simp only [e];exact this
theorem m4 {l r:List (It × Int)} {y:It × Int} (h:mn (l ++ y :: r)):mn l ∧ mn r ∧ (∀ z ∈ l,z.1.key < y.1.key) ∧ (∀ z ∈ r,y.1.key < z.1.key):=by
 unfold mn at *
 have h1:=List.pairwise_append.1 h
 have h2:=List.pairwise_cons.1 h1.2.1
 exact ⟨h1.1,h2.2,fun z hz=>h1.2.2 z hz y (by simp),h2.1⟩
theorem s8:∀ (t:Tr) (x:It) (o:Int),mn t.pl → (j6 t x o).pl = j9 t.pl x o
 | .nil,x,o,_=>rfl
 | .node l y p r,x,o,h=>by
  rw [Tr.pl] at h
  obtain ⟨hl,hr,hlt,hgt⟩:=m4 h
  have h1:=s8 l x o hl
  have h2:=s8 r x o hr
  rw [j6]
  by_cases c1:bu x.key y.key < 0
  ·rw [if_pos c1,jo,h1,Tr.pl,EP _ _ _ _ _ ((dz _ _).1 c1)]
  ·rw [if_neg c1]
   by_cases c2:bu x.key y.key > 0
   ·have c3:y.key < x.key:=(NG _ _).1 c2
    have c4:¬ x.key < y.key:=by grind
    rw [if_pos c2,jo,h2,Tr.pl,sZ _ _ _ _ (fun z hz=>by have:=hlt z hz;simp only at this;grind)]
    simp only [j9,if_neg c4,if_pos c3]
   ·have c3:x.key = y.key:=(Lv _ _).1 (by omega)
    have c4:¬ x.key < y.key:=by grind
    have c5:¬ y.key < x.key:=by grind
    rw [if_neg c2,jo,Tr.pl,sZ _ _ _ _ (fun z hz=>by have:=hlt z hz;simp only at this;rw [c3];exact this)]
    simp only [j9,if_neg c4,if_neg c5]
theorem Jn:∀ (l:Tr) (x:It) (o:Int) (r:Tr),((I7 l x o r).1,(I7 l x o r).2.1) :: (I7 l x o r).2.2.pl = l.pl ++ (x,o) :: r.pl
 | .nil,x,o,r=>by simp [I7,Tr.pl]
 | .node l y p q,x,o,r=>by
  have h:=Jn l y p q
  rw [I7]
  simp only [jo,Tr.pl,← h,List.cons_append]
theorem rp:∀ (t:Tr) (k:ByteArray),mn t.pl → (uU t k).pl = t.pl.filter (fun p=>decide (p.1.key ≠ k))
 | .nil,_,_=>rfl
 | .node l y p r,k,h=>by
  rw [Tr.pl] at h
  obtain ⟨hl,hr,hlt,hgt⟩:=m4 h
  have h1:=rp l k hl
  have h2:=rp r k hr
  have keepL:∀ (c:¬ k < y.key),¬ (y.key < k ∧ False) → y.key ≤ k → l.pl.filter (fun p=>decide (p.1.key ≠ k)) = l.pl:=fun c _ c'=>List.filter_eq_self.2 fun z hz=>by
   have:=hlt z hz;simp only at this;exact decide_eq_true (by grind)
  have keepR:k ≤ y.key → r.pl.filter (fun p=>decide (p.1.key ≠ k)) = r.pl:=fun c'=>List.filter_eq_self.2 fun z hz=>by
   have:=hgt z hz;simp only at this;exact decide_eq_true (by grind)
  rw [uU.eq_def]
  simp only
  rw [Tr.pl,List.filter_append,List.filter_cons]
  by_cases c1:bu k y.key < 0
  ·have c2:k < y.key:=(dz _ _).1 c1
   rw [if_pos c1,jo,h1,keepR (by grind),if_pos (by simp;grind)]
  ·rw [if_neg c1]
   by_cases c2:bu k y.key > 0
   ·have c3:y.key < k:=(NG _ _).1 c2
    rw [if_pos c2,jo,h2,keepL (by grind) (by simp) (by grind),if_pos (by simp;grind)]
   ·have c3:k = y.key:=(Lv _ _).1 (by omega)
    rw [if_neg c2,keepL (by grind) (by simp) (by grind),keepR (by grind),if_neg (by simp;grind)]
    cases r with
    | nil=>simp [Tr.pl]
    | node rl z q rr=>
     have:=Jn rl z q rr
     simp only [jo,Tr.pl]
     rw [← this]
def ER (l:List (It × Int)):Int:=(l.map (·.2)).sum
theorem wC:∀ t:Tr,t.tot % 18446744073709551616 = ER t.pl % 18446744073709551616 ∧ IntKind.u64.wrap t.tot = t.tot
 | .nil=>⟨rfl,by decide⟩
 | .node l x o r=>by
  have h1:=(wC l).1
  have h2:=(wC r).1
  simp only [Tr.tot,Tr.pl,ER,ml,List.map_append,List.map_cons,List.sum_append,List.sum_cons] at *
  constructor <;> omega
theorem s9:∀ (t:Tr) (k:ByteArray),mn t.pl → (cK t k).1 = (t.pl.filter (fun p=>decide (p.1.key < k))).length ∧ (cK t k).2 % 18446744073709551616 = ER (t.pl.filter (fun p=>decide (p.1.key < k))) % 18446744073709551616
 | .nil,_,_=>⟨rfl,rfl⟩
 | .node l y p r,k,h=>by
  rw [Tr.pl] at h
  obtain ⟨hl,hr,hlt,hgt⟩:=m4 h
  obtain ⟨a1,a2⟩:=s9 l k hl
  obtain ⟨b1,b2⟩:=s9 r k hr
  have t1:=(wC l).1
  rw [cK,Tr.pl,List.filter_append,List.filter_cons]
  by_cases c1:bu y.key k < 0
  ·have c2:y.key < k:=(dz _ _).1 c1
   have e:l.pl.filter (fun p=>decide (p.1.key < k)) = l.pl:=List.filter_eq_self.2 fun z hz=>by
    have:=hlt z hz;simp only at this;exact decide_eq_true (by grind)
   rw [if_pos c1,if_pos (by simpa using c2),e]
   simp only [b1,qc,ER,List.length_append,List.length_cons,List.map_append,List.map_cons,List.sum_append,List.sum_cons] at *
   constructor <;> omega
  ·have c2:¬ y.key < k:=fun q=>c1 ((dz _ _).2 q)
   have e:r.pl.filter (fun p=>decide (p.1.key < k)) = []:=List.filter_eq_nil_iff.2 fun z hz=>by
    have:=hgt z hz;simp only at this;simp only [decide_eq_true_eq];grind
   rw [if_neg c1,if_neg (by simpa using c2),e,List.append_nil]
   exact ⟨a1,a2⟩
theorem qd (a b:ByteArray):a.toList = b.toList ↔ a = b:=⟨fun h=>by rw [fP,fP] at h;exact ByteArray.ext (Array.toList_inj.1 h),fun h=>by rw [h]⟩
abbrev wD (l:List It):Blk:=.row 41 7 (l.map itP)
def wF:List It → It → Bool → List It
 | [],x,d=>if d then [] else [x]
 | y :: l,x,d=>(if d || decide (bu y.key x.key < 0) then [] else [x]) ++ ((if y.key = x.key then [] else [y]) ++ wF l x (d || !decide (bu y.key x.key < 0)))
section
end
end Go.Proofs.YtliiahjpiagdkaaGreat
namespace Go.Proofs.YtliiahjpiagdkaaGreat
open Go.RowKit
section
theorem Pk (l:List It) (r:Rg) (hl:l.length ≤ 1000000) (hk:∀ x ∈ l,x.key.size ≤ 1000000000):Fn Tryz.prog 39 [.per (dC l),uy r] (.per (dC (l.filter (fun x=>aZ r x.key)))):=by
 have h2:∀ s:ByteArray,s.size ≤ 1000000000 → Fn Tryz.prog 71 [uy r,sC s] (cw (aZ r s)):=fun s hs=>mX r s hs
 generalize hT:l.filter (fun x=>aZ r x.key) = T
 generalize hH:(fun s=>aZ r s) = H at *
 have hH':∀ s,aZ r s = H s:=fun s=>by rw [← hH]
 simp only [hH'] at h2 hT
 clear hH hH'
 obtain ⟨lo,hi,op⟩:=r
 refine fi Tryz.func39 Tryz.ntmps39 ?_
 (refine w0 ?_;repeat' first|apply ai|refine aj fun hc=>?_)
 refine bZ (b7 5 600 41 7 rfl rfl) ?_
 refine an (X:=Nat × List It) (fun x=>x.1 ≤ l.length ∧ x.2.length ≤ x.1 ∧ x.2 ++ (l.drop x.1).filter (fun x=>H x.key) = T)
  (fun x=>ba [(0,.per (dC l)),(3,.ptr 3 0 0),(5,.row 600 0),(6,iC .i64 (x.1:Nat))] [(3,.box 50 [sC lo,sC hi,bC op]),(600,wD x.2)]) (fun x=>l.length - x.1) (0,[]) ⟨Nat.zero_le _,Nat.le_refl _,by simpa using hT⟩ ?_ ?_
 ·exact ae
 ·rintro ⟨i,ac⟩ ⟨g1,g0,g2⟩
  simp only at g1 g0 g2 ⊢
  clear hT
  by_cases hlt:i < l.length
  ·have h3:=h2 l[i].key (hk _ (List.getElem_mem hlt))
   rw [List.drop_eq_getElem_cons hlt,List.filter_cons] at g2
   clear h2
   cases hr:H l[i].key with
   | true=>
    rw [hr] at h3 g2
    (refine az h3 ?_;repeat' first|apply ai|refine aj fun hc=>?_)
    refine ⟨(i + 1,ac ++ [l[i]]),⟨hlt,by simp;omega,by simpa using g2⟩,by simp only;omega,ay (aN 600 601) (ay (aN 601 600) ?_)⟩
    exact ae
   | false=>
    rw [hr] at h3 g2
    (refine az h3 ?_;repeat' first|apply ai|refine aj fun hc=>?_)
    refine ⟨(i + 1,ac),⟨hlt,by simp only;omega,by simpa using g2⟩,by simp only;omega,?_⟩
    exact ae
  ·obtain rfl:i = l.length:=by omega
   rw [List.drop_length] at g2
   simp at g2
   subst g2
   clear h2
   (refine w0 ?_;repeat' first|apply ai|refine aj fun hc=>?_)
   refine ⟨.inl rfl,mL (je 600 _ 41 7 rfl rfl) (Ah rfl (ct rfl))⟩
theorem zb (s:Int) (l:List It):0 ≤ qK s l ∧ qK s l < 18446744073709551616:=by
 rcases List.eq_nil_or_concat l with rfl|⟨l',x,rfl⟩
 ·exact ⟨Int.le_refl 0,(by decide:(0:Int) < 18446744073709551616)⟩
 ·rw [List.concat_eq_append,qb]
  exact ⟨mi _,sV _⟩
theorem Oe (l:List It) (r:Rg) (s b:Int) (hl:l.length ≤ 1000000) (hk:∀ x ∈ l,x.key.size ≤ 1000000000):Fn Tryz.prog 17 [.per (dC l),uy r,iC .u64 s,iC .i64 b] (.per (av (.int .u64 (cut (qK s (l.filter (fun x=>aZ r x.key))) b)))):=by
 have h1:=Pk l r hl hk
 generalize l.filter (fun x=>aZ r x.key) = T at *
 have h2:=Jg s T
 have h3:=Mc (qK s T) b (zb s T).1 (zb s T).2
 obtain ⟨lo,hi,op⟩:=r
 refine fi Tryz.func17 Tryz.ntmps17 ?_
 (refine eX h1 h2 h3 ?_;repeat' first|apply ai|refine aj fun hc=>?_)
 refine aU ?_
 exact ct rfl
end
end Go.Proofs.YtliiahjpiagdkaaGreat
namespace Go.Proofs.YtliiahjpiagdkaaGreat
theorem ES (t:Tr) (k:ByteArray) (h:mn t.pl):mn (uU t k).pl:=by
 rw [rp t k h]
 exact List.Pairwise.sublist List.filter_sublist h
theorem Mh (t:Tr) (x:It) (o:Int) (h:mn t.pl):mn (j6 t x o).pl:=by
 rw [s8 t x o h]
 exact Jm _ _ _ h
theorem wG:∀ (t:Tr) (k:ByteArray),mn t.pl → jM t k = t.lst.find? (fun x=>decide (x.key = k))
 | .nil,_,_=>rfl
 | .node l y p r,k,h=>by
  rw [Tr.pl] at h
  obtain ⟨hl,hr,hlt,hgt⟩:=m4 h
  have h1:=wG l k hl
  have h2:=wG r k hr
  rw [jM,Tr.lst,List.find?_append]
  have noL:y.key ≤ k → l.lst.find? (fun x=>decide (x.key = k)) = none:=fun c=>by
   rw [List.find?_eq_none]
   intro x hx
   rw [jn] at hx
   obtain ⟨q,hq,rfl⟩:=List.mem_map.1 hx
   have:=hlt q hq
   simp only at this
   simp only [decide_eq_true_eq]
   grind
  have noR:k < y.key → r.lst.find? (fun x=>decide (x.key = k)) = none:=fun c=>by
   rw [List.find?_eq_none]
   intro x hx
   rw [jn] at hx
   obtain ⟨q,hq,rfl⟩:=List.mem_map.1 hx
   have:=hgt q hq
   simp only at this
   simp only [decide_eq_true_eq]
   grind
  by_cases c1:bu k y.key < 0
  ·have c2:k < y.key:=(dz _ _).1 c1
   rw [if_pos c1,h1,List.find?_cons_of_neg (by simp;grind),noR c2]
   cases l.lst.find? (fun x=>decide (x.key = k)) <;> rfl
  ·rw [if_neg c1]
   by_cases c2:bu k y.key > 0
   ·have c3:y.key < k:=(NG _ _).1 c2
    rw [if_pos c2,h2,noL (by grind),List.find?_cons_of_neg (by simp;grind)]
    rfl
   ·have c3:k = y.key:=(Lv _ _).1 (by omega)
    rw [if_neg c2,noL (by grind),List.find?_cons_of_pos (by simp [c3])]
    rfl
theorem BD:∀ (t:Tr) (i:Nat),i < t.siz → t.lst[i]? = some (Mf t i)
 | .nil,i,h=>by simp [Tr.siz] at h
 | .node l y p r,i,h=>by
  have h1:=BD l i
  have h2:=BD r (i - (l.siz + 1))
  have e:l.lst.length = l.siz:=by rw [jn,List.length_map,qc]
  simp only [Tr.siz] at h
  rw [Mf,Tr.lst]
  split
  ·rw [List.getElem?_append_left (by omega)]
   exact h1 (by assumption)
  ·split
   ·rw [List.getElem?_append_right (by omega),e,show i - l.siz = i - (l.siz + 1) + 1 by omega,List.getElem?_cons_succ]
    exact h2 (by omega)
   ·have:i = l.siz:=by omega
    rw [List.getElem?_append_right (by omega),e,this,Nat.sub_self]
    rfl
structure Dt where
 drop:Bool
 x:It
def Jo (s:Int) (t:Tr) (d:Dt):Tr:=if d.drop then (if N7 t d.x.key then uU t d.x.key else t) else if itR d.x then j6 t d.x (dp s d.x) else t
def qL (s:Int) (t:Tr):Prop:=mn t.pl ∧ ∀ p ∈ t.pl,itR p.1 = true ∧ p.2 = dp s p.1
theorem Jp {s:Int} {t:Tr} (h:qL s t) (d:Dt):qL s (Jo s t d):=by
 unfold Jo
 split
 ·split
  ·refine ⟨ES t _ h.1,fun p hp=>?_⟩
   rw [rp t _ h.1] at hp
   exact h.2 p (List.mem_filter.1 hp).1
  ·exact h
 ·split
  ·rename_i c
   refine ⟨Mh t _ _ h.1,fun p hp=>?_⟩
   rw [s8 t _ _ h.1] at hp
   rcases za _ _ _ p hp with rfl|hp
   ·exact ⟨c,rfl⟩
   ·exact h.2 p hp
  ·exact h
theorem Jq {s:Int} {t:Tr} (h:qL s t):t.pl = t.lst.map (fun x=>(x,dp s x)):=by
 rw [jn,List.map_map]
 refine (List.map_id' _).symm.trans (List.map_congr_left fun p hp=>?_)
 rw [Function.comp,← (h.2 p hp).2]
end Go.Proofs.YtliiahjpiagdkaaGreat
