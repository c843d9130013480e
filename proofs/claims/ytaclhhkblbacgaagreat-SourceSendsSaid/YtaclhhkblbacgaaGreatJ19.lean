/- Texts joined: RnO SoS Cnt RnE. -/
import Derived.Test.YtaclhhkblbacgaaGreatJ18
set_option maxRecDepth 10000
set_option maxHeartbeats 8000000
namespace Go.Proofs.YtaclhhkblbacgaaGreat
open Go.RowKit Go.Proofs.Tryz
def gd (l:List Rn)(n:Int):Prop:=∃r∈l,jk r=true∧r.fr≤n∧n≤r.to
theorem gK (n:Int):¬gd [] n:=fun⟨_,h,_⟩=>by cases h
theorem cw (x:Rn)(l:List Rn)(n:Int):gd (x::l) n↔(jk x=true∧x.fr≤n∧n≤x.to)∨gd l n:=by
 constructor
 ·rintro⟨r,hr,h⟩
  rcases Wp.1 hr with rfl|hr
  ·exact .inl h
  ·exact .inr ⟨r,hr,h⟩
 ·rintro(h|⟨r,hr,h⟩)
  ·exact⟨x,WG,h⟩
  ·exact⟨r,Ww _ hr,h⟩
theorem lW (l m:List Rn)(n:Int):gd (l++m) n↔gd l n∨gd m n:=by
 induction l with
 | nil=>simp[gK]
 | cons x l ih=>rw[List.cons_append,cw,cw,ih,or_assoc]
theorem xS {l m:List Rn}(h:∀r,r∈l↔r∈m)(n:Int):gd l n↔gd m n:=
 ⟨fun⟨r,hr,q⟩=>⟨r,(h r).1 hr,q⟩,fun⟨r,hr,q⟩=>⟨r,(h r).2 hr,q⟩⟩
theorem sG (l:List Rn)(n:Int):gd (l.filter jk) n↔gd l n:=
 ⟨fun⟨r,hr,q⟩=>⟨r,(WZ.1 hr).1,q⟩,fun⟨r,hr,q⟩=>⟨r,WZ.2 ⟨hr,q.1⟩,q⟩⟩
theorem vf {l:List Rn}{n:Int}(h:gd l n):1≤n∧n≤1099511627776:=by
 obtain⟨r,_,h1,h2,h3⟩:=h
 have:=(cD r).1 h1
 omega
theorem xT:dX []:=fun i hi=>by simp at hi
theorem iw (x:Rn)(l:List Rn):dX (x::l)↔jk x=true∧(∀y,l.head?=some y→x.to+2≤y.fr)∧dX l:=by
 constructor
 ·intro h
  refine⟨(h 0 au au).1,fun y hy=>?_,fun i hi hi'=>?_⟩
  ·cases l with
   | nil=>cases hy
   | cons z l=>
    cases hy
    have:=(h 1 au au).2 ab
    simpa using this
  ·have h1:=h (i+1) (by simpa using hi) (by simpa using hi)
   simp only[List.getElem_cons_succ,WD]at h1
   refine⟨h1.1,fun h0=>?_⟩
   have h2:=h1.2 ab
   obtain⟨j,rfl⟩:∃j,i=j+1:=⟨i-1,ab⟩
   simpa using h2
 ·rintro⟨h1,h2,h3⟩ i hi hi'
  cases i with
  | zero=>exact⟨h1,fun q=>absurd q (Nat.lt_irrefl _)⟩
  | succ i=>
   have h4:=h3 i (by simpa using hi) (by simpa using hi)
   simp only[List.getElem_cons_succ,WD]
   refine⟨h4.1,fun _=>?_⟩
   cases i with
   | zero=>
    cases l with
    | nil=>simp at hi
    | cons z l=>exact h2 z rfl
   | succ i=>
    have:=h4.2 ab
    simpa using this
theorem oL {x:Rn}{l:List Rn}(h:dX (x::l)){n:Int}(hn:gd l n):x.to+2≤n:=by
 induction l generalizing x with
 | nil=>exact absurd hn (gK n)
 | cons y l ih=>
  obtain⟨h1,h2,h3⟩:=(iw _ _).1 h
  have h4:=h2 y rfl
  have h5:=(cD y).1 ((iw _ _).1 h3).1
  rcases(cw _ _ _).1 hn with q|q
  ·omega
  ·have:=ih h3 q
   omega
theorem vg:∀{l m:List Rn},dX l→dX m→(∀n,gd l n↔gd m n)→l=m:=by
 intro l
 induction l with
 | nil=>
  intro m _ hm h
  cases m with
  | nil=>rfl
  | cons y m=>
   have hy:=((iw _ _).1 hm).1
   have hy':=(cD y).1 hy
   exact absurd ((h y.fr).2 ((cw _ _ _).2 (.inl ⟨hy,ab,ab⟩))) (gK _)
 | cons x l ih=>
  intro m hl hm h
  obtain⟨hx,_,hl'⟩:=(iw _ _).1 hl
  have hx':=(cD x).1 hx
  cases m with
  | nil=>exact absurd ((h x.fr).1 ((cw _ _ _).2 (.inl ⟨hx,ab,ab⟩))) (gK _)
  | cons y m=>
   obtain⟨hy,_,hm'⟩:=(iw _ _).1 hm
   have hy':=(cD y).1 hy
   have lowl:∀n,gd (x::l) n→x.fr≤n∧(n≤x.to∨x.to+2≤n):=fun n hn=>by
    rcases(cw _ _ _).1 hn with q|q
    ·omega
    ·have:=oL hl q;omega
   have lowm:∀n,gd (y::m) n→y.fr≤n∧(n≤y.to∨y.to+2≤n):=fun n hn=>by
    rcases(cw _ _ _).1 hn with q|q
    ·omega
    ·have:=oL hm q;omega
   have inl:∀n,x.fr≤n→n≤x.to→gd (x::l) n:=fun n a b=>(cw _ _ _).2 (.inl ⟨hx,a,b⟩)
   have inm:∀n,y.fr≤n→n≤y.to→gd (y::m) n:=fun n a b=>(cw _ _ _).2 (.inl ⟨hy,a,b⟩)
   have e1:x.fr=y.fr:=by
    have a:=lowm _ ((h x.fr).1 (inl _ ab ab))
    have b:=lowl _ ((h y.fr).2 (inm _ ab ab))
    omega
   have e2:x.to=y.to:=by
    rcases Int.lt_trichotomy x.to y.to with q|q|q
    ·have:=lowl _ ((h (x.to+1)).2 (inm _ ab ab));omega
    ·exact q
    ·have:=lowm _ ((h (y.to+1)).1 (inl _ ab ab));omega
   have e:x=y:=by cases x;cases y;simp only at e1 e2;rw[e1,e2]
   subst e
   rw[ih hl' hm' (fun n=>?_)]
   constructor
   ·intro q
    have:=oL hl q
    rcases(cw _ _ _).1 ((h n).1 ((cw _ _ _).2 (.inr q)))with z|z
    ·omega
    ·exact z
   ·intro q
    have:=oL hm q
    rcases(cw _ _ _).1 ((h n).2 ((cw _ _ _).2 (.inr q)))with z|z
    ·omega
    ·exact z
def Co:Rn→List Rn→List Rn
 | c,[]=>[c]
 | c,r::l=>if r.fr-c.to<2 then Co ⟨c.fr,max c.to r.to⟩ l else c::Co r l
def lx:List Rn→List Rn
 | []=>[]
 | x::l=>Co x l
theorem Mv:∀(l:List Rn)(c:Rn),∃z t,Co c l=z::t∧z.fr=c.fr:=by
 intro l
 induction l with
 | nil=>intro c;exact⟨c,[],rfl,rfl⟩
 | cons r l ih=>
  intro c
  rw[Co]
  split
  ·obtain⟨z,t,h1,h2⟩:=ih ⟨c.fr,max c.to r.to⟩
   exact⟨z,t,h1,h2⟩
  ·exact⟨c,_,rfl,rfl⟩
def wG (l:List Rn):Prop:=l.Pairwise (fun a b=>a.fr≤b.fr)
theorem SJ:∀(l:List Rn)(c:Rn),wG (c::l)→(∀r∈c::l,jk r=true)→dX (Co c l)∧∀n,gd (Co c l) n↔gd (c::l) n:=by
 intro l
 induction l with
 | nil=>
  intro c _ h
  exact⟨(iw c []).2 ⟨h c au,fun y hy=>by simp at hy,xT⟩,fun n=>Iff.rfl⟩
 | cons r l ih=>
  intro c hs h
  have hc:=h c au
  have hr:=h r au
  have hc':=(cD c).1 hc
  have hr':=(cD r).1 hr
  obtain⟨s1,s2⟩:=List.pairwise_cons.1 hs
  have s3:=s1 r au
  obtain⟨s4,s5⟩:=List.pairwise_cons.1 s2
  rw[Co]
  split
  ·rename_i g
   have hm:jk ⟨c.fr,max c.to r.to⟩=true:=(cD _).2 aA
   have:=ih ⟨c.fr,max c.to r.to⟩ (List.pairwise_cons.2 ⟨fun z hz=>s1 z (Ww _ hz),s5⟩) (fun z hz=>by
    rcases Wp.1 hz with rfl|hz
    ·exact hm
    ·exact h z (by simp[hz]))
   refine⟨this.1,fun n=>?_⟩
   rw[this.2 n,cw,cw,cw]
   simp only[hm,hc,hr,true_and]
   constructor
   ·rintro(q|q)
    ·by_cases z:n≤c.to
     ·exact .inl ⟨q.1,z⟩
     ·exact .inr (.inl ab)
    ·exact .inr (.inr q)
   ·rintro(q|q|q)
    ·exact .inl ab
    ·exact .inl ab
    ·exact .inr q
  ·rename_i g
   have:=ih r s2 (fun z hz=>h z (Ww _ hz))
   obtain⟨z,t,e1,e2⟩:=Mv l r
   refine⟨(iw _ _).2 ⟨hc,fun y hy=>?_,this.1⟩,fun n=>?_⟩
   ·rw[e1]at hy
    cases hy
    omega
   ·rw[cw,this.2 n,cw c]
theorem oM {l:List Rn}(hs:wG l)(h:∀r∈l,jk r=true):dX (lx l)∧∀n,gd (lx l) n↔gd l n:=by
 cases l with
 | nil=>exact⟨xT,fun n=>Iff.rfl⟩
 | cons x l=>exact SJ l x hs h
theorem Qk:∀(l:List Rn)(c:Rn),(Co c l).length≤l.length+1:=by
 intro l
 induction l with
 | nil=>intro c;simp[Co]
 | cons r l ih=>
  intro c
  rw[Co]
  split
  ·have:=ih ⟨c.fr,max c.to r.to⟩;simp;omega
  ·have:=ih r;simp;omega
theorem EL (l:List Rn):(lx l).length≤l.length:=by
 cases l with
 | nil=>exact V8 _
 | cons x l=>exact Qk l x
def sW:List Rn→Rn→List Rn
 | [],x=>[x]
 | y::l,x=>if x.fr≤y.fr then x::y::l else y::sW l x
theorem Cp:∀(l:List Rn)(x r:Rn),r∈sW l x↔r=x∨r∈l:=by
 intro l
 induction l with
 | nil=>intro x r;simp[sW]
 | cons y l ih=>
  intro x r
  rw[sW]
  split
  ·simp
  ·simp only[Wp,ih]
   constructor
   ·rintro(h|h|h)<;>simp[h]
   ·rintro(h|h|h)<;>simp[h]
theorem Mw:∀(l:List Rn)(x:Rn),wG l→wG (sW l x):=by
 intro l
 induction l with
 | nil=>intro x _;simp[sW,wG]
 | cons y l ih=>
  intro x h
  obtain⟨h1,h2⟩:=List.pairwise_cons.1 h
  rw[sW]
  split
  ·rename_i g
   refine List.pairwise_cons.2 ⟨fun z hz=>?_,h⟩
   rcases Wp.1 hz with rfl|hz
   ·exact g
   ·have:=h1 z hz;omega
  ·refine List.pairwise_cons.2 ⟨fun z hz=>?_,ih x h2⟩
   rcases(Cp l x z).1 hz with rfl|hz
   ·omega
   ·exact h1 z hz
theorem Mx:∀(l:List Rn)(x:Rn),(sW l x).length=l.length+1:=by
 intro l
 induction l with
 | nil=>intro x;rfl
 | cons y l ih=>intro x;rw[sW];split<;>simp[ih]
def EM (l:List Rn):List Rn:=l.foldr (fun x a=>sW a x) []
theorem vh:∀(l:List Rn)(r:Rn),r∈EM l↔r∈l:=by
 intro l
 induction l with
 | nil=>intro _;rfl
 | cons x l ih=>intro r;show r∈sW (EM l) x↔_;rw[Cp,ih,Wp]
theorem Cq:∀(l:List Rn),wG (EM l):=by
 intro l
 induction l with
 | nil=>exact XF
 | cons x l ih=>exact Mw _ _ ih
theorem My:∀(l:List Rn),(EM l).length=l.length:=by
 intro l
 induction l with
 | nil=>rfl
 | cons x l ih=>show(sW (EM l) x).length=_;rw[Mx,ih];rfl
def ofR (l:List Rn):List Rn:=lx (EM (l.filter jk))
theorem vi (l:List Rn):dX (ofR l):=(oM (Cq _) (fun _ hr=>(WZ.1 ((vh _ _).1 hr)).2)).1
theorem lf (l:List Rn)(n:Int):gd (ofR l) n↔gd l n:=by
 unfold ofR
 rw[(oM (Cq _) (fun _ hr=>(WZ.1 ((vh _ _).1 hr)).2)).2 n,xS (vh _) n,sG]
theorem zu (l:List Rn):(ofR l).length≤l.length:=by
 have h1:=EL (EM (l.filter jk))
 rw[My]at h1
 exact W7 h1 (WT _ _)
theorem EN {l m:List Rn}(h:dX m)(e:∀n,gd m n↔gd l n):ofR l=m:=
 vg (vi l) h (fun n=>(lf l n).trans (e n).symm)
theorem Mz {l:List Rn}(h:dX l):ofR l=l:=EN h (fun _=>Iff.rfl)
theorem EO {l s:List Rn}(hs:wG s)(h:∀r,r∈s↔r∈l.filter jk):lx s=ofR l:=by
 have:=oM hs (fun r hr=>(WZ.1 ((h r).1 hr)).2)
 refine(EN this.1 (fun n=>?_)).symm
 rw[this.2 n,xS h n,sG]
theorem Cr {l m:List Rn}(h:∀n,gd l n↔gd m n):ofR l=ofR m:=EN (vi m) (fun n=>(lf m n).trans (h n).symm)
end Go.Proofs.YtaclhhkblbacgaaGreat
namespace Go.Proofs.YtaclhhkblbacgaaGreat
open Go.RowKit Go.Shelf Go.Proofs.Tryz
abbrev BT:={s:ByteArray // s.size≤1000000000000}
instance:Inhabited BT:=⟨⟨⟨#[]⟩,bz⟩⟩
def EP (x y:BT):Int:=cP x.1 y.1
theorem Ct:Sort.SWO (ltOf EP) where
 irrefl x:=by unfold ltOf EP;rw[ve];rfl
 trans x y z h1 h2:=by
  unfold ltOf EP at *
  rw[Wn,i7]at *
  grind
 ntrans x y z h1 h2:=by
  unfold ltOf EP at *
  rw[Wt,i7]at *
  grind
def pl (l:List ByteArray):List ByteArray:=if h:∀s∈l,s.size≤1000000000000 then(kN EP (l.pmap Subtype.mk h)).map Subtype.val else l
theorem vj {l:List ByteArray}(h:∀s∈l,s.size≤1000000000000):(pl l).Perm l∧(pl l).Pairwise (fun x y=>¬y<x):=by
 unfold pl
 rw[dif_pos h]
 obtain⟨h1,h2⟩:=jw Ct (l.pmap Subtype.mk h)
 refine⟨?_,?_⟩
 ·have:=h1.map Subtype.val
  rwa [List.map_pmap,List.pmap_eq_map,List.map_id']at this
 ·rw[List.pairwise_map]
  refine h2.imp fun {x y} q=>?_
  unfold ltOf EP at q
  rw[Wt,i7]at q
  exact q
abbrev BRn:={r:Rn // jk r=true}
instance:Inhabited BRn:=⟨⟨⟨1,1⟩,bz⟩⟩
def vk (x y:BRn):Int:=x.1.fr-y.1.fr
theorem xU:Sort.SWO (ltOf vk) where
 irrefl x:=by unfold ltOf vk;simp
 trans x y z h1 h2:=by unfold ltOf vk at *;simp at *;omega
 ntrans x y z h1 h2:=by unfold ltOf vk at *;simp at *;omega
def mS (l:List Rn):List Rn:=if h:∀r∈l,jk r=true then(kN vk (l.pmap Subtype.mk h)).map Subtype.val else l
theorem Cu {l:List Rn}(h:∀r∈l,jk r=true):(mS l).Perm l∧wG (mS l):=by
 unfold mS wG
 rw[dif_pos h]
 obtain⟨h1,h2⟩:=jw xU (l.pmap Subtype.mk h)
 refine⟨?_,?_⟩
 ·have:=h1.map Subtype.val
  rwa [List.map_pmap,List.pmap_eq_map,List.map_id']at this
 ·rw[List.pairwise_map]
  refine h2.imp fun {x y} q=>?_
  unfold ltOf vk at q
  simp at q
  omega
theorem vm {F : FuncId} {fn : Func} (h : prog.funcs[F]? = some fn) (h1 : (fn.name == "runtime.NumGoroutine") = false) (h2 : fn.body.isNone = false) : Rr prog F := ⟨fn, h, h1, h2⟩
def so_str_ren:Go.Shelf.Ren:=⟨fun|6=>227|14=>257|15=>256|20=>289|21=>290|22=>291|23=>292|24=>293|25=>294|26=>295|27=>296|28=>287|29=>288|46=>326|47=>322|48=>323|49=>327|50=>328|57=>341|n=>n,fun|0=>0|3=>3|4=>4|5=>5|9=>9|22=>217|24=>9|25=>223|39=>311|45=>346|46=>347|50=>351|53=>158|55=>30|66=>375|70=>378|76=>393|77=>394|n=>n,fun n=>n⟩
theorem SK:SlLaysF.n6 prog so_str_ren:={ mixed:=by kernel_rfl,f6:=⟨Tryz.f227.name,bz,func227.trans (Wx some (by kernel_rfl))⟩,f14:=⟨Tryz.f257.name,bz,func257.trans (Wx some (by kernel_rfl))⟩,f15:=func256.trans (Wx some (by kernel_rfl)),f20:=⟨Tryz.f289.name,bz,func289.trans (Wx some (by kernel_rfl))⟩,f21:=⟨Tryz.f290.name,bz,func290.trans (Wx some (by kernel_rfl))⟩,f22:=⟨Tryz.f291.name,bz,func291.trans (Wx some (by kernel_rfl))⟩,f23:=⟨Tryz.f292.name,bz,func292.trans (Wx some (by kernel_rfl))⟩,f24:=⟨Tryz.f293.name,bz,func293.trans (Wx some (by kernel_rfl))⟩,f25:=⟨Tryz.f294.name,bz,func294.trans (Wx some (by kernel_rfl))⟩,f26:=⟨Tryz.f295.name,bz,func295.trans (Wx some (by kernel_rfl))⟩,f27:=⟨Tryz.f296.name,bz,func296.trans (Wx some (by kernel_rfl))⟩,f28:=func287.trans (Wx some (by kernel_rfl)),f29:=func288.trans (Wx some (by kernel_rfl)),f46:=⟨Tryz.f326.name,bz,func326.trans (Wx some (by kernel_rfl))⟩,f47:=func322.trans (Wx some (by kernel_rfl)),f48:=func323.trans (Wx some (by kernel_rfl)),f49:=⟨Tryz.f327.name,bz,func327.trans (Wx some (by kernel_rfl))⟩,f50:=⟨Tryz.f328.name,bz,func328.trans (Wx some (by kernel_rfl))⟩,f57:=⟨Tryz.f341.name,bz,func341.trans (Wx some (by kernel_rfl))⟩,t0:=underlying0,a0:=Tryz.isAgg0,z0:=Tryz.sizeOf0,v0:=Tryz.zeroValue0,t3:=underlying3,a3:=Tryz.isAgg3,z3:=Tryz.sizeOf3,v3:=Tryz.zeroValue3,t4:=underlying4,a4:=Tryz.isAgg4,z4:=Tryz.sizeOf4,v4:=Tryz.zeroValue4,t5:=underlying5,a5:=Tryz.isAgg5,z5:=Tryz.sizeOf5,v5:=Tryz.zeroValue5,t9:=underlying9,a9:=Tryz.isAgg9,z9:=Tryz.sizeOf9,v9:=Tryz.zeroValue9,t22:=underlying217,a22:=Tryz.isAgg217,z22:=Tryz.sizeOf217,v22:=Tryz.zeroValue217,t25:=underlying223,a25:=Tryz.isAgg223,z25:=Tryz.sizeOf223,v25:=Tryz.zeroValue223,t39:=underlying311,a39:=Tryz.isAgg311,z39:=Tryz.sizeOf311,v39:=Tryz.zeroValue311,t45:=underlying346,a45:=Tryz.isAgg346,z45:=Tryz.sizeOf346,v45:=Tryz.zeroValue346,t46:=underlying347,a46:=Tryz.isAgg347,z46:=Tryz.sizeOf347,v46:=Tryz.zeroValue347,t50:=underlying351,a50:=Tryz.isAgg351,z50:=Tryz.sizeOf351,v50:=Tryz.zeroValue351,t53:=underlying158,a53:=Tryz.isAgg158,z53:=Tryz.sizeOf158,v53:=Tryz.zeroValue158,t55:=underlying30,a55:=Tryz.isAgg30,z55:=Tryz.sizeOf30,v55:=Tryz.zeroValue30,t66:=underlying375,a66:=Tryz.isAgg375,z66:=Tryz.sizeOf375,v66:=Tryz.zeroValue375,t70:=underlying378,a70:=Tryz.isAgg378,z70:=Tryz.sizeOf378,v70:=Tryz.zeroValue378,t76:=underlying393,a76:=Tryz.isAgg393,z76:=Tryz.sizeOf393,v76:=Tryz.zeroValue393,t77:=underlying394,a77:=Tryz.isAgg394,z77:=Tryz.sizeOf394,v77:=Tryz.zeroValue394,a24:=Tryz.isAgg9,z24:=Tryz.sizeOf9 }
theorem MA (l:List ByteArray)(h:∀s∈l,s.size≤1000000000000)(hl:l.length≤1000000000) :
 dh prog 227 [.row 1000 0,.per (ak (.func (.func 146) #[] #[]))] [(1000,.row 9 1 (l.map strP))] .any [(1000,.row 9 1 ((pl l).map strP))]:=by
 have:=IJ (e:=9) (G:=146) SK (enc:=fun x:BT=>Value.string x.1) (fun _=>rfl) Ct (enters_of func146 (by kernel_rfl) rfl)
  (fun x y w=>Cm x.1 y.1 x.2 w) (vm func227 (by kernel_rfl) (by kernel_rfl)) (l.pmap Subtype.mk h) (by rw[List.length_pmap];omega)
 have e1:(l.pmap Subtype.mk h).map (fv fun x:BT=>[Value.string x.1])=l.map strP:=by rw[List.map_pmap];exact List.pmap_eq_map (f:=strP) h
 have e2:(kN EP (l.pmap Subtype.mk h)).map (fv fun x:BT=>[Value.string x.1])=(pl l).map strP:=by unfold pl;rw[dif_pos h,List.map_map];rfl
 rw[e1,e2]at this
 exact this
def so_run_ren:Go.Shelf.Ren:=⟨fun|6=>297|14=>329|15=>256|20=>342|21=>343|22=>344|23=>345|24=>346|25=>347|26=>348|27=>349|28=>287|29=>288|46=>354|47=>322|48=>323|49=>355|50=>356|57=>361|n=>n,fun|0=>0|3=>3|4=>4|5=>5|9=>9|22=>140|24=>144|25=>361|39=>311|45=>346|46=>347|50=>351|53=>158|55=>30|66=>375|70=>378|76=>393|77=>394|n=>n,fun n=>n⟩
theorem SL:SlLaysF0.n6 prog so_run_ren:={ mixed:=by kernel_rfl,f6:=⟨Tryz.f297.name,bz,func297.trans (Wx some (by kernel_rfl))⟩,f14:=⟨Tryz.f329.name,bz,func329.trans (Wx some (by kernel_rfl))⟩,f15:=func256.trans (Wx some (by kernel_rfl)),f20:=⟨Tryz.f342.name,bz,func342.trans (Wx some (by kernel_rfl))⟩,f21:=⟨Tryz.f343.name,bz,func343.trans (Wx some (by kernel_rfl))⟩,f22:=⟨Tryz.f344.name,bz,func344.trans (Wx some (by kernel_rfl))⟩,f23:=⟨Tryz.f345.name,bz,func345.trans (Wx some (by kernel_rfl))⟩,f24:=⟨Tryz.f346.name,bz,func346.trans (Wx some (by kernel_rfl))⟩,f25:=⟨Tryz.f347.name,bz,func347.trans (Wx some (by kernel_rfl))⟩,f26:=⟨Tryz.f348.name,bz,func348.trans (Wx some (by kernel_rfl))⟩,f27:=⟨Tryz.f349.name,bz,func349.trans (Wx some (by kernel_rfl))⟩,f28:=func287.trans (Wx some (by kernel_rfl)),f29:=func288.trans (Wx some (by kernel_rfl)),f46:=⟨Tryz.f354.name,bz,func354.trans (Wx some (by kernel_rfl))⟩,f47:=func322.trans (Wx some (by kernel_rfl)),f48:=func323.trans (Wx some (by kernel_rfl)),f49:=⟨Tryz.f355.name,bz,func355.trans (Wx some (by kernel_rfl))⟩,f50:=⟨Tryz.f356.name,bz,func356.trans (Wx some (by kernel_rfl))⟩,f57:=⟨Tryz.f361.name,bz,func361.trans (Wx some (by kernel_rfl))⟩,t0:=underlying0,a0:=Tryz.isAgg0,z0:=Tryz.sizeOf0,v0:=Tryz.zeroValue0,t3:=underlying3,a3:=Tryz.isAgg3,z3:=Tryz.sizeOf3,v3:=Tryz.zeroValue3,t4:=underlying4,a4:=Tryz.isAgg4,z4:=Tryz.sizeOf4,v4:=Tryz.zeroValue4,t5:=underlying5,a5:=Tryz.isAgg5,z5:=Tryz.sizeOf5,v5:=Tryz.zeroValue5,t9:=underlying9,a9:=Tryz.isAgg9,z9:=Tryz.sizeOf9,v9:=Tryz.zeroValue9,t22:=underlying140,a22:=Tryz.isAgg140,z22:=Tryz.sizeOf140,v22:=Tryz.zeroValue140,t25:=underlying361,a25:=Tryz.isAgg361,z25:=Tryz.sizeOf361,v25:=Tryz.zeroValue361,t39:=underlying311,a39:=Tryz.isAgg311,z39:=Tryz.sizeOf311,v39:=Tryz.zeroValue311,t45:=underlying346,a45:=Tryz.isAgg346,z45:=Tryz.sizeOf346,v45:=Tryz.zeroValue346,t46:=underlying347,a46:=Tryz.isAgg347,z46:=Tryz.sizeOf347,v46:=Tryz.zeroValue347,t50:=underlying351,a50:=Tryz.isAgg351,z50:=Tryz.sizeOf351,v50:=Tryz.zeroValue351,t53:=underlying158,a53:=Tryz.isAgg158,z53:=Tryz.sizeOf158,v53:=Tryz.zeroValue158,t55:=underlying30,a55:=Tryz.isAgg30,z55:=Tryz.sizeOf30,v55:=Tryz.zeroValue30,t66:=underlying375,a66:=Tryz.isAgg375,z66:=Tryz.sizeOf375,v66:=Tryz.zeroValue375,t70:=underlying378,a70:=Tryz.isAgg378,z70:=Tryz.sizeOf378,v70:=Tryz.zeroValue378,t76:=underlying393,a76:=Tryz.isAgg393,z76:=Tryz.sizeOf393,v76:=Tryz.zeroValue393,t77:=underlying394,a77:=Tryz.isAgg394,z77:=Tryz.sizeOf394,v77:=Tryz.zeroValue394 }
theorem MB (x y:Rn)(hx:jk x=true)(hy:jk y=true)(w:World) :
 Calls prog 298 #[.agg #[.int .i64 x.fr,.int .i64 x.to],.agg #[.int .i64 y.fr,.int .i64 y.to]] w fun e w'=>e=.returned (.int .i64 (x.fr-y.fr))∧Gw w w':=by
 have h1:=(cD x).1 hx
 have h2:=(cD y).1 hy
 go_enter func298,ntmps298
 go_wp2
 go_ret
 exact⟨rfl,((Gw.refl w).alloc _).alloc _⟩
theorem MC (l:List Rn)(h:∀r∈l,jk r=true)(hl:l.length≤1000000000) :
 dh prog 297 [.row 1000 0,.per (ak (.func (.func 298) #[] #[]))] [(1000,.row 144 2 (l.map rnP))] .any [(1000,.row 144 2 ((mS l).map rnP))]:=by
 have:=rQ (e:=144) (k:=2) (G:=298) SL Tryz.isAgg144 Tryz.sizeOf144 (enc:=fun x:BRn=>encRn x.1) ⟨bz,fun _=>rfl,fun x=>B1.one x.1⟩ xU (enters_of func298 (by kernel_rfl) rfl)
  (fun x y w=>MB x.1 y.1 x.2 y.2 w) (vm func297 (by kernel_rfl) (by kernel_rfl)) (l.pmap Subtype.mk h) (by rw[List.length_pmap];omega)
 have e1:(l.pmap Subtype.mk h).map (fv fun x:BRn=>encRn x.1)=l.map rnP:=by rw[List.map_pmap];exact List.pmap_eq_map (f:=rnP) h
 have e2:(kN vk (l.pmap Subtype.mk h)).map (fv fun x:BRn=>encRn x.1)=(mS l).map rnP:=by unfold mS;rw[dif_pos h,List.map_map];rfl
 rw[e1,e2]at this
 exact this
theorem jC {α:Type}(A:List α)(x y:α)(T:List α)(j:Nat)(hj:j=A.length):(A++x::T).set j y=A++y::T:=by
 subst hj;simp
theorem Gv {α:Type}(l:List α):l=[]∨∃(l':List α)(y:α),l=l'++[y]:=by
 rcases List.eq_nil_or_concat l with h|⟨a,y,h⟩
 ·exact .inl h
 ·exact .inr ⟨a,y,by rw[h];simp⟩
theorem ia {α β:Type}(f:α→β)(l:List α)(j:Nat)(y:α):(l.map f).set j (f y)=(l.set j y).map f:=by rw[List.map_set]
section
variable {P:Program} {n t:Nat} {ops:Array Oper} {o:Oper} {S:St}
theorem tF {ty ty':TypeId}{x y:Operand}{k:IntKind}{u v z:Int}(hp:Pl n o t)(ho:o.op=.call { callee:=.builtin .max,args:=#[x,y],argTypes:=#[ty,ty'] })(hx:S.opd x=iC k u)(hy:S.opd y=iC k v)(hz:(if v>u then v else u)=z):aw n P ops o (az x++az y) (iC k z) [] S:=
 hz▸KI hp ho hx hy
end
abbrev Gx (l:List Rn):Ret:=.own 144 2 (l.map rnP)
abbrev MD (l:List Rn):Blk:=.row 144 2 (l.map rnP)
theorem MF (l:List Rn)(hl:l.length≤1000000000):Fn prog 258 [gQ l] (Gx (ofR l)):=by
 by_cases hok:dX l
 ·rw[Mz hok]
  exact xK l hl hok
 have h0:=rK l hl false (by simp[hok])
 generalize hT:l.filter jk=T at *
 have hTr:∀x∈T,jk x=true:=fun x hx=>by rw[←hT]at hx;exact(WZ.1 hx).2
 have hTl:T.length≤1000000000:=by rw[←hT];exact W7 (WT _ _) hl
 have hs:=MC T hTr hTl
 obtain⟨hp,hsr⟩:=Cu hTr
 have hR:=EO (l:=l) hsr (fun r=>by rw[hp.mem_iff,hT])
 have hQr:∀x∈mS T,jk x=true:=fun x hx=>hTr x (hp.mem_iff.1 hx)
 have hQl:(mS T).length=T.length:=hp.length_eq
 rw[←hR]
 generalize mS T=Q at *
 generalize hRR:lx Q=R
 clear hR hp hsr hok
 refine fi func258 ntmps258 ?_
 (refine aq h0 ?_;repeat' first|apply ah|refine ai fun hc=>?_)
 refine bQ (bU 3 600 144 2 rfl rfl) ?_
 refine aj (X:=Nat×List Rn) (fun x=>x.1≤l.length∧x.2++(l.drop x.1).filter jk=T)
  (fun x=>ay [(3,.row 600 0),(14,gQ l),(15,iC .i64 (l.length:Nat)),(16,iC .i64 (x.1:Nat))] [(600,MD x.2)]) (fun x=>l.length-x.1) (0,[]) ⟨Wa _,by simp[hT]⟩ ?_
 rintro⟨k,ac⟩ ⟨g1,g2⟩
 simp only at g1 g2 ⊢
 by_cases hk:k<l.length
 ·have hir:=zj l[k]
  have hlen:ac.length≤1000000000:=by
   have:=Wx List.length g2
   simp only[V5]at this;omega
  rw[List.drop_eq_getElem_cons hk,List.filter_cons]at g2
  cases hr:jk l[k]with
  | false=>
   rw[hr]at hir g2
   clear hTr hQr hs
   (refine aq hir ?_;repeat' first|apply ah|refine ai fun hc=>?_)
   refine⟨(k+1,ac),⟨aA,by simpa using g2⟩,aA,?_⟩
   exact ae
  | true=>
   rw[hr]at hir g2
   clear hTr hQr hs
   (refine aq hir ?_;repeat' first|apply ah|refine ai fun hc=>?_)
   refine⟨(k+1,ac++[l[k]]),⟨aA,by simpa using g2⟩,aA,av (aN 600 601) (av (aN 601 600) ?_)⟩
   exact ae
 ·have hkl:k=l.length:=ab
  subst hkl
  rw[Xk]at g2
  simp at g2
  subst g2
  (refine fP (xi [(1000,600)] hs) ?_;repeat' first|apply ah|refine ai fun hc=>?_)
  clear hs hTr hT
  refine bQ (bU 6 700 144 2 rfl rfl) ?_
  refine aj (X:=Nat×List Rn) (fun x=>x.1≤Q.length∧x.2.length≤x.1∧((x.2=[]∧x.1=0)∨∃o y,x.2=o++[y]∧jk y=true∧o++Co y (Q.drop x.1)=R))
   (fun x=>ay [(6,.row 700 0),(29,.row 600 0),(30,iC .i64 (Q.length:Nat)),(31,iC .i64 (x.1:Nat))] [(600,MD Q),(700,MD x.2)]) (fun x=>Q.length-x.1) (0,[]) ⟨Wa _,V8 _,.inl ⟨rfl,rfl⟩⟩ ?_
  rintro⟨k,out⟩ ⟨g1,g0,g2⟩
  simp only at g1 g0 g2 ⊢
  by_cases hk:k<Q.length
  ·have hxr:=hQr _ (Wk hk)
   have hdr:=List.drop_eq_getElem_cons hk
   generalize hx:Q[k]=x at *
   have HQ:(Q.map rnP)[k]?=some (rnP x):=by rw[List.getElem?_map,V4 hk,hx];rfl
   have hxi:=(cD x).1 hxr
   clear hQr
   rcases g2 with⟨rfl,rfl⟩|⟨o,y,rfl,hyr,g2⟩
   ·have g4:[]++Co x (Q.drop 1)=R:=by
     rw[Xw]at hdr
     rw[←hRR,hdr];rfl
    (refine w0 ?_;repeat' first|apply ah|refine ai fun hc=>?_|((first|apply aB rfl|apply aC rfl|apply aD rfl|apply aF rfl);(focus ((try (apply bI;(focus rfl);apply ag rfl rfl rfl rfl rfl));first|((apply aZ 5;(focus rfl);exact ax ⟨rfl,rfl,rfl⟩ rfl inferInstance inferInstance rfl rfl rfl HQ rfl rfl rfl))));refine w0 ?_))
    refine⟨(1,[x]),⟨aA,V8 _,.inr ⟨[],x,rfl,hxr,g4⟩⟩,aA,av (aN 700 701) (av (aN 701 700) ?_)⟩
    exact ae
   ·have hyi:=(cD y).1 hyr
    rw[hdr,Co]at g2
    have hL1:(o++[y]).length=o.length+1:=au
    have hM:(if x.to>y.to then x.to else y.to)=max y.to x.to:=ab
    have hmr:jk ⟨y.fr,max y.to x.to⟩=true:=(cD _).2 aA
    generalize max y.to x.to=M at *
    generalize hL:o++[y]=L at *
    have hLi:((L.length:Int)-1).toNat=o.length:=ab
    have HY:(L.map rnP)[((L.length:Int)-1).toNat]?=some (rnP y):=by
     rw[List.getElem?_map,hLi,←hL]
     simp
    have HS1:(L.map rnP).set ((L.length:Int)-1).toNat (cH (rnP y) 1 [ak (.int .i64 M)])=(o++[(⟨y.fr,M⟩:Rn)]).map rnP:=by
     rw[show(L.map rnP).set ((L.length:Int)-1).toNat (cH (rnP y) 1 [ak (.int .i64 M)])=(L.set ((L.length:Int)-1).toNat ⟨y.fr,M⟩).map rnP from ia rnP L _ (⟨y.fr,M⟩:Rn),←hL,jC o y _ [] _ (by rw[hL];omega)]
    have hML:(o++[(⟨y.fr,M⟩:Rn)]).length=L.length:=by rw[←hL];simp
    by_cases c:x.fr-y.to<2
    ·rw[V6 c]at g2
     (repeat' (first|refine ck ?_|refine bi ?_|refine bA ?_|refine bB ?_|refine cn ?_|refine aU ?_|refine bV cI ?_|refine ci ?_|refine cj (by kernel_rfl) ?_|(refine dL rfl rfl ⟨fun hc=>?_,fun hc=>?_⟩<;>(repeat rw[V7]at hc)<;>(try exact ce hc))|((first|apply aB rfl|apply aC rfl|apply aD rfl|apply aF rfl);focus (first|((apply aZ 19;(focus rfl);exact tF ⟨rfl,rfl,rfl⟩ rfl rfl rfl hM))|(apply bI;(focus rfl);apply ag rfl rfl rfl rfl rfl;((apply aZ 19;(focus rfl);exact tF ⟨rfl,rfl,rfl⟩ rfl rfl rfl hM)))|exact cz|((apply aZ 5;(focus rfl);first|exact bR ⟨rfl,rfl,rfl⟩ rfl inferInstance rfl rfl rfl HY rfl|exact ax ⟨rfl,rfl,rfl⟩ rfl inferInstance inferInstance rfl rfl rfl HQ rfl rfl rfl))|(apply bI;(focus rfl);apply ag rfl rfl rfl rfl rfl;((apply aZ 5;(focus rfl);first|exact bR ⟨rfl,rfl,rfl⟩ rfl inferInstance rfl rfl rfl HY rfl|exact ax ⟨rfl,rfl,rfl⟩ rfl inferInstance inferInstance rfl rfl rfl HQ rfl rfl rfl)))|((apply aZ 6;(focus rfl);exact aM ⟨rfl,rfl⟩ rfl inferInstance rfl rfl rfl rfl HY rfl (aY rfl rfl rfl) rfl HS1))|(apply bI;(focus rfl);apply ag rfl rfl rfl rfl rfl;((apply aZ 6;(focus rfl);exact aM ⟨rfl,rfl⟩ rfl inferInstance rfl rfl rfl rfl HY rfl (aY rfl rfl rfl) rfl HS1)))|fail))|refine bD ?_|refine bF ?_|refine bG ?_|refine de ?_|refine dg ?_|refine bH ?_|refine bj rfl ?_|((first|refine dM rfl rfl rfl ⟨fun hc=>?_,fun hc=>?_⟩|refine dN rfl rfl rfl ⟨fun hc=>?_,fun hc=>?_⟩)<;>(fail_if_success (have q:(true=true):=hc))<;>(fail_if_success (have q:(false=false):=hc))<;>(repeat rw[V7]at hc)<;>(try exact ce hc))|refine aH rfl rfl (fun hc=>?_) ?_))
     refine⟨(k+1,_),⟨aA,aA,.inr ⟨o,_,rfl,hmr,g2⟩⟩,aA,?_⟩
     exact ae
    ·rw[V3 c]at g2
     (refine w0 ?_;repeat' first|apply ah|refine ai fun hc=>?_|((first|apply aB rfl|apply aC rfl|apply aD rfl|apply aF rfl);(focus ((try (apply bI;(focus rfl);apply ag rfl rfl rfl rfl rfl));first|((apply aZ 5;(focus rfl);first|exact bR ⟨rfl,rfl,rfl⟩ rfl inferInstance rfl rfl rfl HY rfl|exact ax ⟨rfl,rfl,rfl⟩ rfl inferInstance inferInstance rfl rfl rfl HQ rfl rfl rfl))));refine w0 ?_))
     refine⟨(k+1,L++[x]),⟨aA,bn,.inr ⟨L,x,rfl,hxr,by simp only;rw[←hL,V9];exact g2⟩⟩,aA,av (aN 700 701) (av (aN 701 700) ?_)⟩
     exact ae
  ·have hkl:k=Q.length:=ab
   subst hkl
   have g3:out=R:=by
    rcases g2 with⟨a,b⟩|⟨o,y,a,_,b⟩
    ·rw[a,←hRR,Wf b];rfl
    ·rw[Xk]at b
     rw[a,←b];rfl
   clear g2 hRR hQr
   (refine w0 ?_;repeat' first|apply ah|refine ai fun hc=>?_)
   refine dw ?_
   exact cJ rfl rfl rfl g3
end Go.Proofs.YtaclhhkblbacgaaGreat
namespace Go.Proofs.YtaclhhkblbacgaaGreat
open Go.RowKit Go.Proofs.Tryz
def dR (l:List Rn)(n:Int):Bool:=l.any fun r=>jk r&&(decide (r.fr≤n)&&decide (n≤r.to))
theorem jx (l:List Rn)(n:Int):dR l n=true↔gd l n:=by
 unfold dR gd
 rw[Xc]
 simp
def jg:List Int→Int→List Int
 | [],n=>[n]
 | x::l,n=>if x<n then x::jg l n else if x=n then x::l else n::x::l
theorem vn:∀(l:List Int)(n m:Int),m∈jg l n↔m=n∨m∈l:=by
 intro l
 induction l with
 | nil=>intro n m;simp[jg]
 | cons x l ih=>
  intro n m
  rw[jg]
  split
  ·simp only[Wp,ih]
   constructor
   ·rintro(h|h|h)<;>simp[h]
   ·rintro(h|h|h)<;>simp[h]
  ·split
   ·rename_i e
    subst e
    simp
   ·simp
abbrev MG (l:List Int):Prop:=l.Pairwise (·<·)
theorem Gy:∀(l:List Int)(n:Int),MG l→MG (jg l n):=by
 intro l
 induction l with
 | nil=>intro n _;simp[jg]
 | cons x l ih=>
  intro n h
  obtain⟨h1,h2⟩:=List.pairwise_cons.1 h
  rw[jg]
  split
  ·rename_i c
   refine List.pairwise_cons.2 ⟨fun z hz=>?_,ih n h2⟩
   rcases(vn _ _ _).1 hz with rfl|hz
   ·exact c
   ·exact h1 z hz
  ·split
   ·exact h
   ·refine List.pairwise_cons.2 ⟨fun z hz=>?_,h⟩
    rcases Wp.1 hz with rfl|hz
    ·omega
    ·have:=h1 z hz;omega
def qB (e:List Int)(r:Rn):List Int:=if jk r then jg (jg e r.fr) (r.to+1)else e
def f0 (e:List Int)(l:List Rn):List Int:=l.foldl qB e
theorem Ql {e:List Int}{r:Rn}(h:MG e):MG (qB e r):=by
 unfold qB;split
 ·exact Gy _ _ (Gy _ _ h)
 ·exact h
theorem tG:∀(l:List Rn)(e:List Int),MG e→MG (f0 e l):=by
 intro l
 induction l with
 | nil=>intro e h;exact h
 | cons r l ih=>intro e h;exact ih _ (Ql h)
theorem Cv:∀(l:List Rn)(e:List Int)(m:Int),m∈f0 e l↔m∈e∨∃r∈l,jk r=true∧(m=r.fr∨m=r.to+1):=by
 intro l
 induction l with
 | nil=>intro e m;simp[f0]
 | cons r l ih=>
  intro e m
  show m∈f0 (qB e r) l↔_
  rw[ih]
  unfold qB
  by_cases c:jk r=true
  ·rw[V6 c,vn,vn]
   constructor
   ·rintro((h|h|h)|⟨x,hx,h⟩)
    ·exact .inr ⟨r,au,c,.inr h⟩
    ·exact .inr ⟨r,au,c,.inl h⟩
    ·exact .inl h
    ·exact .inr ⟨x,by simp[hx],h⟩
   ·rintro(h|⟨x,hx,h⟩)
    ·exact .inl (.inr (.inr h))
    ·rcases Wp.1 hx with rfl|hx
     ·rcases h.2 with h|h
      ·exact .inl (.inr (.inl h))
      ·exact .inl (.inl h)
     ·exact .inr ⟨x,hx,h⟩
  ·rw[V3 c]
   constructor
   ·rintro(h|⟨x,hx,h⟩)
    ·exact .inl h
    ·exact .inr ⟨x,by simp[hx],h⟩
   ·rintro(h|⟨x,hx,h⟩)
    ·exact .inl h
    ·rcases Wp.1 hx with rfl|hx
     ·exact absurd h.1 c
     ·exact .inr ⟨x,hx,h⟩
theorem qC:∀(l:List Rn)(e:List Int),(f0 e l).length≤e.length+2*l.length:=by
 have h1:∀(l:List Int)(n:Int),(jg l n).length≤l.length+1:=by
  intro l
  induction l with
  | nil=>intro n;simp[jg]
  | cons x l ih=>
   intro n
   rw[jg]
   split
   ·have:=ih n;simp;omega
   ·split<;>simp
 intro l
 induction l with
 | nil=>intro e;simp[f0]
 | cons r l ih=>
  intro e
  show(f0 (qB e r) l).length≤_
  have h2:=ih (qB e r)
  have h3:(qB e r).length≤e.length+2:=by
   unfold qB
   split
   ·have a:=h1 (jg e r.fr) (r.to+1)
    have b:=h1 e r.fr
    omega
   ·omega
  rw[Wh];omega
def jX (f:Int→Bool):List Int→List Rn
 | e::e'::E=>(if f e then [⟨e,e'-1⟩]else [])++jX f (e'::E)
 | _=>[]
theorem qD (f:Int→Bool):∀(E:List Int)(e:Int),MG (e::E)→(∀m∈e::E,1≤m∧m≤1099511627777)→∀r∈jX f (e::E),jk r=true∧e≤r.fr:=by
 intro E
 induction E with
 | nil=>intro e _ _ r hr;simp[jX]at hr
 | cons e' E ih=>
  intro e h hm r hr
  obtain⟨h1,h2⟩:=List.pairwise_cons.1 h
  have h3:=h1 e' au
  rw[jX,Wz]at hr
  rcases hr with hr|hr
  ·split at hr
   ·have hr:r=⟨e,e'-1⟩:=by simpa using hr
    subst hr
    have a:=hm e au
    have b:=hm e' au
    exact⟨(cD _).2 aA,Int.le_refl _⟩
   ·simp at hr
  ·have:=ih e' h2 (fun m hm'=>hm m (by simp at hm' ⊢;exact .inr hm')) r hr
   exact⟨this.1,ab⟩
theorem MH (f:Int→Bool):∀(E:List Int),MG E→(∀m∈E,1≤m∧m≤1099511627777)→wG (jX f E):=by
 intro E
 induction E with
 | nil=>intro _ _;exact XF
 | cons e E ih=>
  intro h hm
  cases E with
  | nil=>exact XF
  | cons e' E=>
   obtain⟨h1,h2⟩:=List.pairwise_cons.1 h
   have hm':∀m∈e'::E,1≤m∧m≤1099511627777:=fun m q=>hm m (by simp at q ⊢;exact .inr q)
   have h3:=ih h2 hm'
   rw[jX]
   split
   ·refine List.pairwise_cons.2 ⟨fun z hz=>?_,h3⟩
    have:=(qD f E e' h2 hm' z hz).2
    have:=h1 e' au
    simp only;omega
   ·exact h3
structure VE (f:Int→Bool)(M:Int→Prop):Prop where
 mid:∀e n,e≤n→(∀m,M m→m≤e∨n<m)→f e=f n
 lo:∀n,(∀m,M m→n<m)→f n=false
 hi:∀n,(∀m,M m→m≤n)→f n=false
theorem MI {f:Int→Bool}{M:Int→Prop}(hf:VE f M):∀(E:List Int)(e:Int),MG (e::E)→(∀m∈e::E,1≤m∧m≤1099511627777)→(∀m,M m→m≤e∨m∈E)→∀n,e≤n→(gd (jX f (e::E)) n↔f n=true):=by
 intro E
 induction E with
 | nil=>
  intro e _ _ hM n hn
  have : f n = false := hf.hi n (fun m hm => by rcases hM m hm with h | h; · omega
                                                ·simp at h)
  rw[this]
  simp[jX,gK]
 | cons e' E ih=>
  intro e h hm hM n hn
  obtain⟨h1,h2⟩:=List.pairwise_cons.1 h
  have h3:=h1 e' au
  have hm':∀m∈e'::E,1≤m∧m≤1099511627777:=fun m q=>hm m (by simp at q ⊢;exact .inr q)
  obtain⟨h4,_⟩:=List.pairwise_cons.1 h2
  have a:=hm e au
  have b:=hm e' au
  rw[jX,lW]
  by_cases c:n<e'
  ·have hno:¬gd (jX f (e'::E)) n:=fun⟨r,hr,_,q,_⟩=>by
    have:=(qD f E e' h2 hm' r hr).2
    omega
   have he:f e=f n:=hf.mid e n hn (fun m q=>by
    rcases hM m q with z|z
    ·exact .inl z
    ·rcases Wp.1 z with rfl|z
     ·exact .inr c
     ·have:=h4 m z
      exact .inr ab)
   rw[←he]
   constructor
   ·rintro(q|q)
    ·split at q
     ·assumption
     ·exact absurd q (gK n)
    ·exact absurd q hno
   ·intro q
    rw[V6 q]
    exact .inl ((cw _ _ _).2 (.inl ⟨(cD _).2 aA,hn,aA⟩))
  ·rw[ih e' h2 hm' (fun m q=>by
    rcases hM m q with z|z
    ·exact .inl ab
    ·rcases Wp.1 z with rfl|z
     ·exact .inl (Int.le_refl _)
     ·exact .inr z) n ab]
   constructor
   ·rintro(q|q)
    ·split at q
     ·rcases(cw _ _ _).1 q with q|q
      ·simp only at q;omega
      ·exact absurd q (gK n)
     ·exact absurd q (gK n)
    ·exact q
   ·exact .inr
def Qm (f:Int→Bool)(a b:List Rn):List Rn:=lx (jX f (f0 (f0 [] a) b))
def zv (keep:Bool→Bool→Bool)(a b:List Rn)(n:Int):Bool:=keep (dR a n) (dR b n)
abbrev Qn (a b:List Rn)(m:Int):Prop:=m∈f0 (f0 [] a) b
theorem qE (a b:List Rn)(m:Int):Qn a b m↔(∃r∈a,jk r=true∧(m=r.fr∨m=r.to+1))∨∃r∈b,jk r=true∧(m=r.fr∨m=r.to+1):=by
 unfold Qn
 rw[Cv,Cv]
 simp
theorem xV {l:List Rn}{e n:Int}(hen:e≤n)(h:∀r∈l,jk r=true→(r.fr≤e∨n<r.fr)∧(r.to+1≤e∨n<r.to+1)):dR l e=dR l n:=by
 rw[Wo,jx,jx]
 refine⟨fun⟨r,hr,c,q⟩=>?_,fun⟨r,hr,c,q⟩=>?_⟩
 ·have:=h r hr c
  exact⟨r,hr,c,ab,ab⟩
 ·have:=h r hr c
  exact⟨r,hr,c,ab,ab⟩
theorem qF {l:List Rn}{n:Int}(h:∀r∈l,jk r=true→n<r.fr∨r.to+1≤n):dR l n=false:=by
 rw[←Wy,jx]
 rintro⟨r,hr,c,q⟩
 have:=h r hr c
 omega
theorem Qo {keep:Bool→Bool→Bool}(hk:keep false false=false)(a b:List Rn):VE (zv keep a b) (Qn a b):=by
 have inA:∀r∈a,jk r=true→Qn a b r.fr∧Qn a b (r.to+1):=fun r hr c=>⟨(qE _ _ _).2 (.inl ⟨r,hr,c,.inl rfl⟩),(qE _ _ _).2 (.inl ⟨r,hr,c,.inr rfl⟩)⟩
 have inB:∀r∈b,jk r=true→Qn a b r.fr∧Qn a b (r.to+1):=fun r hr c=>⟨(qE _ _ _).2 (.inr ⟨r,hr,c,.inl rfl⟩),(qE _ _ _).2 (.inr ⟨r,hr,c,.inr rfl⟩)⟩
 refine⟨fun e n hen h=>?_,fun n h=>?_,fun n h=>?_⟩
 ·unfold zv
  rw[xV hen (fun r hr c=>⟨h _ (inA r hr c).1,h _ (inA r hr c).2⟩),xV hen (fun r hr c=>⟨h _ (inB r hr c).1,h _ (inB r hr c).2⟩)]
 ·unfold zv
  rw[qF (fun r hr c=>.inl (h _ (inA r hr c).1)),qF (fun r hr c=>.inl (h _ (inB r hr c).1)),hk]
 ·unfold zv
  rw[qF (fun r hr c=>.inr (h _ (inA r hr c).2)),qF (fun r hr c=>.inr (h _ (inB r hr c).2)),hk]
theorem Gz {a b:List Rn}{m:Int}(h:Qn a b m):1≤m∧m≤1099511627777:=by
 rcases(qE _ _ _).1 h with⟨r,_,c,q⟩|⟨r,_,c,q⟩ <;>
 ·have:=(cD r).1 c
  omega
theorem MJ {keep:Bool→Bool→Bool}(hk:keep false false=false)(a b:List Rn):dX (Qm (zv keep a b) a b)∧∀n,gd (Qm (zv keep a b) a b) n↔zv keep a b n=true:=by
 have hc:=Qo hk a b
 have hup:MG (f0 (f0 [] a) b):=tG _ _ (tG _ _ XF)
 have hrg:∀m∈f0 (f0 [] a) b,1≤m∧m≤1099511627777:=fun m hm=>Gz hm
 unfold Qm
 unfold Qn at hc
 generalize zv keep a b=f at *
 generalize f0 (f0 [] a) b=E at *
 have hR:∀r∈jX f E,jk r=true:=fun r hr=>by
  cases E with
  | nil=>simp[jX]at hr
  | cons e E=>exact(qD f E e hup hrg r hr).1
 have h1:=oM (MH f E hup hrg) hR
 refine⟨h1.1,fun n=>?_⟩
 rw[h1.2 n]
 cases E with
 | nil=>
  rw[hc.lo n (fun m hm=>by simp at hm)]
  simp[jX,gK]
 | cons e E=>
  by_cases q:e≤n
  ·exact MI hc E e hup hrg (fun m hm=>by
    rcases Wp.1 hm with rfl|hm
    ·exact .inl (Int.le_refl _)
    ·exact .inr hm) n q
  ·rw[hc.lo n (fun m hm=>by
    rcases Wp.1 hm with rfl|hm
    ·omega
    ·have:=(List.pairwise_cons.1 hup).1 m hm;omega)]
   refine⟨fun⟨r,hr,_,z,_⟩=>?_,fun z=>by cases z⟩
   have:=(qD f E e hup hrg r hr).2
   omega
theorem MK {keep:Bool→Bool→Bool}(hk:keep false false=false){a b m:List Rn}(h:dX m)(e:∀n,gd m n↔zv keep a b n=true):Qm (zv keep a b) a b=m:=
 vg (MJ hk a b).1 h (fun n=>((MJ hk a b).2 n).trans (e n).symm)
theorem SM (a b:List Rn):Qm (zv (fun x y=>x||y) a b) a b=ofR (a++b):=by
 refine MK rfl (vi _) (fun n=>?_)
 rw[lf,lW,zv,WN,jx,jx]
end Go.Proofs.YtaclhhkblbacgaaGreat
