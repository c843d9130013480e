/- Texts joined: Icode IcItem Hash Cut HashParts HashItem HashRef. -/
import Derived.Test.YtliiahjpiagdkaaGreatJ23
import Derived.Deep.RegionHeld3
import Derived.Test.YtliiahjpiagdkaaGreatJ05
import Derived.Test.YtliiahjpiagdkaaGreatRows
import Derived.Test.YtliiahjpiagdkaaGreatJ01
import Derived.Outline
import Derived.Test.YtliiahjpiagdkaaGreatJ08
import Derived.Lib.SlBytesConst
set_option maxRecDepth 10000
set_option maxHeartbeats 8000000
namespace Go.Proofs.YtliiahjpiagdkaaGreat
open Go.RowKit
theorem uV (v vl:Value) (l:List UInt8) (ns:List Int) (w:World) (hv:Bs w v l) (hl:Sl 1 encI w vl ns) (hb:l.length + 9 * ns.length ≤ 70368744177664)
 (hok:∀ n ∈ ns,k0 n):Calls Tryz.prog 243 #[v,vl] w (gG 5 1 encB w (l ++ ns.flatMap jG)):=by
 go_enter Tryz.func243,Tryz.ntmps243
 go_wp2_with fail
 refine (NC _ _ l ns _ hv hl hb hok).mono ?_
 rintro e w1 ⟨v1,rfl,hown⟩
 go_wp2
 go_ret
 exact ⟨_,rfl,hown⟩
theorem qx {x:It} {w w':World} {T:TypeId} (h:bw (w.alloc (.cells #[.string x.key,.int .i64 x.rep,.int .i64 x.cnt,.int .i64 x.rank,.int .i64 x.prio,.bool x.dead,.string x.body] T)) w') :
 bw (w.alloc (.cells #[.string x.key,.int .i64 x.rep,.int .i64 x.cnt,.int .i64 x.rank,.int .i64 x.prio,.bool x.dead,.string x.body] T)) w' ∧
 w'.cell? ⟨w.heap.size,0,none⟩ = some (.string x.key) ∧ w'.cell? ⟨w.heap.size,1,none⟩ = some (.int .i64 x.rep) ∧ w'.cell? ⟨w.heap.size,2,none⟩ = some (.int .i64 x.cnt) ∧
 w'.cell? ⟨w.heap.size,3,none⟩ = some (.int .i64 x.rank) ∧ w'.cell? ⟨w.heap.size,4,none⟩ = some (.int .i64 x.prio) ∧ w'.cell? ⟨w.heap.size,5,none⟩ = some (.bool x.dead) ∧ w'.cell? ⟨w.heap.size,6,none⟩ = some (.string x.body):=by
 have hc:∀ j v,(#[.string x.key,.int .i64 x.rep,.int .i64 x.cnt,.int .i64 x.rank,.int .i64 x.prio,.bool x.dead,.string x.body]:Array Value)[j]? = some v → w'.cell? ⟨w.heap.size,j,none⟩ = some v:=by
  intro j v hj
  refine h.cell ?_
  rw [cell_of_row _ _ _ _ _ _ (heap_alloc_new w _)];exact hj
 exact ⟨h,hc 0 _ rfl,hc 1 _ rfl,hc 2 _ rfl,hc 3 _ rfl,hc 4 _ rfl,hc 5 _ rfl,hc 6 _ rfl⟩
def m3 (x:It):List Int:=[x.rep,x.cnt,x.rank,x.prio,if x.dead then 1 else 0]
def f7 (x:It):List UInt8:=(m3 x).flatMap jG ++ dN x.body
theorem gV {x:It} (h:itR x = true):(∀ n ∈ m3 x,k0 n) ∧ x.body.size ≤ 64 ∧ 1 ≤ x.key.size ∧ x.key.size ≤ 16:=by
 simp only [itR,cY,cC,Bool.and_eq_true,decide_eq_true_eq] at h
 obtain ⟨⟨h1,h2⟩,h3⟩:=h
 refine ⟨?_,by omega,by omega,by omega⟩
 intro n hn
 simp only [m3,List.mem_cons,List.not_mem_nil,or_false] at hn
 unfold k0
 rcases hn with rfl|rfl|rfl|rfl|rfl
 ·omega
 ·omega
 ·omega
 ·omega
 ·split <;> omega
theorem f8 (s:ByteArray) (h:s.size ≤ 127):(dN s).length = 1 + s.size:=by
 unfold dN;rw [mQ (by omega)];simp;omega
theorem N8 (v:Value) (key:ByteArray) (rep cnt rank prio:Int) (body:ByteArray) (l:List UInt8) (w:World) (hv:Bs w v l) (hr:itR ⟨key,rep,cnt,rank,prio,false,body⟩ = true) (hb:l.length ≤ 1000000) :
 Calls Tryz.prog 214 #[v,pg ⟨key,rep,cnt,rank,prio,false,body⟩] w (gG 5 1 encB w (l ++ f7 ⟨key,rep,cnt,rank,prio,false,body⟩)):=by
 obtain ⟨hnums,hbody,_,_⟩:=gV hr
 have HN:Hid (∀ n ∈ [rep,cnt,rank,prio,0],k0 n):=Lib.hid hnums
 have hlen:=jh _ HN.out
 replace hbody:body.size ≤ 64:=hbody
 have htl:=f8 body (by omega)
 have HL:Hid (f7 ⟨key,rep,cnt,rank,prio,false,body⟩ = [rep,cnt,rank,prio,0].flatMap jG ++ dN body):=Lib.hid rfl
 generalize hns:[rep,cnt,rank,prio,0].flatMap jG = nums at *
 have HNS:=Lib.hid hns
 have hlen':nums.length ≤ 45:=by simpa using hlen
 have htl':(dN body).length ≤ 65:=by omega
 clear hnums hr hlen hns htl hbody
 unfold pg
 go_enter Tryz.func214,Tryz.ntmps214
 go_wp2_with fail
 go_region_held3 (fun w'=>bw (w.alloc (.cells #[.string key,.int .i64 rep,.int .i64 cnt,.int .i64 rank,.int .i64 prio,.bool false,.string body] 41)) w' ∧ w'.cell? ⟨w.heap.size,0,none⟩ = some (.string key) ∧ w'.cell? ⟨w.heap.size,1,none⟩ = some (.int .i64 rep) ∧ w'.cell? ⟨w.heap.size,2,none⟩ = some (.int .i64 cnt) ∧ w'.cell? ⟨w.heap.size,3,none⟩ = some (.int .i64 rank) ∧ w'.cell? ⟨w.heap.size,4,none⟩ = some (.int .i64 prio) ∧ w'.cell? ⟨w.heap.size,5,none⟩ = some (.bool false) ∧ w'.cell? ⟨w.heap.size,6,none⟩ = some (.string body))
  (first|exact qx (x:=⟨key,rep,cnt,rank,prio,false,body⟩) ‹bw _ _›|exact qx (x:=⟨key,rep,cnt,rank,prio,false,body⟩) (bw.drew (bw.refl _))|exact qx (x:=⟨key,rep,cnt,rank,prio,false,body⟩) (bw.alloc (And.left ‹_›) _))
  (first|(go_at_call 243;refine Calls.mono (uV _ _ l [rep,cnt,rank,prio,0] _ ?_ ?_ ?_ HN.out) ?_;exact hv.ext (by repeat (first|assumption|exact bw.refl _|refine bw.alloc ?_ _|refine bw.drew ?_|refine bw.drewN ?_ _));exact Sl.lit qM.len (by (repeat refine (dH _ _).trans ?_);first|(refine aF _ _ _ ?_ <;> (first|rfl|(simp;done)|(simp;omega)))|(refine (ag _ _ _ ?_).trans (aF _ _ _ ?_) <;> (first|rfl|(simp;done)|(simp;omega)))|(refine (ag _ _ _ ?_).trans ((ag _ _ _ ?_).trans (aF _ _ _ ?_)) <;> (first|rfl|(simp;done)|(simp;omega)))|(refine (ag _ _ _ ?_).trans ((ag _ _ _ ?_).trans ((ag _ _ _ ?_).trans (aF _ _ _ ?_))) <;> (first|rfl|(simp;done)|(simp;omega)))|(refine (ag _ _ _ ?_).trans ((ag _ _ _ ?_).trans ((ag _ _ _ ?_).trans ((ag _ _ _ ?_).trans (aF _ _ _ ?_)))) <;> (first|rfl|(simp;done)|(simp;omega)))) rfl rfl (Nat.le_refl _) (by simp [maxLen]);(simp;omega);rw [HNS.out];rintro e w2 ⟨v2,rfl,hown⟩;have hE2:=hown.ext;have hE:=bw.trans (And.left ‹bw _ _ ∧ _›) hE2;have hown1:=hown.mono (w0:=w) (by repeat (first|assumption|exact bw.refl _|refine bw.alloc ?_ _|refine bw.drew ?_|refine bw.drewN ?_ _));have hx2:=hown1.ext;clear hown)|(go_at_call 215;refine Calls.mono (rU _ _ (l ++ nums) [body] _ ?_ ?_ ?_) ?_;exact ((hown1.sl ca).ext (by repeat (first|assumption|exact bw.refl _|refine bw.alloc ?_ _|refine bw.drew ?_|refine bw.drewN ?_ _)));(first|exact Sl.new1 n8.len _ _ _ body rfl|exact Sl.ext (Sl.lit n8.len (by (repeat refine (dH _ _).trans ?_);first|(refine aF _ _ _ ?_ <;> (first|rfl|(simp;done)|(simp;omega)))|(refine (ag _ _ _ ?_).trans (aF _ _ _ ?_) <;> (first|rfl|(simp;done)|(simp;omega)))|(refine (ag _ _ _ ?_).trans ((ag _ _ _ ?_).trans (aF _ _ _ ?_)) <;> (first|rfl|(simp;done)|(simp;omega)))|(refine (ag _ _ _ ?_).trans ((ag _ _ _ ?_).trans ((ag _ _ _ ?_).trans (aF _ _ _ ?_))) <;> (first|rfl|(simp;done)|(simp;omega)))|(refine (ag _ _ _ ?_).trans ((ag _ _ _ ?_).trans ((ag _ _ _ ?_).trans ((ag _ _ _ ?_).trans (aF _ _ _ ?_)))) <;> (first|rfl|(simp;done)|(simp;omega)))) rfl rfl (Nat.le_refl _) (by simp [maxLen])) hE2);(simp;omega);rintro e w3 ⟨v3,rfl,hown3⟩;have hE3:=bw.trans (And.left ‹bw _ _ ∧ _›) hown3.ext;have hown4:=hown3.mono (w0:=w) (by repeat (first|assumption|exact bw.refl _|refine bw.alloc ?_ _|refine bw.drew ?_|refine bw.drewN ?_ _));clear hown3))
 all_goals
  go_wp2
  go_ret
  refine ⟨_,rfl,?_⟩
  rw [HL.out,← List.append_assoc]
  simpa using hown4
theorem N9 (v:Value) (key:ByteArray) (rep cnt rank prio:Int) (body:ByteArray) (l:List UInt8) (w:World) (hv:Bs w v l) (hr:itR ⟨key,rep,cnt,rank,prio,true,body⟩ = true) (hb:l.length ≤ 1000000) :
 Calls Tryz.prog 214 #[v,pg ⟨key,rep,cnt,rank,prio,true,body⟩] w (gG 5 1 encB w (l ++ f7 ⟨key,rep,cnt,rank,prio,true,body⟩)):=by
 obtain ⟨hnums,hbody,_,_⟩:=gV hr
 have HN:Hid (∀ n ∈ [rep,cnt,rank,prio,1],k0 n):=Lib.hid hnums
 have hlen:=jh _ HN.out
 replace hbody:body.size ≤ 64:=hbody
 have htl:=f8 body (by omega)
 have HL:Hid (f7 ⟨key,rep,cnt,rank,prio,true,body⟩ = [rep,cnt,rank,prio,1].flatMap jG ++ dN body):=Lib.hid rfl
 generalize hns:[rep,cnt,rank,prio,1].flatMap jG = nums at *
 have HNS:=Lib.hid hns
 have hlen':nums.length ≤ 45:=by simpa using hlen
 have htl':(dN body).length ≤ 65:=by omega
 clear hnums hr hlen hns htl hbody
 unfold pg
 go_enter Tryz.func214,Tryz.ntmps214
 go_wp2_with fail
 go_region_held3 (fun w'=>bw (w.alloc (.cells #[.string key,.int .i64 rep,.int .i64 cnt,.int .i64 rank,.int .i64 prio,.bool true,.string body] 41)) w' ∧ w'.cell? ⟨w.heap.size,0,none⟩ = some (.string key) ∧ w'.cell? ⟨w.heap.size,1,none⟩ = some (.int .i64 rep) ∧ w'.cell? ⟨w.heap.size,2,none⟩ = some (.int .i64 cnt) ∧ w'.cell? ⟨w.heap.size,3,none⟩ = some (.int .i64 rank) ∧ w'.cell? ⟨w.heap.size,4,none⟩ = some (.int .i64 prio) ∧ w'.cell? ⟨w.heap.size,5,none⟩ = some (.bool true) ∧ w'.cell? ⟨w.heap.size,6,none⟩ = some (.string body))
  (first|exact qx (x:=⟨key,rep,cnt,rank,prio,true,body⟩) ‹bw _ _›|exact qx (x:=⟨key,rep,cnt,rank,prio,true,body⟩) (bw.drew (bw.refl _))|exact qx (x:=⟨key,rep,cnt,rank,prio,true,body⟩) (bw.alloc (And.left ‹_›) _))
  (first|(go_at_call 243;refine Calls.mono (uV _ _ l [rep,cnt,rank,prio,1] _ ?_ ?_ ?_ HN.out) ?_;exact hv.ext (by repeat (first|assumption|exact bw.refl _|refine bw.alloc ?_ _|refine bw.drew ?_|refine bw.drewN ?_ _));exact Sl.lit qM.len (by (repeat refine (dH _ _).trans ?_);first|(refine aF _ _ _ ?_ <;> (first|rfl|(simp;done)|(simp;omega)))|(refine (ag _ _ _ ?_).trans (aF _ _ _ ?_) <;> (first|rfl|(simp;done)|(simp;omega)))|(refine (ag _ _ _ ?_).trans ((ag _ _ _ ?_).trans (aF _ _ _ ?_)) <;> (first|rfl|(simp;done)|(simp;omega)))|(refine (ag _ _ _ ?_).trans ((ag _ _ _ ?_).trans ((ag _ _ _ ?_).trans (aF _ _ _ ?_))) <;> (first|rfl|(simp;done)|(simp;omega)))|(refine (ag _ _ _ ?_).trans ((ag _ _ _ ?_).trans ((ag _ _ _ ?_).trans ((ag _ _ _ ?_).trans (aF _ _ _ ?_)))) <;> (first|rfl|(simp;done)|(simp;omega)))) rfl rfl (Nat.le_refl _) (by simp [maxLen]);(simp;omega);rw [HNS.out];rintro e w2 ⟨v2,rfl,hown⟩;have hE2:=hown.ext;have hE:=bw.trans (And.left ‹bw _ _ ∧ _›) hE2;have hown1:=hown.mono (w0:=w) (by repeat (first|assumption|exact bw.refl _|refine bw.alloc ?_ _|refine bw.drew ?_|refine bw.drewN ?_ _));have hx2:=hown1.ext;clear hown)|(go_at_call 215;refine Calls.mono (rU _ _ (l ++ nums) [body] _ ?_ ?_ ?_) ?_;exact ((hown1.sl ca).ext (by repeat (first|assumption|exact bw.refl _|refine bw.alloc ?_ _|refine bw.drew ?_|refine bw.drewN ?_ _)));(first|exact Sl.new1 n8.len _ _ _ body rfl|exact Sl.ext (Sl.lit n8.len (by (repeat refine (dH _ _).trans ?_);first|(refine aF _ _ _ ?_ <;> (first|rfl|(simp;done)|(simp;omega)))|(refine (ag _ _ _ ?_).trans (aF _ _ _ ?_) <;> (first|rfl|(simp;done)|(simp;omega)))|(refine (ag _ _ _ ?_).trans ((ag _ _ _ ?_).trans (aF _ _ _ ?_)) <;> (first|rfl|(simp;done)|(simp;omega)))|(refine (ag _ _ _ ?_).trans ((ag _ _ _ ?_).trans ((ag _ _ _ ?_).trans (aF _ _ _ ?_))) <;> (first|rfl|(simp;done)|(simp;omega)))|(refine (ag _ _ _ ?_).trans ((ag _ _ _ ?_).trans ((ag _ _ _ ?_).trans ((ag _ _ _ ?_).trans (aF _ _ _ ?_)))) <;> (first|rfl|(simp;done)|(simp;omega)))) rfl rfl (Nat.le_refl _) (by simp [maxLen])) hE2);(simp;omega);rintro e w3 ⟨v3,rfl,hown3⟩;have hE3:=bw.trans (And.left ‹bw _ _ ∧ _›) hown3.ext;have hown4:=hown3.mono (w0:=w) (by repeat (first|assumption|exact bw.refl _|refine bw.alloc ?_ _|refine bw.drew ?_|refine bw.drewN ?_ _));clear hown3))
 all_goals
  go_wp2
  go_ret
  refine ⟨_,rfl,?_⟩
  rw [HL.out,← List.append_assoc]
  simpa using hown4
theorem Ja (v:Value) (x:It) (l:List UInt8) (w:World) (hv:Bs w v l) (hr:itR x = true) (hb:l.length ≤ 1000000) :
 Calls Tryz.prog 214 #[v,pg x] w (gG 5 1 encB w (l ++ f7 x)):=by
 obtain ⟨key,rep,cnt,rank,prio,dead,body⟩:=x
 cases dead
 ·exact N8 v key rep cnt rank prio body l w hv hr hb
 ·exact N9 v key rep cnt rank prio body l w hv hr hb
def qy (x:It):List UInt8:=dN x.key ++ f7 x
theorem Bu {x:It} (h:itR x = true):(f7 x).length ≤ 110:=by
 obtain ⟨h1,h2,_,_⟩:=gV h
 have h3:=jh _ h1
 have h4:=f8 x.body (by omega)
 simp only [f7,List.length_append]
 simp only [m3,List.length_cons,List.length_nil] at h3 ⊢
 omega
theorem L8 (x:It) (w:World) (hr:itR x = true) :
 Calls Tryz.prog 184 #[pg x] w (Ce 5 1 encB w (qy x) (.int .i64 0)):=by
 obtain ⟨_,_,hk0,hk1⟩:=gV hr
 have htk:=f8 x.key (by omega)
 have htk':(dN x.key).length ≤ 17:=by omega
 have HR:=Lib.hid hr
 have HB:Hid (qy x = dN x.key ++ f7 x):=Lib.hid rfl
 clear htk hr hk0 hk1
 unfold pg
 go_enter Tryz.func184,Tryz.ntmps184
 go_wp2_with fail
 refine (C1 x _).mono ?_
 rw [HR.out]
 rintro e w1 ⟨rfl,hx1⟩
 go_wp2_with fail
 go_region_held3 (fun w'=>bw (w.alloc (.cells #[.string x.key,.int .i64 x.rep,.int .i64 x.cnt,.int .i64 x.rank,.int .i64 x.prio,.bool x.dead,.string x.body] 41)) w' ∧ w'.cell? ⟨w.heap.size,0,none⟩ = some (.string x.key) ∧ w'.cell? ⟨w.heap.size,1,none⟩ = some (.int .i64 x.rep) ∧ w'.cell? ⟨w.heap.size,2,none⟩ = some (.int .i64 x.cnt) ∧ w'.cell? ⟨w.heap.size,3,none⟩ = some (.int .i64 x.rank) ∧ w'.cell? ⟨w.heap.size,4,none⟩ = some (.int .i64 x.prio) ∧ w'.cell? ⟨w.heap.size,5,none⟩ = some (.bool x.dead) ∧ w'.cell? ⟨w.heap.size,6,none⟩ = some (.string x.body))
  (first|exact qx (x:=x) (by repeat (first|assumption|exact bw.refl _|refine bw.alloc ?_ _|refine bw.drew ?_|refine bw.drewN ?_ _))|exact qx (x:=x) (bw.alloc (And.left ‹_›) _))
  (first|(go_at_call 215;refine Calls.mono (rU _ _ [] [x.key] _ ?_ ?_ ?_) ?_;exact Sl.nil _;exact Sl.lit n8.len (by (repeat refine (dH _ _).trans ?_);first|(refine aF _ _ _ ?_ <;> (first|rfl|(simp;done)|(simp;omega)))|(refine (ag _ _ _ ?_).trans (aF _ _ _ ?_) <;> (first|rfl|(simp;done)|(simp;omega)))|(refine (ag _ _ _ ?_).trans ((ag _ _ _ ?_).trans (aF _ _ _ ?_)) <;> (first|rfl|(simp;done)|(simp;omega)))|(refine (ag _ _ _ ?_).trans ((ag _ _ _ ?_).trans ((ag _ _ _ ?_).trans (aF _ _ _ ?_))) <;> (first|rfl|(simp;done)|(simp;omega)))|(refine (ag _ _ _ ?_).trans ((ag _ _ _ ?_).trans ((ag _ _ _ ?_).trans ((ag _ _ _ ?_).trans (aF _ _ _ ?_)))) <;> (first|rfl|(simp;done)|(simp;omega)))) rfl rfl (Nat.le_refl _) (by simp [maxLen]);(simp;omega);rintro e w2 ⟨v2,rfl,hown⟩;have hE2:=hown.ext;have hE:=bw.trans (And.left ‹bw _ _ ∧ _›) hE2;have hown1:=hown.mono (w0:=w) (bw.trans (bw.alloc (bw.refl _) _) (And.left ‹bw _ _ ∧ _›));clear hown)|(go_at_call 214;refine Calls.mono (Ja _ x (dN x.key) _ ?_ HR.out ?_) ?_;exact (by simpa using hown1.sl ca);omega;rintro e w3 ⟨v3,rfl,hown3⟩;have hE3:=bw.trans (And.left ‹bw _ _ ∧ _›) hown3.ext;have hown4:=hown3.mono (w0:=w) hown1.ext;clear hown3))
 all_goals
  go_wp2
  go_ret2
  refine ⟨_,rfl,?_⟩
  rw [HB.out]
  exact hown4
def Jb (h:Int) (c:UInt8):Int:=IntKind.u64.wrap (bits BinOp.xor IntKind.u64 h (c.toNat:Int) * 1099511628211)
def wx (h:Int) (l:List UInt8):Int:=l.foldl Jb h
def wy (h:Int):Int:=bits BinOp.xor IntKind.u64 h (h / 4294967296)
def qa (seed:Int) (l:List UInt8):Int:=wy (wx (bits BinOp.xor IntKind.u64 14695981039346656037 seed) l)
theorem sS (h:Int) (l:List UInt8) (c:UInt8):wx h (l ++ [c]) = Jb (wx h l) c:=by simp [wx]
theorem mi (n:Int):0 ≤ IntKind.u64.wrap n:=by rw [IntKind.wrap_u64];omega
theorem sU (c:UInt8):IntKind.u64.wrap (c.toNat:Int) = (c.toNat:Int):=by
 have:=c.toNat_lt;rw [IntKind.wrap_u64];omega
theorem C2 (a b:Int):0 ≤ bits BinOp.xor IntKind.u64 a b:=mi _
theorem L9 (h:Int) (c:UInt8):0 ≤ Jb h c:=mi _
theorem sV (n:Int):IntKind.u64.wrap n < 18446744073709551616:=by rw [IntKind.wrap_u64];omega
theorem Oa (h:Int) (l:List UInt8) (h0:h < 18446744073709551616):wx h l < 18446744073709551616:=by
 rcases List.eq_nil_or_concat l with rfl|⟨l',c,rfl⟩
 ·exact h0
 ·rw [List.concat_eq_append,wx,List.foldl_append];exact sV _
theorem Jc {seed X:Int} (l:List UInt8) (h:bits BinOp.xor IntKind.u64 14695981039346656037 seed = X) (h0:0 ≤ wx X l) :
 IntKind.u64.wrap ((wx X l).tdiv 4294967296) = wx X l / 4294967296:=by
 have h1:=Oa X l (by rw [← h];exact sV _)
 rw [Int.tdiv_eq_ediv_of_nonneg h0,IntKind.wrap_u64]
 omega
theorem uW {seed X:Int} (l:List UInt8) (h:bits BinOp.xor IntKind.u64 14695981039346656037 seed = X):qa seed l = wy (wx X l):=by
 rw [← h];rfl
theorem Bv (h:Int) (l:List UInt8) (h0:0 ≤ h):0 ≤ wx h l:=by
 rcases List.eq_nil_or_concat l with rfl|⟨l',c,rfl⟩
 ·exact h0
 ·rw [List.concat_eq_append,sS];exact L9 _ _
theorem Bw (h:Int) (l m:List UInt8):wx h (l ++ m) = wx (wx h l) m:=by simp [wx]
theorem EI (seed:Int) (v:Value) (l:List UInt8) (w:World) (hv:Bs w v l) :
 Calls Tryz.prog 118 #[.int .u64 seed,v] w fun e w'=>e = .returned (.int .u64 (qa seed l)) ∧ w = w':=by
 obtain ⟨a,c,b,o,rfl,h1,h2,h3,h4⟩:=hv.open
 have h5:=pj h1 h2
 clear hv h1 h2
 have hX0:=C2 14695981039346656037 seed
 generalize hX:bits BinOp.xor IntKind.u64 14695981039346656037 seed = X at *
 go_enter Tryz.func118,Tryz.ntmps118
 go_wp2
 have HX:=Lib.hid hX
 clear hX
 go_loop [5,6] (fun h' i=>∃ (k:Nat),k ≤ l.length ∧ i = .int .i64 k ∧ h' = .int .u64 (wx X (l.take k))) (fun _ i=>l.length - (intOf i).toNat)
 case atStart=>exact ⟨0,Nat.zero_le _,rfl,rfl⟩
 case round=>
  obtain ⟨k,hk,rfl,rfl⟩:=hrel
  by_cases hlt:k < l.length
  ·obtain rfl:=h3 (by omega)
   have hc':=h4 k hlt
   have HS:=Lib.hid (gF l k hlt)
   clear h3 h4
   go_wp2
   go_round
   case rel=>exact ⟨k+1,by omega,by go_num,by rw [HS.out,sS,Jb,sU]⟩
   case measure=>simp [intOf];omega
  ·have hnn:=Bv X (l.take k) hX0
   go_wp2
   go_ret
   refine ⟨eJ (iB ?_),rfl⟩
   rw [uW _ HX.out,wy,show l.take k = l from List.take_of_length_le (by omega),Jc _ HX.out (Bv _ _ hX0)]
theorem Bx (seed:Int) (v:Value) (ls:List (List UInt8)) (w:World) (hv:PI w v ls) :
 Calls Tryz.prog 185 #[.int .u64 seed,v] w fun e w'=>e = .returned (.int .u64 (qa seed ls.flatten)) ∧ w = w':=by
 obtain ⟨vs,hl,hs,hb⟩:=hv
 obtain ⟨a,c,b,o,rfl,h1,h2,h3,h4⟩:=hs.open1
 have h5:=pj h1 h2
 clear hs h1 h2
 have hX0:=C2 14695981039346656037 seed
 generalize hX:bits BinOp.xor IntKind.u64 14695981039346656037 seed = X at *
 have HL:=Lib.hid hl
 clear hl
 go_enter Tryz.func185,Tryz.ntmps185
 go_wp2
 have HX:=Lib.hid hX
 clear hX
 go_loop [5,14] (fun h' i=>∃ (k:Nat),k ≤ vs.length ∧ i = .int .i64 k ∧ h' = .int .u64 (wx X (ls.take k).flatten)) (fun _ i=>vs.length - (intOf i).toNat)
 case atStart=>exact ⟨0,Nat.zero_le _,rfl,rfl⟩
 case round=>
  obtain ⟨k,hk,rfl,rfl⟩:=hrel
  by_cases hlt:k < vs.length
  ·obtain rfl:=h3 (by omega)
   have hc':=h4 k hlt
   have HS:=Lib.hid (gF ls k (by have:=HL.out;omega))
   obtain ⟨a1,c1,b1,o1,hv1,g1,g2,g3,g4⟩:=(hb k hlt (by have:=HL.out;omega)).open
   have g5:=pj g1 g2
   rw [hv1] at hc'
   clear h3 h4 hb g1 g2 hv1
   generalize hp:ls[k] = p at *
   have HP:=Lib.hid hp
   clear hp
   go_wp2
   go_loop [5,20] (fun h' i=>∃ (j:Nat),j ≤ p.length ∧ i = .int .i64 j ∧ h' = .int .u64 (wx (wx X (ls.take k).flatten) (p.take j))) (fun _ i=>p.length - (intOf i).toNat)
   case atStart=>exact ⟨0,Nat.zero_le _,rfl,rfl⟩
   case round=>
    obtain ⟨j,hj,rfl,rfl⟩:=hrel
    by_cases hjt:j < p.length
    ·obtain rfl:=g3 (by omega)
     have gc':=g4 j hjt
     have GS:=Lib.hid (gF p j hjt)
     clear g3 g4
     go_wp2
     go_round
     case rel=>exact ⟨j+1,by omega,by go_num,by rw [GS.out,sS,Jb,sU]⟩
     case measure=>simp [intOf];omega
    ·clear g3 g4
     obtain rfl:j = p.length:=by omega
     go_wp2
     go_round
     case rel=>exact ⟨k+1,by omega,by go_num,by rw [HS.out];simp [Bw]⟩
     case measure=>simp [intOf];omega
  ·have hnn:=Bv X (ls.take k).flatten hX0
   go_wp2
   go_ret
   refine ⟨eJ (iB ?_),rfl⟩
   rw [uW _ HX.out,wy,show ls.take k = ls from List.take_of_length_le (by have:=HL.out;omega)]
def hold (n lo hi:Int):Int:=max lo (min n hi)
theorem y4 (n lo hi:Int) (w:World) :
 Calls Tryz.prog 117 #[.int .i64 n,.int .i64 lo,.int .i64 hi] w fun e w'=>e = .returned (.int .i64 (hold n lo hi)) ∧ w = w':=by
 go_enter Tryz.func117,Tryz.ntmps117
 go_wp2
 all_goals
  go_ret
  refine ⟨eJ (iB ?_),rfl⟩
  unfold hold
  omega
def cut (h n:Int):Int:=h % (2:Int) ^ (hold n 0 64).toNat
theorem EJ {h n:Int} (h0:0 ≤ h) (h1:h < 18446744073709551616) (hm:hold n 0 64 = 64):cut h n = h:=by
 unfold cut;rw [hm];simp;omega
theorem wz (h:Int) (m:Nat) (h0:0 ≤ h) (h1:h < 18446744073709551616) (hm:m < 64) :
 bits BinOp.and IntKind.u64 h ((2:Int) ^ m - 1) = h % 2 ^ m:=by
 obtain ⟨q,rfl⟩:=Int.eq_ofNat_of_zero_le h0
 have hp:(2:Nat) ^ m < 2 ^ 64:=Nat.pow_lt_pow_right (by omega) hm
 have hp0:0 < (2:Nat) ^ m:=Nat.two_pow_pos m
 have e:((2:Int) ^ m - 1) = ((2 ^ m - 1:Nat):Int):=by rw [Int.natCast_sub (by omega)];simp
 rw [e,bits_and_u64_nat _ _ (by omega) (by omega),Nat.and_two_pow_sub_one_eq_mod]
 simp
theorem Jd (m:Nat) (hm:m < 64):IntKind.u64.wrap (IntKind.u64.wrap ((2:Int) ^ m) - 1) = 2 ^ m - 1:=by
 have hp:(2:Nat) ^ m < 2 ^ 64:=Nat.pow_lt_pow_right (by omega) hm
 have hp0:0 < (2:Nat) ^ m:=Nat.two_pow_pos m
 have e:((2:Int) ^ m) = ((2 ^ m:Nat):Int):=by simp
 rw [e,IntKind.wrap_u64,IntKind.wrap_u64];omega
theorem Ma (h n:Int) (w:World) (h0:0 ≤ h) (h1:h < 18446744073709551616) :
 Calls Tryz.prog 73 #[.int .u64 h,.int .i64 n] w fun e w'=>e = .returned (.int .u64 (cut h n)) ∧ w = w':=by
 have H1:=Lib.hid h1
 clear h1
 by_cases hm:hold n 0 64 = 64
 ·have HM:=Lib.hid hm
  have hb:(hold n 0 64 == 64) = true:=by rw [hm];rfl
  clear hm
  go_enter Tryz.func73,Tryz.ntmps73
  go_wp2_with (go_at_call 117;refine (y4 _ _ _ _).mono ?_;rintro e w' ⟨rfl,rfl⟩)
  go_ret
  exact ⟨eJ (iB (EJ h0 H1.out HM.out).symm),rfl⟩
 ·have hb:(hold n 0 64 == 64) = false:=by simp [hm]
  have hm0:0 ≤ hold n 0 64:=by unfold hold;omega
  have hm1:hold n 0 64 < 64:=by unfold hold at *;omega
  have HC':Hid (cut h n = h % (2:Int) ^ (hold n 0 64).toNat):=Lib.hid rfl
  clear hm
  obtain ⟨m,hm⟩:=Int.eq_ofNat_of_zero_le hm0
  rw [hm] at hb hm1 HC'
  have HM:=Lib.hid hm
  clear hm hm0
  go_enter Tryz.func73,Tryz.ntmps73
  go_wp2_with (go_at_call 117;refine (y4 _ _ _ _).mono ?_;rw [HM.out];rintro e w' ⟨rfl,rfl⟩)
  go_ret
  refine ⟨eJ (iB ?_),rfl⟩
  rw [HC'.out,Jd m (by omega),wz h m h0 H1.out (by omega)]
  simp
theorem y5 (h:Int) (k:Nat) (h0:0 ≤ h) (h1:h < 18446744073709551616) (hk:k < 64) :
 IntKind.u64.wrap ((h / 2 ^ k).tdiv 2) = h / 2 ^ (k + 1) ∧
 ((h / 2 ^ k) % 2 = 1 → IntKind.u64.wrap (h % 2 ^ k + 2 ^ k) = h % 2 ^ (k + 1)) ∧
 (¬ (h / 2 ^ k) % 2 = 1 → h % 2 ^ k = h % 2 ^ (k + 1)) ∧
 (k + 1 < 64 → IntKind.u64.wrap ((2:Int) ^ k * 2) = 2 ^ (k + 1)):=by
 obtain ⟨n,rfl⟩:=Int.eq_ofNat_of_zero_le h0
 have hp:(2:Nat) ^ (k + 1) ≤ 2 ^ 64:=Nat.pow_le_pow_right (by omega) hk
 have hp0:0 < (2:Nat) ^ k:=Nat.two_pow_pos k
 have hs:(2:Nat) ^ (k + 1) = 2 ^ k * 2:=Nat.pow_succ 2 k
 have e1:((n:Int) / 2 ^ k) = ((n / 2 ^ k:Nat):Int):=by simp
 have e2:((n:Int) % 2 ^ k) = ((n % 2 ^ k:Nat):Int):=by simp
 have e3:((n:Int) / 2 ^ (k + 1)) = ((n / 2 ^ (k + 1):Nat):Int):=by simp
 have e4:((n:Int) % 2 ^ (k + 1)) = ((n % 2 ^ (k + 1):Nat):Int):=by simp
 have e5:((2:Int) ^ k) = ((2 ^ k:Nat):Int):=by simp
 have e6:((2:Int) ^ (k + 1)) = ((2 ^ (k + 1):Nat):Int):=by simp
 have hdd:n / 2 ^ (k + 1) = n / 2 ^ k / 2:=by rw [hs,Nat.div_div_eq_div_mul]
 have hmm:n % 2 ^ (k + 1) = n % 2 ^ k + 2 ^ k * (n / 2 ^ k % 2):=by rw [hs,Nat.mod_mul]
 have hlt:n % 2 ^ k < 2 ^ k:=Nat.mod_lt _ hp0
 have hdl:n / 2 ^ k ≤ n:=Nat.div_le_self _ _
 have h1':n < 18446744073709551616:=by omega
 rw [e1,e2,e3,e4,e5,e6,hdd,hmm]
 clear e1 e2 e3 e4 e5 e6 hdd hmm h0 h1
 generalize n / 2 ^ k = q at *
 generalize n % 2 ^ k = r at *
 rw [Int.tdiv_eq_ediv_of_nonneg (by omega)]
 refine ⟨?_,fun hq=>?_,fun hq=>?_,fun hk'=>?_⟩
 ·rw [IntKind.wrap_u64];omega
 ·rw [IntKind.wrap_u64,show q % 2 = 1 by omega,Nat.mul_one];generalize 2 ^ k = P at *;omega
 ·rw [show q % 2 = 0 by omega];simp
 ·have hp':(2:Nat) ^ (k + 1) < 2 ^ 64:=Nat.pow_lt_pow_right (by omega) hk'
  rw [IntKind.wrap_u64];omega
theorem Bz (h n:Int) (w:World) (h0:0 ≤ h) (h1:h < 18446744073709551616) :
 Calls Tryz.prog 37 #[.int .u64 h,.int .i64 n] w fun e w'=>e = .returned (.int .u64 (cut h n)) ∧ w = w':=by
 have H1:=Lib.hid h1
 clear h1
 go_enter Tryz.func37,Tryz.ntmps37
 go_wp2
 go_loop [0,5,6,7] (fun s0 s5 s6 s7=>∃ (k:Nat) (q out val:Int),k ≤ 64 ∧ 0 ≤ q ∧ s0 = .int .u64 q ∧ s5 = .int .u64 out ∧ s6 = .int .u64 val ∧ s7 = .int .i64 k ∧
  Hid (q = h / 2 ^ k ∧ out = h % 2 ^ k ∧ (k < 64 → val = 2 ^ k) ∧ (k:Int) ≤ max 0 n)) (fun _ _ _ i=>64 - (intOf i).toNat)
 case atStart=>exact ⟨0,h,0,1,by omega,h0,rfl,rfl,rfl,rfl,Lib.hid ⟨by simp,by simp,fun _=>rfl,by omega⟩⟩
 case round=>
  obtain ⟨k,q,out,val,hk,hq,rfl,rfl,rfl,rfl,HH⟩:=hrel
  by_cases hlt:k < 64
  ·by_cases hn:(k:Int) < n
   ·by_cases hodd:q % 2 = 1
    ·have ho:(q % 2 == 1) = true:=by rw [hodd];rfl
     clear hodd
     go_wp2
     go_round
     case rel=>
      obtain ⟨rfl,rfl,hv,_⟩:=HH.out
      obtain rfl:=hv hlt
      obtain ⟨c1,c2,c3,c4⟩:=y5 h k h0 H1.out hlt
      exact ⟨k + 1,_,_,_,by omega,mi _,rfl,rfl,rfl,by go_num,Lib.hid ⟨c1,c2 (by simpa using ho),c4,by omega⟩⟩
     case measure=>simp [intOf];omega
    ·have ho:(q % 2 == 1) = false:=by simp [hodd]
     clear hodd
     go_wp2
     go_round
     case rel=>
      obtain ⟨rfl,rfl,hv,_⟩:=HH.out
      obtain rfl:=hv hlt
      obtain ⟨c1,c2,c3,c4⟩:=y5 h k h0 H1.out hlt
      exact ⟨k + 1,_,_,_,by omega,mi _,rfl,rfl,rfl,by go_num,Lib.hid ⟨c1,c3 (by simpa using ho),c4,by omega⟩⟩
     case measure=>simp [intOf];omega
   ·go_wp2
    go_ret
    obtain ⟨rfl,rfl,hv,hm⟩:=HH.out
    refine ⟨eJ (iB ?_),rfl⟩
    rw [cut,show (hold n 0 64).toNat = k by unfold hold;omega]
  ·go_wp2
   go_ret
   obtain ⟨rfl,rfl,hv,hm⟩:=HH.out
   refine ⟨eJ (iB ?_),rfl⟩
   rw [cut,show (hold n 0 64).toNat = k by unfold hold;omega]
theorem Je (x:It) (w:World) (hr:itR x = false) :
 Calls Tryz.prog 184 #[pg x] w fun e w'=>e = .returned (.tuple #[.slice none 0 0,.int .i64 2]) ∧ bw w w':=by
 have HR:=Lib.hid hr
 clear hr
 unfold pg
 go_enter Tryz.func184,Tryz.ntmps184
 go_wp2_with fail
 refine (C1 x _).mono ?_
 rw [HR.out]
 rintro e w1 ⟨rfl,hx1⟩
 go_wp2
 go_ret2
 exact ⟨rfl,((bw.refl _).alloc _).trans hx1⟩
def dp (seed:Int) (x:It):Int:=if itR x then qa seed (qy x) else 0
theorem EK (seed:Int) (x:It) (w:World) :
 Calls Tryz.prog 140 #[.int .u64 seed,pg x] w fun e w'=>e = .returned (.int .u64 (dp seed x)) ∧ bw w w':=by
 by_cases hr:itR x = true
 ·have HR:=Lib.hid hr
  have HH:Hid (dp seed x = qa seed [qy x].flatten):=Lib.hid (by unfold dp;rw [if_pos hr];simp)
  clear hr
  unfold pg
  go_enter Tryz.func140,Tryz.ntmps140
  go_wp2_with fail
  refine (L8 x _ HR.out).mono ?_
  rintro e w1 ⟨v1,rfl,hown⟩
  have hs:=hown.sl ca
  have hx1:=hown.ext
  clear hown
  obtain ⟨a1,c1,b1,o1,rfl,_⟩:=Bs.open hs
  go_wp2_with fail
  refine (Bx _ _ [qy x] _ ?_).mono ?_
  ·refine ⟨[.slice a1 _ c1],rfl,Sl.lit (fun _=>rfl) (by (repeat refine (dH _ _).trans ?_);first|(refine aF _ _ _ ?_ <;> (first|rfl|(simp;done)|(simp;omega)))|(refine (ag _ _ _ ?_).trans (aF _ _ _ ?_) <;> (first|rfl|(simp;done)|(simp;omega)))|(refine (ag _ _ _ ?_).trans ((ag _ _ _ ?_).trans (aF _ _ _ ?_)) <;> (first|rfl|(simp;done)|(simp;omega)))|(refine (ag _ _ _ ?_).trans ((ag _ _ _ ?_).trans ((ag _ _ _ ?_).trans (aF _ _ _ ?_))) <;> (first|rfl|(simp;done)|(simp;omega)))|(refine (ag _ _ _ ?_).trans ((ag _ _ _ ?_).trans ((ag _ _ _ ?_).trans ((ag _ _ _ ?_).trans (aF _ _ _ ?_)))) <;> (first|rfl|(simp;done)|(simp;omega)))) rfl rfl (by decide) (by decide),?_⟩
   intro i h1 h2
   obtain rfl:i = 0:=by simp at h1;omega
   exact hs.ext (by repeat (first|assumption|exact bw.refl _|refine bw.alloc ?_ _|refine bw.drew ?_|refine bw.drewN ?_ _))
  ·rw [← HH.out]
   rintro e w2 ⟨rfl,rfl⟩
   go_wp2
   go_ret
   exact ⟨rfl,(((bw.refl _).alloc _).trans hx1).alloc _⟩
 ·have HR:Hid (itR x = false):=Lib.hid (by simpa using hr)
  have HH:Hid (dp seed x = 0):=Lib.hid (by unfold dp;rw [if_neg hr])
  clear hr
  unfold pg
  go_enter Tryz.func140,Tryz.ntmps140
  go_wp2_with fail
  refine (Je x _ HR.out).mono ?_
  rintro e w1 ⟨rfl,hx1⟩
  go_wp2
  go_ret
  exact ⟨by rw [HH.out];rfl,((bw.refl _).alloc _).trans hx1⟩
def qK (seed:Int) (l:List It):Int:=l.foldl (fun s x=>IntKind.u64.wrap (s + dp seed x)) 0
theorem qb (seed:Int) (l:List It) (x:It):qK seed (l ++ [x]) = IntKind.u64.wrap (qK seed l + dp seed x):=by simp [qK]
theorem EL (key:ByteArray) (rep cnt rank prio:Int) (body:ByteArray) (w:World) (hr:itR ⟨key,rep,cnt,rank,prio,false,body⟩ = true) :
 Calls Tryz.prog 165 #[pg ⟨key,rep,cnt,rank,prio,false,body⟩] w (gG 5 1 encB w (f7 ⟨key,rep,cnt,rank,prio,false,body⟩)):=by
 obtain ⟨hnums,hbody,_,_⟩:=gV hr
 have HN:Hid (∀ n ∈ [rep,cnt,rank,prio,0],k0 n):=Lib.hid hnums
 have hlen:=jh _ HN.out
 replace hbody:body.size ≤ 64:=hbody
 have htl:=f8 body (by omega)
 have HL:Hid (f7 ⟨key,rep,cnt,rank,prio,false,body⟩ = [rep,cnt,rank,prio,0].flatMap jG ++ dN body):=Lib.hid rfl
 generalize hns:[rep,cnt,rank,prio,0].flatMap jG = nums at *
 have HNS:=Lib.hid hns
 have hlen':nums.length ≤ 45:=by simpa using hlen
 have htl':(dN body).length ≤ 65:=by omega
 clear hnums hr hlen hns htl
 unfold pg
 go_enter Tryz.func165,Tryz.ntmps165
 go_wp2_with fail
 refine Calls.mono (rT _ [rep,cnt,rank,prio,0] _ ?_ ?_ HN.out) ?_
 ·exact Sl.lit qM.len (by (repeat refine (dH _ _).trans ?_);first|(refine aF _ _ _ ?_ <;> (first|rfl|(simp;done)|(simp;omega)))|(refine (ag _ _ _ ?_).trans (aF _ _ _ ?_) <;> (first|rfl|(simp;done)|(simp;omega)))|(refine (ag _ _ _ ?_).trans ((ag _ _ _ ?_).trans (aF _ _ _ ?_)) <;> (first|rfl|(simp;done)|(simp;omega)))|(refine (ag _ _ _ ?_).trans ((ag _ _ _ ?_).trans ((ag _ _ _ ?_).trans (aF _ _ _ ?_))) <;> (first|rfl|(simp;done)|(simp;omega)))|(refine (ag _ _ _ ?_).trans ((ag _ _ _ ?_).trans ((ag _ _ _ ?_).trans ((ag _ _ _ ?_).trans (aF _ _ _ ?_)))) <;> (first|rfl|(simp;done)|(simp;omega)))) rfl rfl (Nat.le_refl _) (by simp [maxLen])
 ·simp
 rw [HNS.out]
 rintro e w1 ⟨v1,rfl,hown⟩
 have hE:=hown.ext
 have hown1:=hown.mono (w0:=w) (by repeat (first|assumption|exact bw.refl _|refine bw.alloc ?_ _|refine bw.drew ?_|refine bw.drewN ?_ _))
 obtain ⟨q0,q1,q2,q3,q4,q5,q6⟩:=(((tY.box (w:=w) ⟨key,rep,cnt,rank,prio,false,body⟩ 41).ext ((bw.refl _).alloc _))).ext hE
 simp only [Nat.zero_add] at q6
 clear hown q0 q1 q2 q3 q4 q5
 go_wp2_with fail
 refine Calls.mono (lQ body _ (by omega)) ?_
 rintro e w2 ⟨v2,rfl,hown2⟩
 have hown3:=hown1.extend hown2.ext
 have hs2:=hown2.sl ca
 clear hown1 hown2 hE q6
 go_wp2_with (at_builtin;refine dP rfl _ _ 159 rfl Hg ca w _ _ _ _ rfl rfl hown3 hs2 ?_ ?_ ?_)
 ·(first|omega|(simp;omega)|(unfold maxLen;omega)|(unfold maxLen;simp;omega))
 ·(first|omega|(simp;omega)|(unfold maxLen;omega)|(unfold maxLen;simp;omega))
 ·intro v3 w3 r HR hown4 _ _
  go_wp2
  go_ret
  exact ⟨_,rfl,by rw [HL.out,← HR.out];exact hown4⟩
theorem EM (key:ByteArray) (rep cnt rank prio:Int) (body:ByteArray) (w:World) (hr:itR ⟨key,rep,cnt,rank,prio,true,body⟩ = true) :
 Calls Tryz.prog 165 #[pg ⟨key,rep,cnt,rank,prio,true,body⟩] w (gG 5 1 encB w (f7 ⟨key,rep,cnt,rank,prio,true,body⟩)):=by
 obtain ⟨hnums,hbody,_,_⟩:=gV hr
 have HN:Hid (∀ n ∈ [rep,cnt,rank,prio,1],k0 n):=Lib.hid hnums
 have hlen:=jh _ HN.out
 replace hbody:body.size ≤ 64:=hbody
 have htl:=f8 body (by omega)
 have HL:Hid (f7 ⟨key,rep,cnt,rank,prio,true,body⟩ = [rep,cnt,rank,prio,1].flatMap jG ++ dN body):=Lib.hid rfl
 generalize hns:[rep,cnt,rank,prio,1].flatMap jG = nums at *
 have HNS:=Lib.hid hns
 have hlen':nums.length ≤ 45:=by simpa using hlen
 have htl':(dN body).length ≤ 65:=by omega
 clear hnums hr hlen hns htl
 unfold pg
 go_enter Tryz.func165,Tryz.ntmps165
 go_wp2_with fail
 refine Calls.mono (rT _ [rep,cnt,rank,prio,1] _ ?_ ?_ HN.out) ?_
 ·exact Sl.lit qM.len (by (repeat refine (dH _ _).trans ?_);first|(refine aF _ _ _ ?_ <;> (first|rfl|(simp;done)|(simp;omega)))|(refine (ag _ _ _ ?_).trans (aF _ _ _ ?_) <;> (first|rfl|(simp;done)|(simp;omega)))|(refine (ag _ _ _ ?_).trans ((ag _ _ _ ?_).trans (aF _ _ _ ?_)) <;> (first|rfl|(simp;done)|(simp;omega)))|(refine (ag _ _ _ ?_).trans ((ag _ _ _ ?_).trans ((ag _ _ _ ?_).trans (aF _ _ _ ?_))) <;> (first|rfl|(simp;done)|(simp;omega)))|(refine (ag _ _ _ ?_).trans ((ag _ _ _ ?_).trans ((ag _ _ _ ?_).trans ((ag _ _ _ ?_).trans (aF _ _ _ ?_)))) <;> (first|rfl|(simp;done)|(simp;omega)))) rfl rfl (Nat.le_refl _) (by simp [maxLen])
 ·simp
 rw [HNS.out]
 rintro e w1 ⟨v1,rfl,hown⟩
 have hE:=hown.ext
 have hown1:=hown.mono (w0:=w) (by repeat (first|assumption|exact bw.refl _|refine bw.alloc ?_ _|refine bw.drew ?_|refine bw.drewN ?_ _))
 obtain ⟨q0,q1,q2,q3,q4,q5,q6⟩:=(((tY.box (w:=w) ⟨key,rep,cnt,rank,prio,true,body⟩ 41).ext ((bw.refl _).alloc _))).ext hE
 simp only [Nat.zero_add] at q6
 clear hown q0 q1 q2 q3 q4 q5
 go_wp2_with fail
 refine Calls.mono (lQ body _ (by omega)) ?_
 rintro e w2 ⟨v2,rfl,hown2⟩
 have hown3:=hown1.extend hown2.ext
 have hs2:=hown2.sl ca
 clear hown1 hown2 hE q6
 go_wp2_with (at_builtin;refine dP rfl _ _ 159 rfl Hg ca w _ _ _ _ rfl rfl hown3 hs2 ?_ ?_ ?_)
 ·(first|omega|(simp;omega)|(unfold maxLen;omega)|(unfold maxLen;simp;omega))
 ·(first|omega|(simp;omega)|(unfold maxLen;omega)|(unfold maxLen;simp;omega))
 ·intro v3 w3 r HR hown4 _ _
  go_wp2
  go_ret
  exact ⟨_,rfl,by rw [HL.out,← HR.out];exact hown4⟩
theorem y6 (x:It) (w:World) (hr:itR x = true) :
 Calls Tryz.prog 165 #[pg x] w (gG 5 1 encB w (f7 x)):=by
 obtain ⟨key,rep,cnt,rank,prio,dead,body⟩:=x
 cases dead
 ·exact EL key rep cnt rank prio body w hr
 ·exact EM key rep cnt rank prio body w hr
theorem y7 (x:It) (w:World) (hr:itR x = true) :
 Calls Tryz.prog 119 #[pg x] w (gG 5 1 encB w (qy x)):=by
 obtain ⟨_,_,hk0,hk1⟩:=gV hr
 have htk:=f8 x.key (by omega)
 have hrl:=Bu hr
 have htk':(dN x.key).length ≤ 17:=by omega
 have HR:=Lib.hid hr
 have HB:Hid (qy x = dN x.key ++ f7 x):=Lib.hid rfl
 clear htk hr
 unfold pg
 go_enter Tryz.func119,Tryz.ntmps119
 go_wp2_with fail
 refine Calls.mono (lQ x.key _ (by omega)) ?_
 rintro e w1 ⟨v1,rfl,hown⟩
 have hE:=hown.ext
 have hown1:=hown.mono (w0:=w) (by repeat (first|assumption|exact bw.refl _|refine bw.alloc ?_ _|refine bw.drew ?_|refine bw.drewN ?_ _))
 obtain ⟨q0,q1,q2,q3,q4,q5,q6⟩:=(tY.box (w:=w) x 41).ext hE
 simp only [Nat.zero_add] at q0 q1 q2 q3 q4 q5 q6
 clear hown
 go_wp2_with fail
 refine Calls.mono (y6 x _ HR.out) ?_
 rintro e w2 ⟨v2,rfl,hown2⟩
 have hown3:=hown1.extend hown2.ext
 have hs2:=hown2.sl ca
 clear hown1 hown2 hE q0 q1 q2 q3 q4 q5 q6
 go_wp2_with (at_builtin;refine dP rfl _ _ 159 rfl Hg ca w _ _ _ _ rfl rfl hown3 hs2 ?_ ?_ ?_)
 ·(first|omega|(simp;omega)|(unfold maxLen;omega)|(unfold maxLen;simp;omega))
 ·(first|omega|(simp;omega)|(unfold maxLen;omega)|(unfold maxLen;simp;omega))
 ·intro v3 w3 r HR hown4 _ _
  go_wp2
  go_ret
  exact ⟨_,rfl,by rw [HB.out,← HR.out];exact hown4⟩
theorem wA (seed:Int) (x:It) (w:World) :
 Calls Tryz.prog 74 #[.int .u64 seed,pg x] w fun e w'=>e = .returned (.int .u64 (dp seed x)) ∧ bw w w':=by
 by_cases hr:itR x = true
 ·have HR:=Lib.hid hr
  have HH:Hid (dp seed x = qa seed (qy x)):=Lib.hid (by unfold dp;rw [if_pos hr])
  clear hr
  unfold pg
  go_enter Tryz.func74,Tryz.ntmps74
  go_wp2_with fail
  refine (sR x _).mono ?_
  rw [HR.out]
  rintro e w1 ⟨rfl,hx1⟩
  obtain ⟨q0,q1,q2,q3,q4,q5,q6⟩:=(tY.box (w:=w) x 41).ext hx1
  simp only [Nat.zero_add] at q0 q1 q2 q3 q4 q5 q6
  go_wp2_with fail
  refine (y7 x _ HR.out).mono ?_
  rintro e w2 ⟨v2,rfl,hown2⟩
  have hs2:=hown2.sl ca
  have hx2:=hown2.ext
  clear hown2 q0 q1 q2 q3 q4 q5 q6
  go_wp2_with fail
  refine (EI seed _ _ _ hs2).mono ?_
  rw [← HH.out]
  rintro e w3 ⟨rfl,rfl⟩
  go_wp2
  go_ret
  exact ⟨rfl,(((bw.refl _).alloc _).trans hx1).trans hx2⟩
 ·have HR:Hid (itR x = false):=Lib.hid (by simpa using hr)
  have HH:Hid (dp seed x = 0):=Lib.hid (by unfold dp;rw [if_neg hr])
  clear hr
  unfold pg
  go_enter Tryz.func74,Tryz.ntmps74
  go_wp2_with fail
  refine (sR x _).mono ?_
  rw [HR.out]
  rintro e w1 ⟨rfl,hx1⟩
  go_wp2
  go_ret
  exact ⟨by rw [HH.out];rfl,((bw.refl _).alloc _).trans hx1⟩
theorem y8 (seed:Int) (v:Value) (l:List It) (w:World) (hv:PO w v l) :
 Calls Tryz.prog 38 #[.int .u64 seed,v] w fun e w'=>e = .returned (.int .u64 (qK seed l)) ∧ bw w w':=by
 obtain ⟨a,c,b,o,rfl,h1,h2,h3,h4⟩:=PO.open hv
 have h5:=pj h1 h2
 clear h1 h2 hv
 go_enter Tryz.func38,Tryz.ntmps38
 go_wp2
 go_loopw [5,6] (fun s i wr=>∃ k:Nat,k ≤ l.length ∧ i = .int .i64 k ∧ s = .int .u64 (qK seed (l.take k)) ∧ bw w wr) (fun _ i _=>l.length - (intOf i).toNat)
 case atStart=>exact ⟨0,Nat.zero_le _,rfl,rfl,bw.refl _⟩
 case round=>
  obtain ⟨k,hk,rfl,rfl,hx⟩:=hrel
  by_cases hlt:k < l.length
  ·obtain rfl:=h3 (by omega)
   obtain ⟨q0,q1,q2,q3,q4,q5,q6⟩:=(h4 k hlt).ext hx
   have HS:=Lib.hid (gF l k hlt)
   generalize l[k] = x at *
   clear h3 h4
   go_wp2_with fail
   refine (wA seed x _).mono ?_
   rintro e w2 ⟨rfl,hx2⟩
   clear q0 q1 q2 q3 q4 q5 q6
   have hx3:bw w w2:=hx.trans hx2
   go_wp2
   go_roundw
   case rel=>exact ⟨k + 1,by omega,by go_num,by rw [HS.out,qb],hx3⟩
   case measure=>simp [intOf];omega
  ·have HT:=Lib.hid (show l.take k = l from List.take_of_length_le (by omega))
   go_wp2
   go_ret
   exact ⟨by rw [HT.out];rfl,hx⟩
end Go.Proofs.YtliiahjpiagdkaaGreat
