/- Texts joined: ImP So SoC SoS. -/
import Derived.Test.YtfcpkegmdlchhaaGreatJ16
import Derived.Test.YtfcpkegmdlchhaaGreatJ19
import Derived.Test.YtfcpkegmdlchhaaGreatJ06
import Derived.Test.YtfcpkegmdlchhaaGreatJ05
import Derived.Test.YtfcpkegmdlchhaaGreatJ07
import Derived.Shelf.SlSortCmp.NoneTotal
import Derived.Test.YtfcpkegmdlchhaaGreatJ08
import Derived.Test.YtfcpkegmdlchhaaGreatJ12
import Derived.Deep.QuietTactic
import Derived.BigQuiet
set_option maxRecDepth 10000
set_option maxHeartbeats 8000000
namespace Go.Proofs.YtfcpkegmdlchhaaGreat
deriving instance DecidableEq for Sta
structure Nt where
 kind:Int:=0
 st:Sta:={}
 key:ByteArray:=⟨#[]⟩
 prio:Int:=0
 body:ByteArray:=⟨#[]⟩
 ses:Int:=0
 num:Int:=0
 nxt:Int:=0
 its:List It:=[]
 know:List Pc:=[]
deriving DecidableEq
/-- a state's bytes -/
def staB (s:Sta):List UInt8:=numI s.id ++ (numI s.cnt ++ (txB (rgsBy s.flt) ++ (txB (itemsB s.its) ++ txB (knowB s.know))))
def ntR (n:Nt):Bool:=
 if n.kind = 1 then stR n.st
 else if n.kind = 2 then keyR n.key && decide (0 ≤ n.prio ∧ n.prio ≤ 255 ∧ n.body.size ≤ 64)
 else if n.kind = 3 then keyR n.key
 else if n.kind = 4 then decide (1 ≤ n.ses) && isNum n.ses
 else decide (n.kind = 5) && decide (1 ≤ n.ses) && isNum n.ses && isNum n.num && isNum n.nxt && decide (n.its.length ≤ 4096) && listB n.its && decide (pcsOk n.know)
/-- a note's bytes -/
def ntB (n:Nt):List UInt8:=
 if n.kind = 1 then numI n.kind ++ txB (staB n.st)
 else if n.kind = 2 then numI n.kind ++ (textB n.key ++ (numI n.prio ++ textB n.body))
 else if n.kind = 3 then numI n.kind ++ textB n.key
 else if n.kind = 4 then numI n.kind ++ numI n.ses
 else numI n.kind ++ (numI n.ses ++ (numI n.num ++ (numI n.nxt ++ (txB (itemsB n.its) ++ txB (knowB n.know)))))
/-- a note with just what its kind names -/
def plainN (n:Nt):Nt:=
 if n.kind = 1 then { kind:=1,st:=n.st }
 else if n.kind = 2 then { kind:=2,key:=n.key,prio:=n.prio,body:=n.body }
 else if n.kind = 3 then { kind:=3,key:=n.key }
 else if n.kind = 4 then { kind:=4,ses:=n.ses }
 else if n.kind = 5 then { kind:=5,ses:=n.ses,num:=n.num,nxt:=n.nxt,its:=n.its,know:=n.know }
 else { kind:=n.kind }
/-! ### read -/
/-- the numbers and the texts of a state -/
def rdSh (l:List UInt8):Int × Int × List UInt8 × List UInt8 × List UInt8 × List UInt8 × Int:=
 let a:=withinSt 1 16 l 0
 let b:=withinSt 0 1099511627776 a.2.1 a.2.2
 let f:=textSt maxN b.2.1 b.2.2
 let i:=textSt maxN f.2.1 f.2.2
 let k:=textSt maxN i.2.1 i.2.2
 (a.1,b.1,f.1,i.1,k.1,k.2.1,k.2.2)
/-- the parts of a state -/
def rdSp (id cnt:Int) (f i k:List UInt8):Sta × Int:=
 if (rdRgs f).2 ≠ 0 then ({},(rdRgs f).2)
 else if (rdItems i).2 ≠ 0 then ({},(rdItems i).2)
 else if (rdKnow k).2 ≠ 0 then ({},(rdKnow k).2)
 else if stR ⟨id,(rdRgs f).1,(rdItems i).1,(rdKnow k).1,cnt⟩ then (⟨id,(rdRgs f).1,(rdItems i).1,(rdKnow k).1,cnt⟩,0) else ({},11)
def rdSt (l:List UInt8):Sta × Int:=
 let h:=rdSh l
 if endSt h.2.2.2.2.2.1 h.2.2.2.2.2.2 ≠ 0 then ({},endSt h.2.2.2.2.2.1 h.2.2.2.2.2.2) else rdSp h.1 h.2.1 h.2.2.1 h.2.2.2.1 h.2.2.2.2.1
/-- a note but for its parts, which come as texts -/
def rdNh (l:List UInt8):Nt × List UInt8 × List UInt8 × List UInt8 × Int:=
 let a:=withinSt 1 5 l 0
 if a.1 = 1 then
   let x:=textSt maxN a.2.1 a.2.2
   ({ kind:=1 },x.1,[],x.2.1,x.2.2)
 else if a.1 = 2 then
   let k:=textSt 16 a.2.1 a.2.2
   let p:=withinSt 0 255 k.2.1 k.2.2
   let b:=textSt 64 p.2.1 p.2.2
   ({ kind:=2,key:=⟨k.1.toArray⟩,prio:=p.1,body:=⟨b.1.toArray⟩ },[],[],b.2.1,b.2.2)
 else if a.1 = 3 then
   let k:=textSt 16 a.2.1 a.2.2
   ({ kind:=3,key:=⟨k.1.toArray⟩ },[],[],k.2.1,k.2.2)
 else if a.1 = 4 then
   let s:=numSt a.2.1 a.2.2
   ({ kind:=4,ses:=s.1 },[],[],s.2.1,s.2.2)
 else if a.1 = 5 then
   let s:=numSt a.2.1 a.2.2
   let n:=numSt s.2.1 s.2.2
   let t:=numSt n.2.1 n.2.2
   let x:=textSt maxN t.2.1 t.2.2
   let y:=textSt maxN x.2.1 x.2.2
   ({ kind:=5,ses:=s.1,num:=n.1,nxt:=t.1 },x.1,y.1,y.2.1,y.2.2)
 else ({ kind:=a.1 },[],[],a.2.1,a.2.2)
/-- its parts -/
def rdNp (n:Nt) (x y:List UInt8):Nt × Int:=
 if n.kind = 1 then (if (rdSt x).2 ≠ 0 then ({},(rdSt x).2) else ({ n with st:=(rdSt x).1 },0))
 else if n.kind = 5 then
   (if (rdItems x).2 ≠ 0 then ({},(rdItems x).2) else if (rdKnow y).2 ≠ 0 then ({},(rdKnow y).2) else ({ n with its:=(rdItems x).1,know:=(rdKnow y).1 },0))
 else (n,0)
def rdNt (l:List UInt8):Nt × Int:=
 let h:=rdNh l
 if endSt h.2.2.2.1 h.2.2.2.2 ≠ 0 then ({},endSt h.2.2.2.1 h.2.2.2.2) else
 let p:=rdNp h.1 h.2.1 h.2.2.1
 if p.2 ≠ 0 then ({},p.2) else if ntR p.1 then (p.1,0) else ({},11)
/-! ### what is put is read -/
theorem tx_put {p:List UInt8} (h:p.length ≤ 1000000000) (r:List UInt8):textSt maxN (txB p ++ r) 0 = (p,r,0):=by
 have hs:(⟨p.toArray⟩:ByteArray).size = p.length:=by simp [ByteArray.size]
 have:=text_put (s:=⟨p.toArray⟩) (most:=maxN) (by rw [hs];show (p.length:Int) ≤ 281474976710656;omega) (by rw [hs];omega) r
 rw [show txB p = textB ⟨p.toArray⟩ from rfl]
 simpa using this
theorem stR_iff {s:Sta} (h:stR s = true):(1 ≤ s.id ∧ s.id ≤ 16) ∧ (0 ≤ s.cnt ∧ s.cnt ≤ 1099511627776) ∧ s.its.length ≤ 4096 ∧ rgsOk s.flt ∧ listB s.its = true ∧ pcsOk s.know:=by
 unfold stR at h
 simp only [Bool.and_eq_true,decide_eq_true_eq] at h
 exact ⟨h.1.1.1.1.1.1.1.1.1,h.1.1.1.1.1.1.1.1.2,h.1.1.1.1.1.1.1.2,h.1.1.1.1.1.1.2,h.1.1.1.1.1.2,h.1.1.1.1.2⟩
theorem listB_all {l:List It} (h:listB l = true):l.all itR = true:=by
 unfold listB at h
 rw [Bool.and_eq_true] at h
 exact h.1
/-- how big what has bytes of its own may be -/
structure PrB (f:List Rg) (i:List It) (k:List Pc):Prop where
 flt:f.length ≤ 4096
 few:fewK k
 kln:k.length ≤ 4096
 bf:(rgsBy f).length ≤ 100000000
 bi:(itemsB i).length ≤ 100000000
 bk:(knowB k).length ≤ 100000000
theorem st_put {s:Sta} (h:stR s = true) (hB:PrB s.flt s.its s.know):rdSt (staB s) = (s,0):=by
 obtain ⟨h1,h2,h3,h4,h5,h6⟩:=stR_iff h
 unfold rdSt rdSh staB
 dsimp only
 rw [within_put ⟨by omega,by omega⟩ h1.1 h1.2]
 dsimp only
 rw [within_put ⟨by omega,by omega⟩ h2.1 h2.2]
 dsimp only
 rw [tx_put (by have:=hB.bf;omega)]
 dsimp only
 rw [tx_put (by have:=hB.bi;omega)]
 dsimp only
 have e:=tx_put (p:=knowB s.know) (by have:=hB.bk;omega) []
 rw [List.append_nil] at e
 rw [e]
 dsimp only
 rw [if_neg (by simp [endSt])]
 unfold rdSp
 rw [rdRgs_put h4 hB.flt,rdItems_put (listB_all h5) h3,rdKnow_put h6 hB.few hB.kln]
 dsimp only
 rw [if_neg (by simp),if_neg (by simp),if_neg (by simp)]
 have e2:(⟨s.id,s.flt,s.its,s.know,s.cnt⟩:Sta) = s:=by cases s;rfl
 rw [e2,if_pos h]
theorem st_back {l:List UInt8} (h:(rdSt l).2 = 0):staB (rdSt l).1 = l ∧ stR (rdSt l).1 = true:=by
 unfold rdSt rdSh at h ⊢
 dsimp only at h ⊢
 generalize ha:withinSt 1 16 l 0 = a at *
 generalize hb:withinSt 0 1099511627776 a.2.1 a.2.2 = b at *
 generalize hf:textSt maxN b.2.1 b.2.2 = f at *
 generalize hi:textSt maxN f.2.1 f.2.2 = i at *
 generalize hk:textSt maxN i.2.1 i.2.2 = k at *
 by_cases c1:endSt k.2.1 k.2.2 ≠ 0
 · rw [if_pos c1] at h;exact absurd h c1
 rw [if_neg c1] at h ⊢
 unfold rdSp at h ⊢
 by_cases c2:(rdRgs f.1).2 ≠ 0
 · rw [if_pos c2] at h;exact absurd h c2
 rw [if_neg c2] at h ⊢
 by_cases c3:(rdItems i.1).2 ≠ 0
 · rw [if_pos c3] at h;exact absurd h c3
 rw [if_neg c3] at h ⊢
 by_cases c4:(rdKnow k.1).2 ≠ 0
 · rw [if_pos c4] at h;exact absurd h c4
 rw [if_neg c4] at h ⊢
 by_cases c5:stR ⟨a.1,(rdRgs f.1).1,(rdItems i.1).1,(rdKnow k.1).1,b.1⟩ = true
 · rw [if_pos c5]
   refine ⟨?_,c5⟩
   obtain ⟨e1,e2⟩:=end_back (by simpa using c1)
   obtain ⟨k1,_,k3⟩:=text_back (most:=maxN) (l:=i.2.1) (e:=i.2.2) (by rw [hk];exact e2)
   obtain ⟨i1,_,i3⟩:=text_back (most:=maxN) (l:=f.2.1) (e:=f.2.2) (by rw [hi];exact k1)
   obtain ⟨f1,_,f3⟩:=text_back (most:=maxN) (l:=b.2.1) (e:=b.2.2) (by rw [hf];exact i1)
   obtain ⟨b1,_,_,_,b3⟩:=within_back (lo:=0) (hi:=1099511627776) (l:=a.2.1) (e:=a.2.2) (by rw [hb];exact f1)
   obtain ⟨a1,_,_,_,a3⟩:=within_back (lo:=1) (hi:=16) (l:=l) (e:=0) (by rw [ha];exact b1)
   have q1:=(rdRgs_back (by simpa using c2)).2.2
   have q2:=(rdItems_back (by simpa using c3)).2.2
   have q3:=(rdKnow_back (by simpa using c4)).2.2
   rw [hk] at k3
   rw [hi] at i3
   rw [hf] at f3
   rw [hb] at b3
   rw [ha] at a3
   unfold staB
   dsimp only
   rw [q1,q2,q3,a3,b3,f3,i3,k3,e1]
   simp [txB]
 · rw [if_neg c5] at h;simp at h
theorem ntR_kind {n:Nt} (h:ntR n = true):1 ≤ n.kind ∧ n.kind ≤ 5:=by
 unfold ntR at h
 by_cases c1:n.kind = 1
 · omega
 rw [if_neg c1] at h
 by_cases c2:n.kind = 2
 · omega
 rw [if_neg c2] at h
 by_cases c3:n.kind = 3
 · omega
 rw [if_neg c3] at h
 by_cases c4:n.kind = 4
 · omega
 rw [if_neg c4] at h
 simp only [Bool.and_eq_true,decide_eq_true_eq] at h
 have:=h.1.1.1.1.1.1.1
 omega
theorem keyR_sz {k:ByteArray} (h:keyR k = true):k.size ≤ 16:=by
 unfold keyR at h
 simp at h
 omega
theorem ba_of (s:ByteArray):(⟨s.data.toList.toArray⟩:ByteArray) = s:=by cases s;rfl
theorem nt_put {n:Nt} (h:ntR n = true) (hB:PrB n.st.flt n.st.its n.st.know) (hB2:PrB [] n.its n.know) (hs:(staB n.st).length ≤ 1000000000):rdNt (ntB n) = (plainN n,0):=by
 obtain ⟨k1,k5⟩:=ntR_kind h
 have w:∀ r,withinSt 1 5 (numI n.kind ++ r) 0 = (n.kind,r,0):=fun r=>within_put ⟨by omega,by omega⟩ k1 k5 r
 unfold rdNt rdNh ntB
 by_cases c1:n.kind = 1
 · simp only [if_pos c1]
   rw [w]
   have e:=tx_put (p:=staB n.st) hs []
   rw [List.append_nil] at e
   simp only [c1,if_true,e]
   rw [if_neg (by simp [endSt])]
   unfold ntR at h
   rw [if_pos c1] at h
   unfold rdNp plainN
   simp only [c1,if_true]
   rw [st_put h hB]
   simp [ntR,h]
 simp only [if_neg c1]
 by_cases c2:n.kind = 2
 · simp only [if_pos c2]
   rw [w]
   have h':=h
   unfold ntR at h'
   simp only [if_neg c1,if_pos c2,Bool.and_eq_true,decide_eq_true_eq] at h'
   obtain ⟨a1,a2,a3,a4⟩:=h'
   have a5:=keyR_sz a1
   have e1:=text_put (s:=n.key) (most:=16) (by omega) (by omega) (numI n.prio ++ textB n.body)
   have e2:=within_put (n:=n.prio) (lo:=0) (hi:=255) ⟨by omega,by omega⟩ a2 a3 (textB n.body)
   have e3:=text_put (s:=n.body) (most:=64) (by omega) (by omega) []
   rw [List.append_nil] at e3
   simp only [c2,if_true,e1,e2,e3,ba_of]
   simp only [show ((2:Int) = 1) = False by simp,if_false]
   rw [if_neg (by simp [endSt])]
   unfold rdNp plainN
   simp only [c2,if_true]
   simp [ntR,a1,a2,a3,a4]
 simp only [if_neg c2]
 by_cases c3:n.kind = 3
 · simp only [if_pos c3]
   rw [w]
   have h':=h
   unfold ntR at h'
   simp only [if_neg c1,if_neg c2,if_pos c3] at h'
   have a5:=keyR_sz h'
   have e1:=text_put (s:=n.key) (most:=16) (by omega) (by omega) []
   rw [List.append_nil] at e1
   simp only [c3,if_true,e1,ba_of]
   simp only [show ((3:Int) = 1) = False by simp,show ((3:Int) = 2) = False by simp,if_false]
   rw [if_neg (by simp [endSt])]
   unfold rdNp plainN
   simp only [c3]
   simp [ntR,h']
 simp only [if_neg c3]
 by_cases c4:n.kind = 4
 · simp only [if_pos c4]
   rw [w]
   have h':=h
   unfold ntR at h'
   simp only [if_neg c1,if_neg c2,if_neg c3,if_pos c4,Bool.and_eq_true,decide_eq_true_eq] at h'
   have e1:=num_put (isNum_ok h'.2) []
   rw [List.append_nil] at e1
   simp only [c4,if_true,e1]
   simp only [show ((4:Int) = 1) = False by simp,show ((4:Int) = 2) = False by simp,show ((4:Int) = 3) = False by simp,if_false]
   rw [if_neg (by simp [endSt])]
   unfold rdNp plainN
   simp only [c4]
   simp [ntR,h']
 simp only [if_neg c4]
 have c5:n.kind = 5:=by omega
 rw [w]
 have h':=h
 unfold ntR at h'
 simp only [if_neg c1,if_neg c2,if_neg c3,if_neg c4,Bool.and_eq_true,decide_eq_true_eq] at h'
 obtain ⟨⟨⟨⟨⟨⟨⟨_,a1⟩,a2⟩,a3⟩,a4⟩,a5⟩,a6⟩,a7⟩:=h'
 have e4:=tx_put (p:=knowB n.know) (by have:=hB2.bk;omega) []
 rw [List.append_nil] at e4
 simp only [c5,if_true,num_put (isNum_ok a2),num_put (isNum_ok a3),num_put (isNum_ok a4),tx_put (show (itemsB n.its).length ≤ 1000000000 by have:=hB2.bi;omega),e4]
 simp only [show ((5:Int) = 1) = False by simp,show ((5:Int) = 2) = False by simp,show ((5:Int) = 3) = False by simp,show ((5:Int) = 4) = False by simp,if_false]
 rw [if_neg (by simp [endSt])]
 unfold rdNp plainN
 simp only [c5]
 rw [rdItems_put (listB_all a6) a5,rdKnow_put a7 hB2.few hB2.kln]
 simp [ntR,a1,a2,a3,a4,a5,a6,a7]
theorem nt_back {l:List UInt8} (h:(rdNt l).2 = 0):ntB (rdNt l).1 = l ∧ ntR (rdNt l).1 = true:=by
 unfold rdNt at h ⊢
 dsimp only at h ⊢
 by_cases c1:endSt (rdNh l).2.2.2.1 (rdNh l).2.2.2.2 ≠ 0
 · rw [if_pos c1] at h;exact absurd h c1
 rw [if_neg c1] at h ⊢
 by_cases c2:(rdNp (rdNh l).1 (rdNh l).2.1 (rdNh l).2.2.1).2 ≠ 0
 · rw [if_pos c2] at h;exact absurd h c2
 rw [if_neg c2] at h ⊢
 by_cases c3:¬ ntR (rdNp (rdNh l).1 (rdNh l).2.1 (rdNh l).2.2.1).1 = true
 · rw [if_neg c3] at h;simp at h
 replace c3:=Decidable.not_not.1 c3
 rw [if_pos c3]
 refine ⟨?_,c3⟩
 replace c2:(rdNp (rdNh l).1 (rdNh l).2.1 (rdNh l).2.2.1).2 = 0:=by simpa using c2
 obtain ⟨e1,e2⟩:=end_back (by simpa using c1)
 clear h c1
 unfold rdNh at *
 dsimp only at *
 generalize ha:withinSt 1 5 l 0 = a at *
 have wb:a.2.2 = 0 → l = numI a.1 ++ a.2.1:=fun q=>by
   have:=(within_back (lo:=1) (hi:=5) (l:=l) (e:=0) (by rw [ha];exact q)).2.2.2.2
   rw [ha] at this;exact this
 by_cases k1:a.1 = 1
 · simp only [if_pos k1] at *
   obtain ⟨x1,_,x3⟩:=text_back e2
   rw [e1,List.append_nil] at x3
   unfold rdNp at *
   simp only [if_true] at *
   by_cases d:(rdSt (textSt maxN a.2.1 a.2.2).1).2 ≠ 0
   · rw [if_pos d] at c2;exact absurd c2 d
   rw [if_neg d] at c2 ⊢
   have q:=(st_back (by simpa using d)).1
   unfold ntB
   simp only [if_true]
   rw [q,wb x1,k1]
   exact congrArg (numI 1 ++ ·) x3.symm
 simp only [if_neg k1] at *
 by_cases k2:a.1 = 2
 · simp only [if_pos k2] at *
   obtain ⟨b1,_,b3⟩:=text_back e2
   rw [e1,List.append_nil] at b3
   obtain ⟨p1,_,_,_,p3⟩:=within_back b1
   obtain ⟨q1,_,q3⟩:=text_back p1
   unfold rdNp at *
   simp only [show ((2:Int) = 1) = False by simp,show ((2:Int) = 5) = False by simp,if_false] at *
   unfold ntB
   simp only [show ((2:Int) = 1) = False by simp,if_false,if_true]
   rw [← b3,← p3,← q3,wb q1,k2]
 simp only [if_neg k2] at *
 by_cases k3:a.1 = 3
 · simp only [if_pos k3] at *
   obtain ⟨q1,_,q3⟩:=text_back e2
   rw [e1,List.append_nil] at q3
   unfold rdNp at *
   simp only [show ((3:Int) = 1) = False by simp,show ((3:Int) = 5) = False by simp,if_false] at *
   unfold ntB
   simp only [show ((3:Int) = 1) = False by simp,show ((3:Int) = 2) = False by simp,if_false,if_true]
   rw [← q3,wb q1,k3]
 simp only [if_neg k3] at *
 by_cases k4:a.1 = 4
 · simp only [if_pos k4] at *
   obtain ⟨q1,_,q3⟩:=num_back e2
   rw [e1,List.append_nil] at q3
   unfold rdNp at *
   simp only [show ((4:Int) = 1) = False by simp,show ((4:Int) = 5) = False by simp,if_false] at *
   unfold ntB
   simp only [show ((4:Int) = 1) = False by simp,show ((4:Int) = 2) = False by simp,show ((4:Int) = 3) = False by simp,if_false,if_true]
   rw [← q3,wb q1,k4]
 simp only [if_neg k4] at *
 by_cases k5:a.1 = 5
 · simp only [if_pos k5] at *
   obtain ⟨y1,_,y3⟩:=text_back e2
   rw [e1,List.append_nil] at y3
   obtain ⟨x1,_,x3⟩:=text_back y1
   obtain ⟨t1,_,t3⟩:=num_back x1
   obtain ⟨n1,_,n3⟩:=num_back t1
   obtain ⟨s1,_,s3⟩:=num_back n1
   unfold rdNp at *
   simp only [show ((5:Int) = 1) = False by simp,if_false,if_true] at *
   generalize hx:textSt maxN (numSt (numSt (numSt a.2.1 a.2.2).2.1 (numSt a.2.1 a.2.2).2.2).2.1 (numSt (numSt a.2.1 a.2.2).2.1 (numSt a.2.1 a.2.2).2.2).2.2).2.1 (numSt (numSt (numSt a.2.1 a.2.2).2.1 (numSt a.2.1 a.2.2).2.2).2.1 (numSt (numSt a.2.1 a.2.2).2.1 (numSt a.2.1 a.2.2).2.2).2.2).2.2 = x at *
   generalize hy:textSt maxN x.2.1 x.2.2 = y at *
   by_cases d:(rdItems x.1).2 ≠ 0
   · rw [if_pos d] at c2;exact absurd c2 d
   rw [if_neg d] at c2 ⊢
   by_cases d2:(rdKnow y.1).2 ≠ 0
   · rw [if_pos d2] at c2;exact absurd c2 d2
   rw [if_neg d2]
   have q1:=(rdItems_back (by simpa using d)).2.2
   have q2:=(rdKnow_back (by simpa using d2)).2.2
   unfold ntB
   simp only [show ((5:Int) = 1) = False by simp,show ((5:Int) = 2) = False by simp,show ((5:Int) = 3) = False by simp,show ((5:Int) = 4) = False by simp,if_false]
   rw [q1,q2]
   simp only [txB]
   rw [← y3,← x3,← t3,← n3,← s3,wb s1,k5]
 · simp only [if_neg k5] at *
   exfalso
   have:=ntR_kind c3
   unfold rdNp at this
   simp only [if_neg k1,if_neg k5] at this
   omega
end Go.Proofs.YtfcpkegmdlchhaaGreat
namespace Go.Proofs.YtfcpkegmdlchhaaGreat
open Go.RowKit Go.Shelf
/-- nothing but draws, and new blocks -/
def Gw (w w':World):Prop:=∃ (q:Nat) (os:Array Obj),w' = Sort.grow (w.drewN q) os
theorem Gw.refl (w:World):Gw w w:=⟨0,#[],by simp [World.drewN]⟩
theorem Gw.drewN {w w':World} (h:Gw w w') (n:Nat):Gw w (w'.drewN n):=by
 obtain ⟨q,os,rfl⟩:=h
 exact ⟨q + n,os,by simp [World.drewN,Sort.grow,Nat.add_assoc]⟩
theorem Gw.drew {w w':World} (h:Gw w w'):Gw w w'.drew:=h.drewN 1
theorem Gw.alloc {w w':World} (h:Gw w w') (o:Obj):Gw w (w'.alloc o):=by
 obtain ⟨q,os,rfl⟩:=h
 exact ⟨q,os ++ #[o],by rw [Sort.alloc_eq_grow,Sort.grow_grow]⟩
theorem Gw.trans {a b c:World} (h:Gw a b) (k:Gw b c):Gw a c:=by
 obtain ⟨q,os,rfl⟩:=h
 obtain ⟨q',os',rfl⟩:=k
 exact ⟨q + q',os ++ os',by simp [World.drewN,Sort.grow,Nat.add_assoc,Array.append_assoc]⟩
theorem extract_all {β:Type} (d:Array β):d.extract 0 d.size = d:=by simp
def sortL {α:Type} [Inhabited α] (cf:α → α → Int) (l:List α):List α:=(Sort.pdq (ltOf cf) l.toArray 0 l.length (Lib.bitLen l.length) true true).toList
section
variable {α:Type} [Inhabited α] {cf:α → α → Int}
theorem sortL_spec (hO:Sort.SWO (ltOf cf)) (l:List α):(sortL cf l).Perm l ∧ (sortL cf l).Pairwise (fun x y=>ltOf cf y x = false):=by
 have h:=Sort.pdq_sorts (ltOf cf) hO l.toArray 0 l.length (Lib.bitLen l.length) true true (Nat.zero_le _) (by simp) (Or.inl rfl)
 unfold sortL
 generalize Sort.pdq (ltOf cf) l.toArray 0 l.length (Lib.bitLen l.length) true true = d at h
 obtain ⟨⟨h1,_,h3⟩,h4⟩:=h
 have hs:d.size = l.length:=by simpa using h1
 have e1:d.extract 0 l.length = d:=by rw [← hs];exact extract_all d
 have e2:(l.toArray).extract 0 l.length = l.toArray:=by simp
 rw [e1,e2] at h3
 refine ⟨by simpa using h3,?_⟩
 rw [List.pairwise_iff_getElem]
 intro i j hi hj hij
 have:=h4 i j (Nat.zero_le _) hij (by rw [← hs];simpa using hj)
 rw [getElem!_pos d j (by simpa using hj),getElem!_pos d i (by simpa using hi)] at this
 simpa using this
theorem sortL_len (hO:Sort.SWO (ltOf cf)) (l:List α):(sortL cf l).length = l.length:=(sortL_spec hO l).1.length_eq
end
section
variable {P:Program}
theorem fnm_sort {α:Type} {F G:FuncId} {k e:Nat} {enc:α → List Value} (hE:Enc k enc) {l l':List α} (hlen:l'.length = l.length) (hent:Ent P F)
   (hnil:∀ w,Calls P F #[.slice none 0 0,.func (.func G) #[] #[]] w fun e w'=>e = .returned (.tuple #[]) ∧ w' = w)
   (hrun:∀ (b cap:Nat) (w:World),b < w.heap.size → (∀ i x,l[i]? = some x → ∀ j v,(enc x)[j]? = some v → w.cell? ⟨b,i * k + j,none⟩ = some v ∧ w.frozen? ⟨b,i * k + j,none⟩ = false) →
     Calls P F #[.slice (some ⟨b,0,none⟩) l.length cap,.func (.func G) #[] #[]] w fun e w'=>e = .returned (.tuple #[]) ∧ ∃ (n:Nat) (os:Array Obj) (f:Array Value → Array Value),w' = Sort.grow (Sort.mapBlock (Sort.ahead w n) b f) os ∧
       ∀ cs:Array Value,(f cs).size = cs.size ∧ ∀ i x,l'[i]? = some x → ∀ j v,(enc x)[j]? = some v → i * k + j < cs.size → (f cs)[i * k + j]? = some v) :
   FnM P F [.row 1000 0,.per (rawP (.func (.func G) #[] #[]))] [(1000,.row e k (l.map (rawsE enc)))] .any [(1000,.row e k (l'.map (rawsE enc)))]:=by
 refine ⟨hent,?_⟩
 intro C w vs hW hN hO hvl hvs hb
 obtain ⟨v0,v1,rfl⟩:∃ v0 v1,vs = [v0,v1]:=by match vs,hvl with|[a,b],_=>exact ⟨a,b,rfl⟩
 have h0:=hvs 0 v0 _ rfl rfl
 have h1:=hvs 1 v1 _ rfl rfl
 have e1:v1 = .func (.func G) #[] #[]:=h1
 have e0:v0 = C.G0.rh 1000:=h0.2 rfl
 subst e0 e1
 have other:∀ (l:List α) id,id ≠ 1000 → lookB id [(1000,Blk.row e k (l.map (rawsE enc)))] = .none:=fun l id h=>by simp [lookB,nbeq_false h]
 have this1:∀ (l:List α),lookB 1000 [(1000,Blk.row e k (l.map (rawsE enc)))] = .row e k (l.map (rawsE enc)):=fun l=>rfl
 have hrow:=hb 1000
 rw [this1] at hrow
 rcases hrow with ⟨q1,q2⟩|⟨cap,cs,q1,q2,q3,q4,q5,q6,q7⟩
 · have hl0:l = []:=by simpa using q2
   have hl0':l' = []:=List.eq_nil_of_length_eq_zero (by rw [hlen,hl0];rfl)
   rw [q1]
   refine (hnil w).mono ?_
   rintro e' w' ⟨rfl,rfl⟩
   refine ⟨_,C.G0,rfl,⟨rfl,rfl,rfl,Nat.le_refl _,fun _ _ _=>rfl,fun b id h=>⟨(hO b id h).1,.inr (hO b id h).2⟩,fun _ _=>⟨rfl,rfl⟩⟩,trivial,fun id=>?_⟩
   by_cases hid:id = 1000
   · subst hid
     exact .inl ⟨q1,by rw [hl0'];rfl⟩
   · rw [other _ _ hid];trivial
 · rw [List.length_map] at q1 q4
   obtain ⟨b,hb0⟩:∃ b,b = C.G0.ph 1000:=⟨_,rfl⟩
   rw [← hb0] at q1 q2 q3
   have hbl:=hO b 1000 q3
   have hcells:∀ i x,l[i]? = some x → ∀ j v,(enc x)[j]? = some v → w.cell? ⟨b,i * k + j,none⟩ = some v ∧ w.frozen? ⟨b,i * k + j,none⟩ = false:=by
     intro i x hi j v hj
     obtain ⟨_,g⟩:=q7 i (rawsE enc x) (by rw [List.getElem?_map,hi];rfl)
     obtain ⟨y,y1,_,y3⟩:=g j (rawP v) (by unfold rawsE;rw [List.getElem?_map,hj];rfl)
     have y3:y = v:=y3
     subst y3
     refine ⟨by simp [World.cell?,q2,y1],by simp [World.frozen?,q2]⟩
   rw [q1]
   refine (hrun b cap w hbl.1 hcells).mono ?_
   rintro e' w' ⟨rfl,n,os,f,rfl,hf⟩
   have hblock:∀ b',b' < w.heap.size → b' ≠ b → (Sort.grow (Sort.mapBlock (Sort.ahead w n) b f) os).heap[b']? = w.heap[b']?:=fun b' h h'=>by
     show ((w.heap.modify b (Sort.onCells f)) ++ os)[b']? = _
     rw [Array.getElem?_append_left (by simpa using h),Array.getElem?_modify,if_neg (Ne.symm h')]
   have hthis:(Sort.grow (Sort.mapBlock (Sort.ahead w n) b f) os).heap[b]? = some (.cells (f cs) e (0,0)):=by
     show ((w.heap.modify b (Sort.onCells f)) ++ os)[b]? = _
     rw [Array.getElem?_append_left (by simpa using hbl.1),Array.getElem?_modify,if_pos rfl,q2]
     rfl
   have hsz:w.heap.size ≤ (Sort.grow (Sort.mapBlock (Sort.ahead w n) b f) os).heap.size:=by
     show _ ≤ ((w.heap.modify b (Sort.onCells f)) ++ os).size
     simp
   refine ⟨_,C.G0,rfl,⟨rfl,rfl,rfl,hsz,fun b' h h'=>hblock b' h (fun e=>h' (e ▸ hbl.2)),fun b' id h=>⟨Nat.lt_of_lt_of_le (hO b' id h).1 hsz,.inr (hO b' id h).2⟩,fun _ _=>⟨rfl,rfl⟩⟩,trivial,fun id=>?_⟩
   by_cases hid:id = 1000
   · subst hid
     obtain ⟨f1,f2⟩:=hf cs
     refine .inr ⟨cap,f cs,?_,?_,?_,by simpa [hlen] using q4,q5,by rw [f1];exact q6,?_⟩
     · rw [← hb0,List.length_map,hlen];exact q1
     · rw [← hb0];exact hthis
     · rw [← hb0];exact q3
     · intro i ps hi
       rw [List.getElem?_map] at hi
       obtain ⟨x,hx,rfl⟩:=Option.map_eq_some_iff.1 hi
       refine ⟨by simp [rawsE,hE.len],fun j A hj=>?_⟩
       unfold rawsE at hj
       rw [List.getElem?_map] at hj
       obtain ⟨v,hv,rfl⟩:=Option.map_eq_some_iff.1 hj
       have hj':j < k:=by
         rw [← hE.len x];exact (List.getElem?_eq_some_iff.1 hv).1
       have hi':i < l'.length:=(List.getElem?_eq_some_iff.1 hx).1
       have hlt:i * k + j < cs.size:=by
         rw [q6]
         have h2:(i + 1) * k ≤ cap * k:=Nat.mul_le_mul_right k (by omega)
         rw [Nat.add_mul,Nat.one_mul] at h2
         omega
       exact ⟨v,f2 i x hx j v hv hlt,hE.one x v (List.mem_of_getElem? hv),rfl⟩
   · rw [other _ _ hid];trivial
theorem div_mod {i j k:Nat} (h:j < k):(i * k + j) / k = i ∧ (i * k + j) % k = j:=by
 have hk:0 < k:=by omega
 refine ⟨?_,?_⟩
 · rw [Nat.add_comm,Nat.add_mul_div_right _ _ hk,Nat.div_eq_of_lt h,Nat.zero_add]
 · rw [Nat.add_comm,Nat.add_mul_mod_self_right,Nat.mod_eq_of_lt h]
theorem put_get {β:Type} [Inhabited β] (en:β → Value) (F:Array β) (cs:Array Value) (t:Nat) (h:t < cs.size) (hF:t < F.size):(Sort.putCells en 0 F cs)[t]? = some (en F[t]!):=by
 unfold Sort.putCells
 rw [Array.getElem?_mapIdx,Array.getElem?_eq_getElem h]
 simp only [Option.map_some]
 rw [if_pos ⟨Nat.zero_le _,by omega⟩,Nat.sub_zero]
theorem putC_size {β:Type} [Inhabited β] (en:β → Value) (F:Array β) (cs:Array Value):(Sort.putCells en 0 F cs).size = cs.size:=by
 unfold Sort.putCells;simp
theorem fnm_sortK {α:Type} [Inhabited α] {ρ:Ren} {G k e:Nat} (L:SlLaysF0.n6 P ρ) (aE:∀ w,(isAgg (ρ.t 24)).run P w = .ok true w) (zE:∀ w,(Go.sizeOf (ρ.t 24)).run P w = .ok k w) {enc:α → List Value} (hE:Enc k enc)
   {cf:α → α → Int} (hO:Sort.SWO (ltOf cf)) (eg:∀ args w,(callFunc G args).run P w = .ok (.enter G args) w)
   (hc:∀ x y w,Calls P G #[.agg (enc x).toArray,.agg (enc y).toArray] w fun e w'=>e = .returned (.int .i64 (cf x y)) ∧ Gw w w') (hent:Ent P (ρ.f 6)) (l:List α) (hl:l.length < 4611686018427387904) :
   FnM P (ρ.f 6) [.row 1000 0,.per (rawP (.func (.func G) #[] #[]))] [(1000,.row e k (l.map (rawsE enc)))] .any [(1000,.row e k ((sortL cf l).map (rawsE enc)))]:=by
 refine fnm_sort hE (sortL_len hO l) hent (fun w=>AnyF.slices_SortFunc_none L none 0 _ w) ?_
 intro b cap w hb hcells
 have hH:Sort.HoldsK enc k w b 0 l.toArray:=by
   intro t ht
   rw [Sort.size_flatK] at ht
   have hk:0 < k:=hE.pos
   have hi:t / k < l.length:=Nat.div_lt_of_lt_mul (by rw [Nat.mul_comm];simpa using ht)
   have hj:t % k < (enc (l[t / k])).length:=by rw [hE.len];exact Nat.mod_lt _ hk
   have h1:=hcells (t / k) l[t / k] (List.getElem?_eq_getElem hi) (t % k) _ (List.getElem?_eq_getElem hj)
   rw [Sort.get_flatK _ _ _ _ ht,Nat.zero_add,show t / k * k + t % k = t from by rw [Nat.mul_comm];exact Nat.div_add_mod t k] at *
   rw [getElem!_pos l.toArray (t / k) (by simpa using hi),List.getElem_toArray,getElem!_pos _ (t % k) hj]
   exact h1
 have hcmp:CmpLays P G #[] enc k cf b 0 l.toArray.size w:=fun m os dk _ x y=>hc x y _
 have:=AnyQ.slices_SortFunc_eq (P:=P) (ρ:=ρ) L k aE zE enc hE.len hE.one cf hO G #[] b 0 cap l.toArray w eg hcmp hH hb (by simpa using hl)
 rw [List.size_toArray] at this
 refine this.mono ?_
 rintro e' w' ⟨he,n,os,hw⟩
 have hs:=sortL_len hO l
 unfold sortL at hs ⊢
 generalize Sort.pdq (ltOf cf) l.toArray 0 l.length (Lib.bitLen l.length) true true = d at *
 rw [Array.length_toList] at hs
 refine ⟨he,n,os,Sort.putCells id 0 (Sort.flatK enc k d),hw,fun cs=>⟨putC_size _ _ _,fun i x hi j v hj hlt=>?_⟩⟩
 have hj':j < k:=by rw [← hE.len x];exact (List.getElem?_eq_some_iff.1 hj).1
 have hi':i < d.size:=by simpa using (List.getElem?_eq_some_iff.1 hi).1
 have hlt':i * k + j < d.size * k:=by
   have:=Nat.mul_le_mul_right k (show i + 1 ≤ d.size from hi')
   rw [Nat.add_mul,Nat.one_mul] at this
   omega
 rw [put_get _ _ _ _ hlt (by rw [Sort.size_flatK];exact hlt'),Sort.get_flatK _ _ _ _ hlt',(div_mod hj').1,(div_mod hj').2]
 have ex:d[i]! = x:=by
   rw [getElem!_pos d i hi']
   have:=(List.getElem?_eq_some_iff.1 hi).2
   simpa using this
 obtain ⟨q1,q2⟩:=List.getElem?_eq_some_iff.1 hj
 rw [ex,getElem!_pos _ j q1,q2]
 rfl
theorem fnm_sort1 {α:Type} [Inhabited α] {ρ:Ren} {G e:Nat} (L:SlLaysF.n6 P ρ) {enc:α → Value} (hE:OneCell enc)
   {cf:α → α → Int} (hO:Sort.SWO (ltOf cf)) (eg:∀ args w,(callFunc G args).run P w = .ok (.enter G args) w)
   (hc:∀ x y w,Calls P G #[enc x,enc y] w fun e w'=>e = .returned (.int .i64 (cf x y)) ∧ Gw w w') (hent:Ent P (ρ.f 6)) (l:List α) (hl:l.length < 4611686018427387904) :
   FnM P (ρ.f 6) [.row 1000 0,.per (rawP (.func (.func G) #[] #[]))] [(1000,.row e 1 (l.map (rawsE fun x=>[enc x])))] .any [(1000,.row e 1 ((sortL cf l).map (rawsE fun x=>[enc x])))]:=by
 refine fnm_sort (enc:=fun x=>[enc x]) ⟨by decide,fun _=>rfl,fun x v hv=>by simp at hv;subst hv;exact hE x⟩ (sortL_len hO l) hent (fun w=>AnyF.slices_SortFunc_none { L with } none 0 _ w) ?_
 intro b cap w hb hcells
 have hH:Sort.Holds enc w b 0 l.toArray:=by
   intro t ht
   have hi:t < l.length:=by simpa using ht
   have h1:=hcells t l[t] (List.getElem?_eq_getElem hi) 0 _ rfl
   rw [Nat.mul_one,Nat.add_zero] at h1
   rw [getElem!_pos l.toArray t (by simpa using hi),List.getElem_toArray,Nat.zero_add]
   exact h1
 have hcmp:CmpLays1 P G #[] enc cf b 0 l.toArray.size w:=fun m os dk _ x y=>hc x y _
 have:=Any.slices_SortFunc_eq (P:=P) (ρ:=ρ) L enc hE cf hO G #[] b 0 cap l.toArray w eg hcmp hH hb (by simpa using hl)
 rw [List.size_toArray] at this
 refine this.mono ?_
 rintro e' w' ⟨he,n,os,hw⟩
 have hs:=sortL_len hO l
 unfold sortL at hs ⊢
 generalize Sort.pdq (ltOf cf) l.toArray 0 l.length (Lib.bitLen l.length) true true = d at *
 rw [Array.length_toList] at hs
 refine ⟨he,n,os,Sort.putCells enc 0 d,hw,fun cs=>⟨putC_size _ _ _,fun i x hi j v hj hlt=>?_⟩⟩
 obtain ⟨q1,q2⟩:=List.getElem?_eq_some_iff.1 hj
 obtain rfl:j = 0:=by simpa using q1
 have hi':i < d.size:=by simpa using (List.getElem?_eq_some_iff.1 hi).1
 rw [Nat.mul_one,Nat.add_zero] at hlt ⊢
 rw [put_get _ _ _ _ hlt hi']
 have ex:d[i]! = x:=by
   rw [getElem!_pos d i hi']
   have:=(List.getElem?_eq_some_iff.1 hi).2
   simpa using this
 rw [ex]
 simpa using q2
end
end Go.Proofs.YtfcpkegmdlchhaaGreat
namespace Go.Proofs.YtfcpkegmdlchhaaGreat
open Go.RowKit Go.Shelf
theorem key_CmpG (s t:ByteArray) (hs:s.size ≤ 1000000000000) (w:World) :
   Calls Tryz.prog 113 #[.string s,.string t] w fun e w'=>e = .returned (.int .i64 (cmpB s t)) ∧ Gw w w':=by
 have HR:Hid (cmpL s.data.toList t.data.toList = cmpB s t):=Lib.hid rfl
 have es:s.data.toList.length = s.size:=by simp
 have et:t.data.toList.length = t.size:=by simp
 generalize hR:cmpB s t = R at *
 clear hR
 go_enter Tryz.func113,Tryz.ntmps113
 go_wp2
 go_loopw [11] (fun i wr=>∃ k:Nat,k ≤ s.size ∧ k ≤ t.size ∧ i = .int .i64 k ∧ Hid (cmpL (s.data.toList.drop k) (t.data.toList.drop k) = R) ∧ Gw w wr) (fun i _=>s.size - (intOf i).toNat)
 case atStart=>exact ⟨0,Nat.zero_le _,Nat.zero_le _,rfl,Lib.hid (by simpa using HR.out),Gw.refl _⟩
 case round=>
   obtain ⟨k,hk,hk',rfl,HK,hx⟩:=hrel
   clear HR
   by_cases hlt:k < s.size ∧ k < t.size
   · obtain ⟨h1,h2⟩:=hlt
     have HS:Hid (cmpL (s.data.toList.drop k) (t.data.toList.drop k) = if (s[k]'h1).toNat < (t[k]'h2).toNat then -1 else if (t[k]'h2).toNat < (s[k]'h1).toNat then 1 else cmpL (s.data.toList.drop (k + 1)) (t.data.toList.drop (k + 1))):=
       Lib.hid (cmpL_step s.data.toList t.data.toList k (by omega) (by omega))
     by_cases c1:(s[k]'h1).toNat < (t[k]'h2).toNat
     · have HE:Hid (R = -1):=Lib.hid (by rw [← HK.out,HS.out,if_pos c1])
       go_wp2
       go_quiet (fail)
       go_wp2
       go_ret
       exact ⟨ret_eq (int_eq HE.out.symm),hx.drewN _⟩
     · by_cases c2:(t[k]'h2).toNat < (s[k]'h1).toNat
       · have HE:Hid (R = 1):=Lib.hid (by rw [← HK.out,HS.out,if_neg c1,if_pos c2])
         go_wp2
         go_quiet (fail)
         go_wp2
         go_quiet (fail)
         go_wp2
         go_ret
         exact ⟨ret_eq (int_eq HE.out.symm),by first|exact hx.drewN _|exact (hx.drewN _).drewN _⟩
       · have HE:Hid (cmpL (s.data.toList.drop (k + 1)) (t.data.toList.drop (k + 1)) = R):=Lib.hid (by rw [← HK.out,HS.out,if_neg c1,if_neg c2])
         go_wp2
         go_quiet (fail)
         go_wp2
         go_quiet (fail)
         go_wp2
         go_roundw
         case rel=>exact ⟨k + 1,by omega,by omega,by go_num,HE,hx.drewN _⟩
         case measure=>simp [intOf];omega
   · have HS:=Lib.hid (cmpL_end s.data.toList t.data.toList k (by omega) (by omega) (by omega))
     by_cases c1:s.size < t.size
     · have HE:Hid (R = -1):=Lib.hid (by rw [← HK.out,HS.out,if_pos (by omega)])
       go_wp2
       go_ret
       exact ⟨ret_eq (int_eq HE.out.symm),hx⟩
     · by_cases c2:t.size < s.size
       · have HE:Hid (R = 1):=Lib.hid (by rw [← HK.out,HS.out,if_neg (by omega),if_pos (by omega)])
         go_wp2
         go_ret
         exact ⟨ret_eq (int_eq HE.out.symm),hx⟩
       · have HE:Hid (R = 0):=Lib.hid (by rw [← HK.out,HS.out,if_neg (by omega),if_neg (by omega)])
         go_wp2
         go_ret
         exact ⟨ret_eq (int_eq HE.out.symm),hx⟩
end Go.Proofs.YtfcpkegmdlchhaaGreat
namespace Go.Proofs.YtfcpkegmdlchhaaGreat
open Go.RowKit Go.Shelf
/-! ### texts -/
abbrev BT:={s:ByteArray // s.size ≤ 1000000000000}
instance:Inhabited BT:=⟨⟨⟨#[]⟩,by decide⟩⟩
def cmpT (x y:BT):Int:=cmpB x.1 y.1
theorem cmpT_swo:Sort.SWO (ltOf cmpT) where
 irrefl x:=by unfold ltOf cmpT;rw [o_self];rfl
 trans x y z h1 h2:=by
   unfold ltOf cmpT at *
   rw [decide_eq_true_eq,o_lt] at *
   grind
 ntrans x y z h1 h2:=by
   unfold ltOf cmpT at *
   rw [decide_eq_false_iff_not,o_lt] at *
   grind
def sortT (l:List ByteArray):List ByteArray:=if h:∀ s ∈ l,s.size ≤ 1000000000000 then (sortL cmpT (l.pmap Subtype.mk h)).map Subtype.val else l
theorem sortT_spec {l:List ByteArray} (h:∀ s ∈ l,s.size ≤ 1000000000000):(sortT l).Perm l ∧ (sortT l).Pairwise (fun x y=>¬ y < x):=by
 unfold sortT
 rw [dif_pos h]
 obtain ⟨h1,h2⟩:=sortL_spec cmpT_swo (l.pmap Subtype.mk h)
 refine ⟨?_,?_⟩
 · have:=h1.map Subtype.val
   rwa [List.map_pmap,List.pmap_eq_map,List.map_id'] at this
 · rw [List.pairwise_map]
   refine h2.imp fun {x y} q=>?_
   unfold ltOf cmpT at q
   rw [decide_eq_false_iff_not,o_lt] at q
   exact q
/-! ### runs -/
abbrev BRn:={r:Rn // rnR r = true}
instance:Inhabited BRn:=⟨⟨⟨1,1⟩,by decide⟩⟩
def cmpRn (x y:BRn):Int:=x.1.fr - y.1.fr
theorem cmpRn_swo:Sort.SWO (ltOf cmpRn) where
 irrefl x:=by unfold ltOf cmpRn;simp
 trans x y z h1 h2:=by unfold ltOf cmpRn at *;simp at *;omega
 ntrans x y z h1 h2:=by unfold ltOf cmpRn at *;simp at *;omega
def sortRn (l:List Rn):List Rn:=if h:∀ r ∈ l,rnR r = true then (sortL cmpRn (l.pmap Subtype.mk h)).map Subtype.val else l
theorem sortRn_spec {l:List Rn} (h:∀ r ∈ l,rnR r = true):(sortRn l).Perm l ∧ srtR (sortRn l):=by
 unfold sortRn srtR
 rw [dif_pos h]
 obtain ⟨h1,h2⟩:=sortL_spec cmpRn_swo (l.pmap Subtype.mk h)
 refine ⟨?_,?_⟩
 · have:=h1.map Subtype.val
   rwa [List.map_pmap,List.pmap_eq_map,List.map_id'] at this
 · rw [List.pairwise_map]
   refine h2.imp fun {x y} q=>?_
   unfold ltOf cmpRn at q
   simp at q
   omega
theorem ent_of {F : FuncId} {fn : Func} (h : Tryz.prog.funcs[F]? = some fn) (h1 : (fn.name == "runtime.NumGoroutine") = false) (h2 : fn.body.isNone = false) : Ent Tryz.prog F := ⟨fn, h, h1, h2⟩
section
def so_str_ren:Go.Shelf.Ren:=⟨fun|6=>169|14=>188|15=>187|20=>203|21=>204|22=>205|23=>206|24=>207|25=>208|26=>209|27=>210|28=>201|29=>202|46=>227|47=>223|48=>224|49=>228|50=>229|57=>235|n=>n,fun|0=>0|3=>3|4=>4|5=>5|9=>9|22=>155|24=>9|25=>152|39=>215|45=>222|46=>223|50=>227|53=>230|55=>232|66=>246|70=>250|76=>257|77=>258|n=>n,fun n=>n⟩
theorem so_str:SlLaysF.n6 Tryz.prog so_str_ren:={ mixed:=by kernel_rfl,f6:=⟨Tryz.f169.name,by decide,Tryz.func169.trans (congrArg some (by kernel_rfl))⟩,f14:=⟨Tryz.f188.name,by decide,Tryz.func188.trans (congrArg some (by kernel_rfl))⟩,f15:=Tryz.func187.trans (congrArg some (by kernel_rfl)),f20:=⟨Tryz.f203.name,by decide,Tryz.func203.trans (congrArg some (by kernel_rfl))⟩,f21:=⟨Tryz.f204.name,by decide,Tryz.func204.trans (congrArg some (by kernel_rfl))⟩,f22:=⟨Tryz.f205.name,by decide,Tryz.func205.trans (congrArg some (by kernel_rfl))⟩,f23:=⟨Tryz.f206.name,by decide,Tryz.func206.trans (congrArg some (by kernel_rfl))⟩,f24:=⟨Tryz.f207.name,by decide,Tryz.func207.trans (congrArg some (by kernel_rfl))⟩,f25:=⟨Tryz.f208.name,by decide,Tryz.func208.trans (congrArg some (by kernel_rfl))⟩,f26:=⟨Tryz.f209.name,by decide,Tryz.func209.trans (congrArg some (by kernel_rfl))⟩,f27:=⟨Tryz.f210.name,by decide,Tryz.func210.trans (congrArg some (by kernel_rfl))⟩,f28:=Tryz.func201.trans (congrArg some (by kernel_rfl)),f29:=Tryz.func202.trans (congrArg some (by kernel_rfl)),f46:=⟨Tryz.f227.name,by decide,Tryz.func227.trans (congrArg some (by kernel_rfl))⟩,f47:=Tryz.func223.trans (congrArg some (by kernel_rfl)),f48:=Tryz.func224.trans (congrArg some (by kernel_rfl)),f49:=⟨Tryz.f228.name,by decide,Tryz.func228.trans (congrArg some (by kernel_rfl))⟩,f50:=⟨Tryz.f229.name,by decide,Tryz.func229.trans (congrArg some (by kernel_rfl))⟩,f57:=⟨Tryz.f235.name,by decide,Tryz.func235.trans (congrArg some (by kernel_rfl))⟩,t0:=Tryz.underlying0,a0:=Tryz.isAgg0,z0:=Tryz.sizeOf0,v0:=Tryz.zeroValue0,t3:=Tryz.underlying3,a3:=Tryz.isAgg3,z3:=Tryz.sizeOf3,v3:=Tryz.zeroValue3,t4:=Tryz.underlying4,a4:=Tryz.isAgg4,z4:=Tryz.sizeOf4,v4:=Tryz.zeroValue4,t5:=Tryz.underlying5,a5:=Tryz.isAgg5,z5:=Tryz.sizeOf5,v5:=Tryz.zeroValue5,t9:=Tryz.underlying9,a9:=Tryz.isAgg9,z9:=Tryz.sizeOf9,v9:=Tryz.zeroValue9,t22:=Tryz.underlying155,a22:=Tryz.isAgg155,z22:=Tryz.sizeOf155,v22:=Tryz.zeroValue155,t25:=Tryz.underlying152,a25:=Tryz.isAgg152,z25:=Tryz.sizeOf152,v25:=Tryz.zeroValue152,t39:=Tryz.underlying215,a39:=Tryz.isAgg215,z39:=Tryz.sizeOf215,v39:=Tryz.zeroValue215,t45:=Tryz.underlying222,a45:=Tryz.isAgg222,z45:=Tryz.sizeOf222,v45:=Tryz.zeroValue222,t46:=Tryz.underlying223,a46:=Tryz.isAgg223,z46:=Tryz.sizeOf223,v46:=Tryz.zeroValue223,t50:=Tryz.underlying227,a50:=Tryz.isAgg227,z50:=Tryz.sizeOf227,v50:=Tryz.zeroValue227,t53:=Tryz.underlying230,a53:=Tryz.isAgg230,z53:=Tryz.sizeOf230,v53:=Tryz.zeroValue230,t55:=Tryz.underlying232,a55:=Tryz.isAgg232,z55:=Tryz.sizeOf232,v55:=Tryz.zeroValue232,t66:=Tryz.underlying246,a66:=Tryz.isAgg246,z66:=Tryz.sizeOf246,v66:=Tryz.zeroValue246,t70:=Tryz.underlying250,a70:=Tryz.isAgg250,z70:=Tryz.sizeOf250,v70:=Tryz.zeroValue250,t76:=Tryz.underlying257,a76:=Tryz.isAgg257,z76:=Tryz.sizeOf257,v76:=Tryz.zeroValue257,t77:=Tryz.underlying258,a77:=Tryz.isAgg258,z77:=Tryz.sizeOf258,v77:=Tryz.zeroValue258,a24:=Tryz.isAgg9,z24:=Tryz.sizeOf9 }
theorem sort_str (l:List ByteArray) (h:∀ s ∈ l,s.size ≤ 1000000000000) (hl:l.length ≤ 1000000000) :
   FnM Tryz.prog 169 [.row 1000 0,.per (rawP (.func (.func 113) #[] #[]))] [(1000,.row 9 1 (l.map strP))] .any [(1000,.row 9 1 ((sortT l).map strP))]:=by
 have:=fnm_sort1 (e:=9) (G:=113) so_str (enc:=fun x:BT=>Value.string x.1) (fun _=>rfl) cmpT_swo (enters_of Tryz.func113 (by kernel_rfl) rfl)
   (fun x y w=>key_CmpG x.1 y.1 x.2 w) (ent_of Tryz.func169 (by kernel_rfl) (by kernel_rfl)) (l.pmap Subtype.mk h) (by rw [List.length_pmap];omega)
 have e1:(l.pmap Subtype.mk h).map (rawsE fun x:BT=>[Value.string x.1]) = l.map strP:=by rw [List.map_pmap];exact List.pmap_eq_map (f:=strP) h
 have e2:(sortL cmpT (l.pmap Subtype.mk h)).map (rawsE fun x:BT=>[Value.string x.1]) = (sortT l).map strP:=by unfold sortT;rw [dif_pos h,List.map_map];rfl
 rw [e1,e2] at this
 exact this
def so_run_ren:Go.Shelf.Ren:=⟨fun|6=>211|14=>230|15=>187|20=>236|21=>237|22=>238|23=>239|24=>240|25=>241|26=>242|27=>243|28=>201|29=>202|46=>245|47=>223|48=>224|49=>246|50=>247|57=>248|n=>n,fun|0=>0|3=>3|4=>4|5=>5|9=>9|22=>130|24=>134|25=>239|39=>215|45=>222|46=>223|50=>227|53=>230|55=>232|66=>246|70=>250|76=>257|77=>258|n=>n,fun n=>n⟩
theorem so_run:SlLaysF0.n6 Tryz.prog so_run_ren:={ mixed:=by kernel_rfl,f6:=⟨Tryz.f211.name,by decide,Tryz.func211.trans (congrArg some (by kernel_rfl))⟩,f14:=⟨Tryz.f230.name,by decide,Tryz.func230.trans (congrArg some (by kernel_rfl))⟩,f15:=Tryz.func187.trans (congrArg some (by kernel_rfl)),f20:=⟨Tryz.f236.name,by decide,Tryz.func236.trans (congrArg some (by kernel_rfl))⟩,f21:=⟨Tryz.f237.name,by decide,Tryz.func237.trans (congrArg some (by kernel_rfl))⟩,f22:=⟨Tryz.f238.name,by decide,Tryz.func238.trans (congrArg some (by kernel_rfl))⟩,f23:=⟨Tryz.f239.name,by decide,Tryz.func239.trans (congrArg some (by kernel_rfl))⟩,f24:=⟨Tryz.f240.name,by decide,Tryz.func240.trans (congrArg some (by kernel_rfl))⟩,f25:=⟨Tryz.f241.name,by decide,Tryz.func241.trans (congrArg some (by kernel_rfl))⟩,f26:=⟨Tryz.f242.name,by decide,Tryz.func242.trans (congrArg some (by kernel_rfl))⟩,f27:=⟨Tryz.f243.name,by decide,Tryz.func243.trans (congrArg some (by kernel_rfl))⟩,f28:=Tryz.func201.trans (congrArg some (by kernel_rfl)),f29:=Tryz.func202.trans (congrArg some (by kernel_rfl)),f46:=⟨Tryz.f245.name,by decide,Tryz.func245.trans (congrArg some (by kernel_rfl))⟩,f47:=Tryz.func223.trans (congrArg some (by kernel_rfl)),f48:=Tryz.func224.trans (congrArg some (by kernel_rfl)),f49:=⟨Tryz.f246.name,by decide,Tryz.func246.trans (congrArg some (by kernel_rfl))⟩,f50:=⟨Tryz.f247.name,by decide,Tryz.func247.trans (congrArg some (by kernel_rfl))⟩,f57:=⟨Tryz.f248.name,by decide,Tryz.func248.trans (congrArg some (by kernel_rfl))⟩,t0:=Tryz.underlying0,a0:=Tryz.isAgg0,z0:=Tryz.sizeOf0,v0:=Tryz.zeroValue0,t3:=Tryz.underlying3,a3:=Tryz.isAgg3,z3:=Tryz.sizeOf3,v3:=Tryz.zeroValue3,t4:=Tryz.underlying4,a4:=Tryz.isAgg4,z4:=Tryz.sizeOf4,v4:=Tryz.zeroValue4,t5:=Tryz.underlying5,a5:=Tryz.isAgg5,z5:=Tryz.sizeOf5,v5:=Tryz.zeroValue5,t9:=Tryz.underlying9,a9:=Tryz.isAgg9,z9:=Tryz.sizeOf9,v9:=Tryz.zeroValue9,t22:=Tryz.underlying130,a22:=Tryz.isAgg130,z22:=Tryz.sizeOf130,v22:=Tryz.zeroValue130,t25:=Tryz.underlying239,a25:=Tryz.isAgg239,z25:=Tryz.sizeOf239,v25:=Tryz.zeroValue239,t39:=Tryz.underlying215,a39:=Tryz.isAgg215,z39:=Tryz.sizeOf215,v39:=Tryz.zeroValue215,t45:=Tryz.underlying222,a45:=Tryz.isAgg222,z45:=Tryz.sizeOf222,v45:=Tryz.zeroValue222,t46:=Tryz.underlying223,a46:=Tryz.isAgg223,z46:=Tryz.sizeOf223,v46:=Tryz.zeroValue223,t50:=Tryz.underlying227,a50:=Tryz.isAgg227,z50:=Tryz.sizeOf227,v50:=Tryz.zeroValue227,t53:=Tryz.underlying230,a53:=Tryz.isAgg230,z53:=Tryz.sizeOf230,v53:=Tryz.zeroValue230,t55:=Tryz.underlying232,a55:=Tryz.isAgg232,z55:=Tryz.sizeOf232,v55:=Tryz.zeroValue232,t66:=Tryz.underlying246,a66:=Tryz.isAgg246,z66:=Tryz.sizeOf246,v66:=Tryz.zeroValue246,t70:=Tryz.underlying250,a70:=Tryz.isAgg250,z70:=Tryz.sizeOf250,v70:=Tryz.zeroValue250,t76:=Tryz.underlying257,a76:=Tryz.isAgg257,z76:=Tryz.sizeOf257,v76:=Tryz.zeroValue257,t77:=Tryz.underlying258,a77:=Tryz.isAgg258,z77:=Tryz.sizeOf258,v77:=Tryz.zeroValue258 }
theorem run_CmpG (x y:Rn) (hx:rnR x = true) (hy:rnR y = true) (w:World) :
   Calls Tryz.prog 212 #[.agg #[.int .i64 x.fr,.int .i64 x.to],.agg #[.int .i64 y.fr,.int .i64 y.to]] w fun e w'=>e = .returned (.int .i64 (x.fr - y.fr)) ∧ Gw w w':=by
 have h1:=(rnR_iff x).1 hx
 have h2:=(rnR_iff y).1 hy
 go_enter Tryz.func212,Tryz.ntmps212
 go_wp2
 go_ret
 exact ⟨rfl,((Gw.refl w).alloc _).alloc _⟩
theorem sort_run (l:List Rn) (h:∀ r ∈ l,rnR r = true) (hl:l.length ≤ 1000000000) :
   FnM Tryz.prog 211 [.row 1000 0,.per (rawP (.func (.func 212) #[] #[]))] [(1000,.row 134 2 (l.map rnP))] .any [(1000,.row 134 2 ((sortRn l).map rnP))]:=by
 have:=fnm_sortK (e:=134) (k:=2) (G:=212) so_run Tryz.isAgg134 Tryz.sizeOf134 (enc:=fun x:BRn=>encRn x.1) ⟨by decide,fun _=>rfl,fun x=>encRn_ok.one x.1⟩ cmpRn_swo (enters_of Tryz.func212 (by kernel_rfl) rfl)
   (fun x y w=>run_CmpG x.1 y.1 x.2 y.2 w) (ent_of Tryz.func211 (by kernel_rfl) (by kernel_rfl)) (l.pmap Subtype.mk h) (by rw [List.length_pmap];omega)
 have e1:(l.pmap Subtype.mk h).map (rawsE fun x:BRn=>encRn x.1) = l.map rnP:=by rw [List.map_pmap];exact List.pmap_eq_map (f:=rnP) h
 have e2:(sortL cmpRn (l.pmap Subtype.mk h)).map (rawsE fun x:BRn=>encRn x.1) = (sortRn l).map rnP:=by unfold sortRn;rw [dif_pos h,List.map_map];rfl
 rw [e1,e2] at this
 exact this
end
end Go.Proofs.YtfcpkegmdlchhaaGreat
