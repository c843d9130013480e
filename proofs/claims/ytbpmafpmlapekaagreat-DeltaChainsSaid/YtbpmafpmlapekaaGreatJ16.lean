/- Texts joined: IcR Law19P IcLR FcR Law10P. -/
import Derived.Test.YtbpmafpmlapekaaGreatJ15
import Derived.Test.YtbpmafpmlapekaaGreatJ12
import Derived.Test.YtbpmafpmlapekaaGreatJ14
import Derived.Test.YtbpmafpmlapekaaGreatJ13
import Derived.Test.YtbpmafpmlapekaaGreatJ10
namespace Go.Proofs.YtbpmafpmlapekaaGreat
open Go.RowKit
/-- all but the key, read; what is left, and the first error -/
def restSt (k : ByteArray) (l : List UInt8) (e : Int) : It × List UInt8 × Int :=
  let a := withinSt 1 16 l e
  let b := withinSt 1 1099511627776 a.2.1 a.2.2
  let c := withinSt 1 1099511627776 b.2.1 b.2.2
  let d := withinSt 0 255 c.2.1 c.2.2
  let f := withinSt 0 1 d.2.1 d.2.2
  let g := textSt 64 f.2.1 f.2.2
  (⟨k, a.1, b.1, c.1, d.1, f.1 == 1, ⟨g.1.toArray⟩⟩, g.2.1, g.2.2)
section
set_option maxRecDepth 10000
set_option maxHeartbeats 4000000
theorem restSt_suf (k : ByteArray) (l : List UInt8) (e : Int) : (restSt k l e).2.1 <:+ l := by
  dsimp only [restSt]
  exact (textSt_suf _ _ _).trans ((withinSt_suf _ _ _ _).trans ((withinSt_suf _ _ _ _).trans ((withinSt_suf _ _ _ _).trans ((withinSt_suf _ _ _ _).trans (withinSt_suf _ _ _ _)))))
/-- an item read of bytes: it, or the zero one, and what is wrong -/
def it0 : It := ⟨⟨#[]⟩, 0, 0, 0, 0, false, ⟨#[]⟩⟩
def rdItem (b : List UInt8) : It × Int :=
  let t := textSt 16 b 0
  let x := restSt ⟨t.1.toArray⟩ t.2.1 t.2.2
  let e := endSt x.2.1 x.2.2
  if e ≠ 0 then (it0, e) else if itR x.1 = false then (it0, 11) else (x.1, 0)
end
end Go.Proofs.YtbpmafpmlapekaaGreat
namespace Go.Proofs.YtbpmafpmlapekaaGreat
open Go.RowKit
theorem dead_num (x : It) : okNum (if x.dead then 1 else 0) := by unfold okNum; split <;> omega
theorem rest_put {x : It} (h : itR x = true) (r : List UInt8) : restSt x.key (restB x ++ r) 0 = (x, r, 0) := by
  obtain ⟨h1, h2, _, _⟩ := itR_nums h
  simp only [itR, keyR, verR, Bool.and_eq_true, decide_eq_true_eq] at h
  obtain ⟨⟨_, h3⟩, h4⟩ := h
  simp only [restNums, List.mem_cons, List.not_mem_nil, or_false, forall_eq_or_imp, forall_eq] at h1
  obtain ⟨a1, a2, a3, a4, a5⟩ := h1
  have e : restB x ++ r = numI x.rep ++ (numI x.cnt ++ (numI x.rank ++ (numI x.prio ++ (numI (if x.dead then 1 else 0) ++ (textB x.body ++ r))))) := by
    simp [restB, restNums, List.append_assoc]
  rw [e]
  dsimp only [restSt]
  rw [within_put a1 (by omega) (by omega)]
  dsimp only
  rw [within_put a2 (by omega) (by omega)]
  dsimp only
  rw [within_put a3 (by omega) (by omega)]
  dsimp only
  rw [within_put a4 (by omega) (by omega)]
  dsimp only
  rw [within_put a5 (by split <;> omega) (by split <;> omega)]
  dsimp only
  rw [text_put (by omega) (by omega), ba_eta]
  obtain ⟨k, a, b, c, d, f, g⟩ := x
  cases f <;> rfl
/-- an item that was put is read as it was -/
theorem rdItem_put {x : It} (h : itR x = true) : rdItem (itB x) = (x, 0) := by
  have hk := (itR_nums h).2.2.2
  dsimp only [rdItem]
  rw [itB, if_pos h]
  rw [text_put (by omega) (by omega)]
  dsimp only
  rw [ba_eta]
  have := rest_put h []
  rw [List.append_nil] at this
  rw [this]
  simp [endSt, h]
theorem rest_back {k : ByteArray} {l : List UInt8} {e : Int} (h : (restSt k l e).2.2 = 0) : e = 0 ∧ l = restB (restSt k l e).1 ++ (restSt k l e).2.1 ∧ (restSt k l e).1.key = k := by
  dsimp only [restSt] at h ⊢
  obtain ⟨g1, _, g2⟩ := text_back h
  obtain ⟨f1, f2, f3, f4, f5⟩ := within_back g1
  obtain ⟨d1, _, _, _, d5⟩ := within_back f1
  obtain ⟨c1, _, _, _, c5⟩ := within_back d1
  obtain ⟨b1, _, _, _, b5⟩ := within_back c1
  obtain ⟨a1, _, _, _, a5⟩ := within_back b1
  refine ⟨a1, ?_, rfl⟩
  generalize textSt 64 _ _ = g at *
  generalize withinSt 0 1 _ _ = f at *
  generalize withinSt 0 255 _ _ = d at *
  generalize withinSt 1 1099511627776 _ _ = c at *
  generalize withinSt 1 1099511627776 _ _ = b at *
  generalize withinSt 1 16 _ _ = a at *
  have hf : (if (f.1 == 1) = true then (1 : Int) else 0) = f.1 := by
    by_cases h : f.1 = 1
    · simp [h]
    · simp [h]; omega
  simp only [restB, restNums, List.flatMap_cons, List.flatMap_nil, List.append_nil, hf, List.append_assoc]
  rw [← g2, ← f5, ← d5, ← c5, ← b5]
  exact a5
/-- what is read was put just so -/
theorem rdItem_back {b : List UInt8} (h : (rdItem b).2 = 0) : itR (rdItem b).1 = true ∧ itB (rdItem b).1 = b := by
  dsimp only [rdItem] at h ⊢
  split at h
  · rename_i hc; exact absurd h hc
  · rename_i hc
    rw [if_neg hc]
    split at h
    · simp at h
    · rename_i hr
      rw [if_neg hr]
      have hr' : itR (restSt ⟨(textSt 16 b 0).1.toArray⟩ (textSt 16 b 0).2.1 (textSt 16 b 0).2.2).1 = true := by simpa using hr
      obtain ⟨e1, e2⟩ := end_back (by simpa using hc)
      obtain ⟨r1, r2, r3⟩ := rest_back e2
      obtain ⟨_, _, t3⟩ := text_back r1
      refine ⟨hr', ?_⟩
      rw [itB, if_pos hr', r3]
      rw [e1, List.append_nil] at r2
      rw [← r2, ← t3]
end Go.Proofs.YtbpmafpmlapekaaGreat
namespace Go.Proofs.YtbpmafpmlapekaaGreat
open Go.RowKit
theorem within_rng0 {most : Int} (h : 0 ≤ most) (l : List UInt8) (e : Int) : 0 ≤ (withinSt 0 most l e).1 ∧ (withinSt 0 most l e).1 ≤ most := by
  by_cases he : e = 0
  · subst he
    rw [withinSt_0]
    split
    · exact ⟨by simp, h⟩
    · split
      · exact ⟨by simp, h⟩
      · simp only; omega
  · rw [withinSt_e he]; exact ⟨by simp, h⟩
theorem text_len16 (l : List UInt8) (e : Int) : (textSt 16 l e).1.length ≤ 16 := by
  unfold textSt
  have := within_rng0 (most := 16) (by omega) l e
  split
  · simp
  · split
    · simp
    · rw [List.length_take]; omega
/-- the next key of a list: how much is as before, the key, what is left, and the first error -/
def rdKey (was : ByteArray) (l : List UInt8) (e : Int) : Int × ByteArray × List UInt8 × Int :=
  let s := withinSt 0 was.size l e
  let t := textSt 16 s.2.1 s.2.2
  (s.1, was.extract 0 s.1.toNat ++ ⟨t.1.toArray⟩, t.2.1, t.2.2)
def rdsGo : Nat → ByteArray → Bool → List It → List UInt8 → Int → List It × Bool × List UInt8 × Int
  | 0, _, f, acc, l, e => (acc, f, l, e)
  | n + 1, was, f, acc, l, e =>
    if e ≠ 0 then (acc, f, l, e) else
      let q := rdKey was l e
      let x := restSt q.2.1 q.2.2.1 q.2.2.2
      rdsGo n q.2.1 (f && itR x.1 && ((alike was q.2.1 : Int) == q.1)) (acc ++ [x.1]) x.2.1 x.2.2
def rdIn (l : List UInt8) (e : Int) : List It × Bool × List UInt8 × Int :=
  let s := withinSt 0 4096 l e
  rdsGo s.1.toNat s0 true [] s.2.1 s.2.2
def finI (r : List It × Bool × List UInt8 × Int) : List It × Int :=
  if endSt r.2.2.1 r.2.2.2 ≠ 0 then ([], endSt r.2.2.1 r.2.2.2) else if r.2.1 = false then ([], 11) else (r.1, 0)
def rdItems (b : List UInt8) : List It × Int := finI (rdIn b 0)
theorem rdKey_size (was : ByteArray) (l : List UInt8) (e : Int) : (rdKey was l e).2.1.size ≤ was.size + 16 ∧ 0 ≤ (rdKey was l e).1 ∧ (rdKey was l e).1 ≤ was.size := by
  dsimp only [rdKey]
  have h1 := within_rng0 (most := (was.size : Int)) (by omega) l e
  have h2 := text_len16 (withinSt 0 was.size l e).2.1 (withinSt 0 was.size l e).2.2
  refine ⟨?_, h1⟩
  rw [ByteArray.size_append, ByteArray.size_extract]
  show _ + (textSt 16 _ _).1.toArray.size ≤ _
  rw [List.size_toArray]
  omega
section
set_option maxRecDepth 10000
set_option maxHeartbeats 8000000
theorem rdsGo_suf (n : Nat) : ∀ (was : ByteArray) (f : Bool) (acc : List It) (l : List UInt8) (e : Int), (rdsGo n was f acc l e).2.2.1 <:+ l := by
  induction n with
  | zero => intro was f acc l e; exact List.suffix_refl l
  | succ n ih =>
    intro was f acc l e
    unfold rdsGo
    split
    · exact List.suffix_refl l
    · exact (ih _ _ _ _ _).trans ((restSt_suf _ _ _).trans ((textSt_suf _ _ _).trans (withinSt_suf _ _ _ _)))
theorem rdsGo_len (n : Nat) : ∀ (was : ByteArray) (f : Bool) (acc : List It) (l : List UInt8) (e : Int), (rdsGo n was f acc l e).1.length ≤ acc.length + n := by
  induction n with
  | zero => intro was f acc l e; simp [rdsGo]
  | succ n ih =>
    intro was f acc l e
    unfold rdsGo
    split
    · simp
    · have := ih (rdKey was l e).2.1 (f && itR (restSt (rdKey was l e).2.1 (rdKey was l e).2.2.1 (rdKey was l e).2.2.2).1 && ((alike was (rdKey was l e).2.1 : Int) == (rdKey was l e).1)) (acc ++ [(restSt (rdKey was l e).2.1 (rdKey was l e).2.2.1 (rdKey was l e).2.2.2).1]) (restSt (rdKey was l e).2.1 (rdKey was l e).2.2.1 (rdKey was l e).2.2.2).2.1 (restSt (rdKey was l e).2.1 (rdKey was l e).2.2.1 (rdKey was l e).2.2.2).2.2
      simp at this ⊢
      omega
end
end Go.Proofs.YtbpmafpmlapekaaGreat
namespace Go.Proofs.YtbpmafpmlapekaaGreat
open Go.RowKit
def ba (l : List UInt8) : ByteArray := ⟨l.toArray⟩
/-- a range read; what is left, and the first error -/
def rgSt (l : List UInt8) (e : Int) : Rg × List UInt8 × Int :=
  let t := textSt 17 l e
  let o := withinSt 0 1 t.2.1 t.2.2
  if (o.1 == 1) = true then (⟨ba t.1, e0, true⟩, o.2.1, o.2.2) else
    let h := textSt 17 o.2.1 o.2.2
    (⟨ba t.1, ba h.1, false⟩, h.2.1, h.2.2)
/-- a node read -/
def ndSt (l : List UInt8) (e : Int) : Nd × List UInt8 × Int :=
  let o := withinSt 1 8 l e
  if o.1 = 3 ∨ o.1 = 5 then
    let t := textSt 17 o.2.1 o.2.2
    (⟨o.1, 0, ba t.1, e0⟩, t.2.1, t.2.2)
  else if o.1 = 4 then
    let t := textSt 17 o.2.1 o.2.2
    let h := textSt 17 t.2.1 t.2.2
    (⟨o.1, 0, ba t.1, ba h.1⟩, h.2.1, h.2.2)
  else if o.1 = 6 then (⟨o.1, 1, e0, e0⟩, o.2.1, o.2.2)
  else if o.1 = 7 ∨ o.1 = 8 then
    let k := withinSt 0 32 o.2.1 o.2.2
    (⟨o.1, k.1, e0, e0⟩, k.2.1, k.2.2)
  else (⟨o.1, 0, e0, e0⟩, o.2.1, o.2.2)
/-- as many things, read one behind the other, till an error -/
def lsSt {α : Type} (st : List UInt8 → Int → α × List UInt8 × Int) : Nat → List α → List UInt8 → Int → List α × List UInt8 × Int
  | 0, acc, l, e => (acc, l, e)
  | n + 1, acc, l, e => if e ≠ 0 then (acc, l, e) else lsSt st n (acc ++ [(st l e).1]) (st l e).2.1 (st l e).2.2
def lisSt {α : Type} (st : List UInt8 → Int → α × List UInt8 × Int) (most : Int) (l : List UInt8) (e : Int) : List α × List UInt8 × Int :=
  lsSt st (withinSt 0 most l e).1.toNat [] (withinSt 0 most l e).2.1 (withinSt 0 most l e).2.2
theorem rgSt_suf (l : List UInt8) (e : Int) : (rgSt l e).2.1 <:+ l := by
  dsimp only [rgSt]
  split
  · exact (withinSt_suf _ _ _ _).trans (textSt_suf _ _ _)
  · exact (textSt_suf _ _ _).trans ((withinSt_suf _ _ _ _).trans (textSt_suf _ _ _))
theorem ndSt_suf (l : List UInt8) (e : Int) : (ndSt l e).2.1 <:+ l := by
  dsimp only [ndSt]
  split
  · exact (textSt_suf _ _ _).trans (withinSt_suf _ _ _ _)
  · split
    · exact (textSt_suf _ _ _).trans ((textSt_suf _ _ _).trans (withinSt_suf _ _ _ _))
    · split
      · exact withinSt_suf _ _ _ _
      · split
        · exact (withinSt_suf _ _ _ _).trans (withinSt_suf _ _ _ _)
        · exact withinSt_suf _ _ _ _
theorem lsSt_suf {α : Type} {st : List UInt8 → Int → α × List UInt8 × Int} (h : ∀ l e, (st l e).2.1 <:+ l) : ∀ (n : Nat) (acc : List α) (l : List UInt8) (e : Int), (lsSt st n acc l e).2.1 <:+ l := by
  intro n
  induction n with
  | zero => intro acc l e; exact List.suffix_refl l
  | succ n ih =>
    intro acc l e
    unfold lsSt
    split
    · exact List.suffix_refl l
    · exact (ih _ _ _).trans (h _ _)
theorem lsSt_len {α : Type} {st : List UInt8 → Int → α × List UInt8 × Int} : ∀ (n : Nat) (acc : List α) (l : List UInt8) (e : Int), (lsSt st n acc l e).1.length ≤ acc.length + n := by
  intro n
  induction n with
  | zero => intro acc l e; simp [lsSt]
  | succ n ih =>
    intro acc l e
    unfold lsSt
    split
    · simp
    · have := ih (acc ++ [(st l e).1]) (st l e).2.1 (st l e).2.2
      simp at this ⊢; omega
instance (l : List Rg) : Decidable (rgsOk l) := by unfold rgsOk rgOk; infer_instance
instance (l : List Nd) : Decidable (ndsOk l) := by unfold ndsOk; infer_instance
/-- the first error, or what was read if it is right -/
def finL {α : Type} (ok : List α → Prop) [DecidablePred ok] (r : List α × List UInt8 × Int) : List α × Int :=
  if endSt r.2.1 r.2.2 ≠ 0 then ([], endSt r.2.1 r.2.2) else if ok r.1 then (r.1, 0) else ([], 11)
def rdRgs (b : List UInt8) : List Rg × Int := finL rgsOk (lisSt rgSt 4096 b 0)
def rdNds (b : List UInt8) : List Nd × Int := finL ndsOk (lisSt ndSt 32 b 0)
section
set_option maxRecDepth 10000
set_option maxHeartbeats 8000000
abbrev fcRd (l : List UInt8) (e : Int) : List (Nat × Blk) := [(1000, rdBox l e)]
end
end Go.Proofs.YtbpmafpmlapekaaGreat
namespace Go.Proofs.YtbpmafpmlapekaaGreat
open Go.RowKit
section
set_option maxRecDepth 10000
set_option maxHeartbeats 8000000
theorem lisSt_len {α : Type} {st : List UInt8 → Int → α × List UInt8 × Int} {most : Int} (h : 0 ≤ most) (l : List UInt8) (e : Int) : ((lisSt st most l e).1.length : Int) ≤ most := by
  have h1 := lsSt_len (st := st) (withinSt 0 most l e).1.toNat [] (withinSt 0 most l e).2.1 (withinSt 0 most l e).2.2
  have h2 := within_rng0 (most := most) h l e
  unfold lisSt
  simp at h1
  omega
end
end Go.Proofs.YtbpmafpmlapekaaGreat
namespace Go.Proofs.YtbpmafpmlapekaaGreat
open Go.RowKit
theorem ls_put {α : Type} {st : List UInt8 → Int → α × List UInt8 × Int} {B : α → List UInt8} : ∀ (l acc : List α) (r : List UInt8), (∀ x ∈ l, ∀ r, st (B x ++ r) 0 = (x, r, 0)) → lsSt st l.length acc (l.flatMap B ++ r) 0 = (acc ++ l, r, 0) := by
  intro l
  induction l with
  | nil => intro acc r _; simp [lsSt]
  | cons x l ih =>
    intro acc r h
    rw [List.length_cons, lsSt, if_neg (by simp), List.flatMap_cons, List.append_assoc, h x List.mem_cons_self]
    rw [ih _ _ (fun y hy => h y (List.mem_cons_of_mem _ hy))]
    simp
theorem ls_back {α : Type} {st : List UInt8 → Int → α × List UInt8 × Int} {B : α → List UInt8} (h : ∀ l e, (st l e).2.2 = 0 → e = 0 ∧ l = B (st l e).1 ++ (st l e).2.1) :
    ∀ (n : Nat) (acc : List α) (l : List UInt8) (e : Int), (lsSt st n acc l e).2.2 = 0 → e = 0 ∧ ∃ m : List α, (lsSt st n acc l e).1 = acc ++ m ∧ m.length = n ∧ l = m.flatMap B ++ (lsSt st n acc l e).2.1 := by
  intro n
  induction n with
  | zero => intro acc l e h0; exact ⟨h0, [], by simp [lsSt], rfl, by simp [lsSt]⟩
  | succ n ih =>
    intro acc l e h0
    unfold lsSt at h0 ⊢
    by_cases he : e = 0
    · subst he
      rw [if_neg (by simp)] at h0 ⊢
      obtain ⟨g1, m, g2, g3, g4⟩ := ih _ _ _ h0
      obtain ⟨_, r2⟩ := h l 0 g1
      refine ⟨rfl, (st l 0).1 :: m, by rw [g2]; simp, by simp [g3], ?_⟩
      rw [List.flatMap_cons, List.append_assoc, ← g4]
      exact r2
    · rw [if_pos he] at h0
      exact absurd h0 he
theorem list_put {α : Type} {st : List UInt8 → Int → α × List UInt8 × Int} {B : α → List UInt8} {ok : List α → Prop} [DecidablePred ok] {most : Int} {l : List α} (h : ∀ x ∈ l, ∀ r, st (B x ++ r) 0 = (x, r, 0)) (hl : (l.length : Int) ≤ most) (hm : most ≤ 1000000) (hok : ok l) :
    finL ok (lisSt st most (numI (l.length : Nat) ++ l.flatMap B) 0) = (l, 0) := by
  unfold lisSt
  rw [within_put (by unfold okNum; omega) (by omega) hl]
  dsimp only
  rw [Int.toNat_natCast]
  have := ls_put (st := st) (B := B) l [] [] h
  rw [List.append_nil] at this
  rw [this]
  simp [finL, endSt, hok]
theorem list_back {α : Type} {st : List UInt8 → Int → α × List UInt8 × Int} {B : α → List UInt8} {ok : List α → Prop} [DecidablePred ok] {most : Int} {b : List UInt8} (h : ∀ l e, (st l e).2.2 = 0 → e = 0 ∧ l = B (st l e).1 ++ (st l e).2.1)
    (h0 : (finL ok (lisSt st most b 0)).2 = 0) : ok (finL ok (lisSt st most b 0)).1 ∧ ((finL ok (lisSt st most b 0)).1.length : Int) ≤ most ∧ numI ((finL ok (lisSt st most b 0)).1.length : Nat) ++ (finL ok (lisSt st most b 0)).1.flatMap B = b := by
  unfold finL at h0 ⊢
  split at h0
  · rename_i hc; exact absurd h0 hc
  · rename_i hc
    rw [if_neg hc]
    split at h0
    · rename_i hk
      rw [if_pos hk]
      obtain ⟨e1, e2⟩ := end_back (by simpa using hc)
      unfold lisSt at e1 e2 hk ⊢
      obtain ⟨g1, m, g3, g4, g6⟩ := ls_back h _ _ _ _ e2
      obtain ⟨_, w2, w3, w4, w5⟩ := within_back g1
      refine ⟨hk, ?_, ?_⟩
      · rw [g3]; simp; omega
      · rw [e1, List.append_nil] at g6
        simp only [g3, List.nil_append]
        rw [g4, ← g6, Int.toNat_of_nonneg w3, ← w5]
    · cases h0
theorem ba_eq {s : ByteArray} : ba s.data.toList = s := ba_eta s
theorem rg_put {r : Rg} (h : rgR r = true) (x : List UInt8) : rgSt (rgB r ++ x) 0 = (r, x, 0) := by
  obtain ⟨h1, h2, h3⟩ := (rgR_iff r).1 h
  obtain ⟨lo, hi, op⟩ := r
  simp only at h1 h2 h3
  dsimp only [rgSt, rgB]
  cases op with
  | true =>
    simp only [if_true] at h3 ⊢
    subst h3
    rw [List.append_assoc, text_put (by omega) (by omega)]
    dsimp only
    rw [within_put (by unfold okNum; omega) (by omega) (by omega)]
    dsimp only
    rw [if_pos (by decide), ba_eq]
  | false =>
    simp only [Bool.false_eq_true, if_false]
    rw [List.append_assoc, text_put (by omega) (by omega)]
    dsimp only
    rw [List.append_assoc, within_put (by unfold okNum; omega) (by omega) (by omega)]
    dsimp only
    rw [if_neg (by decide), text_put (by omega) (by omega)]
    dsimp only
    rw [ba_eq, ba_eq]
theorem rg_back {l : List UInt8} {e : Int} (h : (rgSt l e).2.2 = 0) : e = 0 ∧ l = rgB (rgSt l e).1 ++ (rgSt l e).2.1 := by
  dsimp only [rgSt] at h ⊢
  split at h
  · rename_i ho
    rw [if_pos ho]
    obtain ⟨o1, _, _, _, o5⟩ := within_back h
    obtain ⟨t1, _, t3⟩ := text_back o1
    rw [beq_iff_eq] at ho
    rw [ho] at o5
    refine ⟨t1, ?_⟩
    simp only [rgB, if_true]
    rw [List.append_assoc, ← o5]
    exact t3
  · rename_i ho
    rw [if_neg ho]
    obtain ⟨h1, _, h3⟩ := text_back h
    obtain ⟨o1, _, o3, o4, o5⟩ := within_back h1
    obtain ⟨t1, _, t3⟩ := text_back o1
    have ho' : (withinSt 0 1 (textSt 17 l e).2.1 (textSt 17 l e).2.2).1 = 0 := by
      have : (withinSt 0 1 (textSt 17 l e).2.1 (textSt 17 l e).2.2).1 ≠ 1 := by simpa using ho
      omega
    rw [ho'] at o5
    refine ⟨t1, ?_⟩
    simp only [rgB, Bool.false_eq_true, if_false]
    rw [List.append_assoc, List.append_assoc]
    unfold ba
    rw [← h3, ← o5]
    exact t3
theorem nd_put {n : Nd} (h : ndR n = true) (x : List UInt8) : ndSt (ndB n ++ x) 0 = (n, x, 0) := by
  have hz := ndR_sizes h
  have hk := ndR_kids h
  rw [ndR_iff] at h
  obtain ⟨op, kids, lo, hi⟩ := n
  simp only at hz hk h
  dsimp only [ndSt, ndB]
  rw [List.append_assoc, within_put (by unfold okNum; omega) (by omega) (by omega)]
  dsimp only
  rcases h with ⟨a, b, c, d⟩ | ⟨a, b, c, d⟩ | ⟨a, b, c⟩ | ⟨a, b, c, d⟩ | ⟨a, b, c, d⟩ | ⟨a, b, b', c, d⟩
  · simp only [if_neg (show ¬ (op = 3 ∨ op = 5) by omega), if_neg (show ¬ op = 4 by omega), if_neg (show ¬ op = 6 by omega), if_neg (show ¬ (op = 7 ∨ op = 8) by omega), List.nil_append, b, c, d]
  · simp only [if_pos (show op = 3 ∨ op = 5 by omega)]
    rw [text_put (by omega) (by omega)]
    dsimp only
    rw [ba_eq, b, d]
  · simp only [if_neg (show ¬ (op = 3 ∨ op = 5) by omega), if_pos (show op = 4 by omega)]
    rw [List.append_assoc, text_put (by omega) (by omega)]
    dsimp only
    rw [text_put (by omega) (by omega)]
    dsimp only
    rw [ba_eq, ba_eq, b]
  · simp only [if_pos (show op = 3 ∨ op = 5 by omega)]
    rw [text_put (by omega) (by omega)]
    dsimp only
    rw [ba_eq, b, d]
  · simp only [if_neg (show ¬ (op = 3 ∨ op = 5) by omega), if_neg (show ¬ op = 4 by omega), if_pos (show op = 6 by omega), if_neg (show ¬ (op = 7 ∨ op = 8) by omega), List.nil_append, b, c, d]
  · simp only [if_neg (show ¬ (op = 3 ∨ op = 5) by omega), if_neg (show ¬ op = 4 by omega), if_neg (show ¬ op = 6 by omega), if_pos (show op = 7 ∨ op = 8 by omega)]
    rw [within_put (by unfold okNum; omega) (by omega) (by omega), c, d]
theorem nd_back {l : List UInt8} {e : Int} (h : (ndSt l e).2.2 = 0) : e = 0 ∧ l = ndB (ndSt l e).1 ++ (ndSt l e).2.1 := by
  dsimp only [ndSt] at h ⊢
  split at h
  · rename_i c1
    rw [if_pos c1]
    obtain ⟨t1, _, t3⟩ := text_back h
    obtain ⟨o1, _, _, _, o5⟩ := within_back t1
    refine ⟨o1, ?_⟩
    simp only [ndB]
    rw [if_pos c1, List.append_assoc]
    unfold ba
    rw [← t3]
    exact o5
  · rename_i c1
    rw [if_neg c1]
    split at h
    · rename_i c2
      rw [if_pos c2]
      obtain ⟨h1, _, h3⟩ := text_back h
      obtain ⟨t1, _, t3⟩ := text_back h1
      obtain ⟨o1, _, _, _, o5⟩ := within_back t1
      refine ⟨o1, ?_⟩
      simp only [ndB]
      rw [if_neg c1, if_pos c2, List.append_assoc, List.append_assoc]
      unfold ba
      rw [← h3, ← t3]
      exact o5
    · rename_i c2
      rw [if_neg c2]
      split at h
      · rename_i c3
        rw [if_pos c3]
        obtain ⟨o1, _, _, _, o5⟩ := within_back h
        refine ⟨o1, ?_⟩
        simp only [ndB]
        rw [if_neg c1, if_neg c2, if_neg (by omega), List.append_nil]
        exact o5
      · rename_i c3
        rw [if_neg c3]
        split at h
        · rename_i c4
          rw [if_pos c4]
          obtain ⟨k1, _, _, _, k5⟩ := within_back h
          obtain ⟨o1, _, _, _, o5⟩ := within_back k1
          refine ⟨o1, ?_⟩
          simp only [ndB]
          rw [if_neg c1, if_neg c2, if_pos c4, List.append_assoc, ← k5]
          exact o5
        · rename_i c4
          rw [if_neg c4]
          obtain ⟨o1, _, _, _, o5⟩ := within_back h
          refine ⟨o1, ?_⟩
          simp only [ndB]
          rw [if_neg c1, if_neg c2, if_neg c4, List.append_nil]
          exact o5
theorem rdRgs_put {l : List Rg} (h : rgsOk l) (hl : l.length ≤ 4096) : rdRgs (rgsBy l) = (l, 0) :=
  list_put (fun x hx r => by
    obtain ⟨i, hi, rfl⟩ := List.getElem_of_mem hx
    exact rg_put (rgsOk_R h hi) r) (by omega) (by omega) h
theorem rdNds_put {l : List Nd} (h : ndsOk l) : rdNds (ndsBy l) = (l, 0) :=
  list_put (fun x hx r => nd_put (goN_R l 0 1 h.2 x hx) r) (by have := h.1; omega) (by omega) h
theorem rdRgs_back {b : List UInt8} (h : (rdRgs b).2 = 0) : rgsOk (rdRgs b).1 ∧ ((rdRgs b).1.length : Int) ≤ 4096 ∧ rgsBy (rdRgs b).1 = b := list_back (fun _ _ => rg_back) h
theorem rdNds_back {b : List UInt8} (h : (rdNds b).2 = 0) : ndsOk (rdNds b).1 ∧ ((rdNds b).1.length : Int) ≤ 32 ∧ ndsBy (rdNds b).1 = b := list_back (fun _ _ => nd_back) h
theorem finL_len {α : Type} {ok : List α → Prop} [DecidablePred ok] {r : List α × List UInt8 × Int} : (finL ok r).1.length ≤ r.1.length := by
  unfold finL
  split
  · simp
  · split
    · exact Nat.le_refl _
    · simp
theorem rdRgs_len (b : List UInt8) : (rdRgs b).1.length ≤ 4096 := by
  have h1 := finL_len (ok := rgsOk) (r := lisSt rgSt 4096 b 0)
  have h2 := lisSt_len (st := rgSt) (most := 4096) (by omega) b 0
  unfold rdRgs; omega
theorem rdNds_len (b : List UInt8) : (rdNds b).1.length ≤ 32 := by
  have h1 := finL_len (ok := ndsOk) (r := lisSt ndSt 32 b 0)
  have h2 := lisSt_len (st := ndSt) (most := 32) (by omega) b 0
  unfold rdNds; omega
theorem flat_len {α : Type} {B : α → List UInt8} : ∀ l : List α, (∀ x ∈ l, (B x).length ≤ 40) → (l.flatMap B).length ≤ 40 * l.length := by
  intro l
  induction l with
  | nil => intro _; simp
  | cons x l ih =>
    intro h
    have h1 := h x List.mem_cons_self
    have h2 := ih (fun y hy => h y (List.mem_cons_of_mem _ hy))
    rw [List.flatMap_cons, List.length_append, List.length_cons]; omega
theorem rgsBy_len {l : List Rg} (h : rgsOk l) (hl : l.length ≤ 4096) : (rgsBy l).length ≤ 10 + 40 * l.length := by
  have h1 := flat_len (B := rgB) l (fun x hx => by
    obtain ⟨i, hi, rfl⟩ := List.getElem_of_mem hx
    exact rgB_len (rgsOk_R h hi))
  have h2 := numI_len (l.length : Int) (by omega)
  unfold rgsBy
  rw [List.length_append]; omega
theorem ndsBy_len {l : List Nd} (h : ndsOk l) : (ndsBy l).length ≤ 10 + 40 * l.length := by
  have h1 := flat_len (B := ndB) l (fun x hx => ndB_len (goN_R l 0 1 h.2 x hx))
  have h2 := numI_len (l.length : Int) (by have := h.1; omega)
  unfold ndsBy
  rw [List.length_append]; omega
end Go.Proofs.YtbpmafpmlapekaaGreat
