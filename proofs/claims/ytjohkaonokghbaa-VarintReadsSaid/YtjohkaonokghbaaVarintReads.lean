/- The law VarintReads, walked. -/
import Derived.Test.YtjohkaonokghbaaRefReader3
import Derived.Deep.RegionHeld3
namespace Go.Proofs.Ytjohkaonokghbaa
open Go.RowKit

structure DoR where
  kind : Int
  a : Int
  b : Int
def encDo (d : DoR) : List Value := [.int .i64 d.kind, .int .i64 d.a, .int .i64 d.b]
theorem Do.open {w : World} {v : Value} {l : List DoR} (h : Sl 3 encDo w v l) :
    ∃ a c b o, v = .slice a l.length c ∧ l.length ≤ c ∧ c ≤ maxLen ∧ (0 < l.length → a = some ⟨b, o, none⟩) ∧
      ∀ (i : Nat) (h : i < l.length), w.cell? ⟨b, o + i * 3, none⟩ = some (.int .i64 l[i].kind) ∧ w.cell? ⟨b, o + i * 3 + 1, none⟩ = some (.int .i64 l[i].a) ∧ w.cell? ⟨b, o + i * 3 + 2, none⟩ = some (.int .i64 l[i].b) := by
  obtain ⟨a, c, b, o, hv, h1, h2, h3, h0, h4⟩ := h
  refine ⟨a, c, b, o, hv, h1, h2, h3, fun i hi => ?_⟩
  have := h4 i l[i] (by simp [hi])
  exact ⟨this 0 _ rfl, this 1 _ rfl, this 2 _ rfl⟩

/-- both readers, at one place -/
structure Two (w3 wr : World) (B C : Nat) (v vr : Value) (b : List UInt8) (at0 : Nat) (e : Int) : Prop where
  r : RdAt wr B vr (b.drop at0) e
  m : RRAt wr C v b at0 e
  bs : Bs w3 vr (b.drop at0)
  ch : Ch2 B C w3 wr
  ne : B ≠ C
  oB : ∃ x e0, (∃ a n c, x = Value.slice a n c) ∧ ObjAt w3 B 111 #[x, .int .i64 e0]
  oC : ∃ x e0 e1, (∃ a n c, x = Value.slice a n c) ∧ ObjAt w3 C 93 #[x, .int .i64 e0, .int .i64 e1]
  lt : B < w3.heap.size ∧ C < w3.heap.size
theorem Two.ext {w3 wr w' : World} {B C : Nat} {v vr : Value} {b : List UInt8} {at0 : Nat} {e : Int} (h : Two w3 wr B C v vr b at0 e) (hx : Ext wr w') : Two w3 w' B C v vr b at0 e :=
  ⟨h.r.ext hx, h.m.ext hx, h.bs, h.ch.ext hx, h.ne, h.oB, h.oC, h.lt⟩
theorem Two.keep {w3 wr : World} {B C : Nat} {v vr x : Value} {b l : List UInt8} {at0 : Nat} {e : Int} (h : Two w3 wr B C v vr b at0 e) (hs : Bs w3 x l) {w' : World} (hc : Ch2 B C w3 w') : Bs w' x l := by
  obtain ⟨x1, e1, ⟨_, _, _, rfl⟩, o1⟩ := h.oB
  obtain ⟨x2, e2, e3, ⟨_, _, _, rfl⟩, o2⟩ := h.oC
  exact hc.bs hs o1 o2 (by simp) (by simp)
/-- a call of the one and of the other -/
theorem Two.step {w3 wr w5 w6 : World} {B C : Nat} {v vr v5 : Value} {b l5 : List UInt8} {at0 at6 : Nat} {e e5 : Int} (h : Two w3 wr B C v vr b at0 e)
    (r5 : RdAt w5 B v5 l5 e5) (g5 : wr.grownBy w5 (some B)) (s5 : ∀ w0, Bs w0 vr (b.drop at0) → Bs w0 v5 l5) (m6 : RRAt w6 C v b at6 e5) (d6 : b.drop at6 = l5) (g6 : w5.grownBy w6 (some C)) : Two w3 w6 B C v v5 b at6 e5 := by
  have hc := (h.ch.grown g5 (fun _ hk => .inl (Option.some.inj hk).symm)).grown g6 (fun _ hk => .inr (.inl (Option.some.inj hk).symm))
  subst d6
  refine ⟨⟨r5.obj.grown g6 (fun he => h.ne (Option.some.inj he)), h.keep (s5 _ h.bs) hc⟩, m6, s5 _ h.bs, hc, h.ne, h.oB, h.oC, h.lt⟩
/-- the other one, while the first works -/
theorem Two.mid {w3 wr w5 : World} {B C : Nat} {v vr : Value} {b : List UInt8} {at0 : Nat} {e : Int} (h : Two w3 wr B C v vr b at0 e) (hv : Bs w3 v b) (g5 : wr.grownBy w5 (some B)) : RRAt w5 C v b at0 e :=
  ⟨h.m.obj.grown g5 (fun he => h.ne (Option.some.inj he).symm), h.keep hv (h.ch.grown g5 (fun _ hk => .inl (Option.some.inj hk).symm)), h.m.le⟩

set_option maxRecDepth 100000 in
set_option maxHeartbeats 8000000 in
theorem varintReads_any (v vl : Value) (b : List UInt8) (ds : List DoR) (w : World) (hv : Bs w v b) (hl : Sl 3 encDo w vl ds) :
    Calls Try.prog 12 #[v, vl] w fun e w' => e = .returned (.bool true) ∧ Ext w w' := by
  have hv0 := hv
  have hl0 := hl
  obtain ⟨ab, cb, bb, ob, rfl, b1, b2, -⟩ := hv.open
  obtain ⟨al, cl, bl, ol, rfl, l1, l2, l3, l4⟩ := Do.open hl
  have b5 := len_le b1 b2
  have l5 := len_le l1 l2
  clear b1 b2 l1 l2 hv hl
  go_enter Try.func12, Try.ntmps12
  go_wp2_with fail
  refine (awake02_any _).mono ?_
  rintro e w1 ⟨rfl, hx⟩
  by_cases hbig : b.length ≤ 300 ∧ ds.length ≤ 60
  case neg =>
    by_cases q1 : 300 < b.length
    · go_wp2
      go_ret
      exact ⟨rfl, hx⟩
    · have q3 : 60 < ds.length := by omega
      go_wp2
      go_ret
      exact ⟨rfl, hx⟩
  obtain ⟨q1, q2⟩ := hbig
  go_wp2_with fail
  refine Calls.mono (rNew_any _ b _ (hv0.ext hx) (by omega)) ?_
  rintro e w2 ⟨B, v2, rfl, hB, hrd0, hx2⟩
  have hT0 : Two (w2.alloc (.cells #[.slice ab b.length cb, .int .i64 0, .int .i64 0] 93)) (w2.alloc (.cells #[.slice ab b.length cb, .int .i64 0, .int .i64 0] 93)) B w2.heap.size (.slice ab b.length cb) v2 b 0 0 := by
    have ha := hrd0.ext ((Ext.refl w2).alloc (.cells #[.slice ab b.length cb, .int .i64 0, .int .i64 0] 93))
    refine ⟨ha, ⟨heap_alloc_new _ _, (hv0.ext (hx.trans hx2)).ext ((Ext.refl _).alloc _), Nat.zero_le _⟩, ha.bs, Ch2.refl _ _ _, by have := hrd0.obj.lt; omega, ?_, ?_, ?_⟩
    · obtain ⟨a, c, hv⟩ := hrd0.slice
      exact ⟨v2, 0, ⟨a, _, c, hv⟩, ha.obj⟩
    · exact ⟨_, 0, 0, ⟨_, _, _, rfl⟩, heap_alloc_new _ _⟩
    · have := hrd0.obj.lt; simp; omega
  have hv3 : Bs (w2.alloc (.cells #[.slice ab b.length cb, .int .i64 0, .int .i64 0] 93)) (.slice ab b.length cb) b := (hv0.ext (hx.trans hx2)).ext ((Ext.refl _).alloc _)
  have hx3 : Ext w (w2.alloc (.cells #[.slice ab b.length cb, .int .i64 0, .int .i64 0] 93)) := (hx.trans hx2).alloc _
  have hBw : w.heap.size ≤ B := by have := hx.size; omega
  have hCw : w.heap.size ≤ w2.heap.size := (hx.trans hx2).size
  clear hrd0 hv0 hl0 hx hx2 hB
  go_wp2
  generalize w2.alloc (.cells #[.slice ab b.length cb, .int .i64 0, .int .i64 0] 93) = w3 at *
  generalize w2.heap.size = C at *
  go_loopw [8, 9, 28] (fun _ _ i wr => ∃ (k : Nat) (vr : Value) (at0 : Nat) (er : Int), k ≤ ds.length ∧ i = .int .i64 k ∧ Two w3 wr B C (.slice ab b.length cb) vr b at0 er) (fun _ _ i _ => ds.length - (intOf i).toNat)
  case atStart => exact ⟨0, v2, 0, 0, Nat.zero_le _, rfl, hT0⟩
  case round =>
    obtain ⟨k, vr, at0, er, hk, rfl, hT⟩ := hrel
    have hxr : Ext w wr := hT.ch.toExt hx3 hBw hCw
    by_cases hlt : k < ds.length
    · obtain rfl := l3 (by omega)
      obtain ⟨e0, e1, e2⟩ := l4 k hlt
      have d0 := hxr.cell e0
      have d1 := hxr.cell e1
      have d2 := hxr.cell e2
      generalize ds[k] = d at *
      obtain ⟨kd, da, db⟩ := d
      dsimp only at d0 d1 d2
      have hTa := hT.ext ((Ext.refl wr).alloc (.cells #[.int .i64 kd, .int .i64 da, .int .i64 db] 95))
      clear l3 l4 e0 e1 e2
      by_cases k1 : kd = 1
      · subst k1
        go_wp2_with fail
        refine Calls.mono (rNumber_any hTa.r) ?_
        rintro e w5 ⟨v5, rfl, r5, g5, s5⟩
        have m5 := hTa.mid hv3 g5
        go_wp2_with fail
        refine Calls.mono (rrNumber_any m5) ?_
        rintro e w6 ⟨at6, rfl, m6, d6, g6⟩
        have hT6 := hTa.step r5 g5 s5 m6 d6 g6
        clear r5 m6 m5 hTa hT d6 s5 d0 d1 d2 g5 g6
        try generalize (numSt (List.drop at0 b) er).2.2 = e6 at *
        try generalize (withinSt da db (List.drop at0 b) er).2.2 = e6 at *
        try generalize (withinSt 0 1 (List.drop at0 b) er).2.2 = e6 at *
        try generalize (textSt da (List.drop at0 b) er).2.2 = e6 at *
        try generalize (failSt da (List.drop at0 b) er).2 = e6 at *
        have hLL : Hid (((b.drop at6).length : Int) = (b.length : Int) - (at6 : Int)) := Lib.hid (by have := hT6.m.le; rw [List.length_drop]; omega)
        have hat6 := hT6.m.le
        obtain ⟨c0, c1, c2, -, -, -⟩ := hT6.m.cells
        go_wp2
        go_quiet ((first | (go_at_call 28; exact Calls.quiet_of_same ((rErr_any (hT6.r.ext ((Ext.refl _).drewN _))).mono fun e w' ⟨h1, h2⟩ => ⟨h1, h2.symm⟩)) | (go_at_call 27; exact Calls.quiet_of_same (v := .int .i64 ((b.length : Int) - (at6 : Int))) ((rLeft_any (hT6.r.ext ((Ext.refl _).drewN _))).mono fun e w' ⟨h1, h2⟩ => ⟨h1.trans (by rw [hLL.out]), h2.symm⟩)) | (go_at_call 56; exact Calls.quiet_of_same ((rEnd_any (hT6.r.ext ((Ext.refl _).drewN _))).mono fun e w' ⟨h1, h2⟩ => ⟨h1, h2.symm⟩)) | (go_at_call 64; exact Calls.quiet_of (rrEnd_any (hT6.m.ext ((Ext.refl _).drewN _))))))
        have hT7 := hT6.ext ((Ext.refl w6).drewN nq)
        clear hT6 c0 c1 c2
        go_wp2
        go_roundw
        case rel => exact ⟨k + 1, _, at6, _, by omega, by go_num, hT7⟩
        case measure => simp [intOf]; omega
      · by_cases k2 : kd = 2
        · subst k2
          have hD0 : ObjAt ((wr.alloc (.cells #[.int .i64 2, .int .i64 da, .int .i64 db] 95)).drew) wr.heap.size 95 #[.int .i64 2, .int .i64 da, .int .i64 db] := heap_alloc_new _ _
          have hD1 : ((wr.alloc (.cells #[.int .i64 2, .int .i64 da, .int .i64 db] 95)).drew).cell? ⟨wr.heap.size, 1, none⟩ = some (.int .i64 da) := hD0.cell 1
          have hD2 : ((wr.alloc (.cells #[.int .i64 2, .int .i64 da, .int .i64 db] 95)).drew).cell? ⟨wr.heap.size, 2, none⟩ = some (.int .i64 db) := hD0.cell 2
          have hTd := hTa.ext ((Ext.refl _).drew)
          have hDB : some wr.heap.size ≠ some B := by have := hT.ch.size; have := hT.lt.1; simp; omega
          have hDC : some wr.heap.size ≠ some C := by have := hT.ch.size; have := hT.lt.2; simp; omega
          have HDB := Lib.hid hDB
          have HDC := Lib.hid hDC
          clear hD0 hTa hDB hDC
          go_wp2
          go_region_held3 (fun w' => w'.cell? ⟨wr.heap.size, 1, none⟩ = some (.int .i64 da) ∧ w'.cell? ⟨wr.heap.size, 2, none⟩ = some (.int .i64 db))
            (first | exact ⟨hD1, hD2⟩ | exact ⟨g5.cell hD1 HDB.out, g5.cell hD2 HDB.out⟩ | exact ⟨g6.cell (g5.cell hD1 HDB.out) HDC.out, g6.cell (g5.cell hD2 HDB.out) HDC.out⟩)
            (first | (go_at_call 58; refine Calls.mono (rWithin_any hTd.r da db) ?_; rintro e w5 ⟨v5, rfl, r5, g5, s5⟩; have m5 := hTd.mid hv3 g5) | (go_at_call 59; refine Calls.mono (rrWithin_any m5 da db) ?_; rintro e w6 ⟨at6, rfl, m6, d6, g6⟩; have hT6 := hTd.step r5 g5 s5 m6 d6 g6))
          clear hD1 hD2
          have hTa := hTd
          clear hTd
          clear r5 m6 m5 hTa hT d6 s5 d0 d1 d2 g5 g6
          try generalize (numSt (List.drop at0 b) er).2.2 = e6 at *
          try generalize (withinSt da db (List.drop at0 b) er).2.2 = e6 at *
          try generalize (withinSt 0 1 (List.drop at0 b) er).2.2 = e6 at *
          try generalize (textSt da (List.drop at0 b) er).2.2 = e6 at *
          try generalize (failSt da (List.drop at0 b) er).2 = e6 at *
          have hLL : Hid (((b.drop at6).length : Int) = (b.length : Int) - (at6 : Int)) := Lib.hid (by have := hT6.m.le; rw [List.length_drop]; omega)
          have hat6 := hT6.m.le
          obtain ⟨c0, c1, c2, -, -, -⟩ := hT6.m.cells
          go_wp2
          go_quiet ((first | (go_at_call 28; exact Calls.quiet_of_same ((rErr_any (hT6.r.ext ((Ext.refl _).drewN _))).mono fun e w' ⟨h1, h2⟩ => ⟨h1, h2.symm⟩)) | (go_at_call 27; exact Calls.quiet_of_same (v := .int .i64 ((b.length : Int) - (at6 : Int))) ((rLeft_any (hT6.r.ext ((Ext.refl _).drewN _))).mono fun e w' ⟨h1, h2⟩ => ⟨h1.trans (by rw [hLL.out]), h2.symm⟩)) | (go_at_call 56; exact Calls.quiet_of_same ((rEnd_any (hT6.r.ext ((Ext.refl _).drewN _))).mono fun e w' ⟨h1, h2⟩ => ⟨h1, h2.symm⟩)) | (go_at_call 64; exact Calls.quiet_of (rrEnd_any (hT6.m.ext ((Ext.refl _).drewN _))))))
          have hT7 := hT6.ext ((Ext.refl w6).drewN nq)
          clear hT6 c0 c1 c2
          go_wp2
          go_roundw
          case rel => exact ⟨k + 1, _, at6, _, by omega, by go_num, hT7⟩
          case measure => simp [intOf]; omega
        · by_cases k3 : kd = 3
          · subst k3
            go_wp2_with fail
            refine Calls.mono (rBool_any hTa.r) ?_
            rintro e w5 ⟨v5, rfl, r5, g5, s5⟩
            have m5 := hTa.mid hv3 g5
            go_wp2_with fail
            refine Calls.mono (rrWithin_any m5 0 1) ?_
            rintro e w6 ⟨at6, rfl, m6, d6, g6⟩
            have hT6 := hTa.step r5 g5 s5 m6 d6 g6
            clear r5 m6 m5 hTa hT d6 s5 d0 d1 d2 g5 g6
            try generalize (numSt (List.drop at0 b) er).2.2 = e6 at *
            try generalize (withinSt da db (List.drop at0 b) er).2.2 = e6 at *
            try generalize (withinSt 0 1 (List.drop at0 b) er).2.2 = e6 at *
            try generalize (textSt da (List.drop at0 b) er).2.2 = e6 at *
            try generalize (failSt da (List.drop at0 b) er).2 = e6 at *
            have hLL : Hid (((b.drop at6).length : Int) = (b.length : Int) - (at6 : Int)) := Lib.hid (by have := hT6.m.le; rw [List.length_drop]; omega)
            have hat6 := hT6.m.le
            obtain ⟨c0, c1, c2, -, -, -⟩ := hT6.m.cells
            go_wp2
            go_quiet ((first | (go_at_call 28; exact Calls.quiet_of_same ((rErr_any (hT6.r.ext ((Ext.refl _).drewN _))).mono fun e w' ⟨h1, h2⟩ => ⟨h1, h2.symm⟩)) | (go_at_call 27; exact Calls.quiet_of_same (v := .int .i64 ((b.length : Int) - (at6 : Int))) ((rLeft_any (hT6.r.ext ((Ext.refl _).drewN _))).mono fun e w' ⟨h1, h2⟩ => ⟨h1.trans (by rw [hLL.out]), h2.symm⟩)) | (go_at_call 56; exact Calls.quiet_of_same ((rEnd_any (hT6.r.ext ((Ext.refl _).drewN _))).mono fun e w' ⟨h1, h2⟩ => ⟨h1, h2.symm⟩)) | (go_at_call 64; exact Calls.quiet_of (rrEnd_any (hT6.m.ext ((Ext.refl _).drewN _))))))
            have hT7 := hT6.ext ((Ext.refl w6).drewN nq)
            clear hT6 c0 c1 c2
            go_wp2
            go_roundw
            case rel => exact ⟨k + 1, _, at6, _, by omega, by go_num, hT7⟩
            case measure => simp [intOf]; omega
          · by_cases k4 : kd = 4
            · subst k4
              have hD0 : ObjAt ((wr.alloc (.cells #[.int .i64 4, .int .i64 da, .int .i64 db] 95)).drew) wr.heap.size 95 #[.int .i64 4, .int .i64 da, .int .i64 db] := heap_alloc_new _ _
              have hD1 : ((wr.alloc (.cells #[.int .i64 4, .int .i64 da, .int .i64 db] 95)).drew).cell? ⟨wr.heap.size, 1, none⟩ = some (.int .i64 da) := hD0.cell 1
              have hD2 : ((wr.alloc (.cells #[.int .i64 4, .int .i64 da, .int .i64 db] 95)).drew).cell? ⟨wr.heap.size, 2, none⟩ = some (.int .i64 db) := hD0.cell 2
              have hTd := hTa.ext ((Ext.refl _).drew)
              have hDB : some wr.heap.size ≠ some B := by have := hT.ch.size; have := hT.lt.1; simp; omega
              have hDC : some wr.heap.size ≠ some C := by have := hT.ch.size; have := hT.lt.2; simp; omega
              have HDB := Lib.hid hDB
              have HDC := Lib.hid hDC
              clear hD0 hTa hDB hDC
              go_wp2
              go_region_held3 (fun w' => w'.cell? ⟨wr.heap.size, 1, none⟩ = some (.int .i64 da) ∧ w'.cell? ⟨wr.heap.size, 2, none⟩ = some (.int .i64 db))
                (first | exact ⟨hD1, hD2⟩ | exact ⟨g5.cell hD1 HDB.out, g5.cell hD2 HDB.out⟩ | exact ⟨g6.cell (g5.cell hD1 HDB.out) HDC.out, g6.cell (g5.cell hD2 HDB.out) HDC.out⟩)
                (first | (go_at_call 55; refine Calls.mono (rText_any hTd.r da) ?_; rintro e w5 ⟨v5, rfl, r5, g5, s5⟩; have m5 := hTd.mid hv3 g5) | (go_at_call 61; refine Calls.mono (rrText_any m5 da) ?_; rintro e w6 ⟨at6, rfl, m6, d6, g6⟩; have hT6 := hTd.step r5 g5 s5 m6 d6 g6))
              clear hD1 hD2
              have hTa := hTd
              clear hTd
              clear r5 m6 m5 hTa hT d6 s5 d0 d1 d2 g5 g6
              try generalize (numSt (List.drop at0 b) er).2.2 = e6 at *
              try generalize (withinSt da db (List.drop at0 b) er).2.2 = e6 at *
              try generalize (withinSt 0 1 (List.drop at0 b) er).2.2 = e6 at *
              try generalize (textSt da (List.drop at0 b) er).2.2 = e6 at *
              try generalize (failSt da (List.drop at0 b) er).2 = e6 at *
              have hLL : Hid (((b.drop at6).length : Int) = (b.length : Int) - (at6 : Int)) := Lib.hid (by have := hT6.m.le; rw [List.length_drop]; omega)
              have hat6 := hT6.m.le
              obtain ⟨c0, c1, c2, -, -, -⟩ := hT6.m.cells
              go_wp2
              go_quiet ((first | (go_at_call 28; exact Calls.quiet_of_same ((rErr_any (hT6.r.ext ((Ext.refl _).drewN _))).mono fun e w' ⟨h1, h2⟩ => ⟨h1, h2.symm⟩)) | (go_at_call 27; exact Calls.quiet_of_same (v := .int .i64 ((b.length : Int) - (at6 : Int))) ((rLeft_any (hT6.r.ext ((Ext.refl _).drewN _))).mono fun e w' ⟨h1, h2⟩ => ⟨h1.trans (by rw [hLL.out]), h2.symm⟩)) | (go_at_call 56; exact Calls.quiet_of_same ((rEnd_any (hT6.r.ext ((Ext.refl _).drewN _))).mono fun e w' ⟨h1, h2⟩ => ⟨h1, h2.symm⟩)) | (go_at_call 64; exact Calls.quiet_of (rrEnd_any (hT6.m.ext ((Ext.refl _).drewN _))))))
              have hT7 := hT6.ext ((Ext.refl w6).drewN nq)
              clear hT6 c0 c1 c2
              go_wp2
              go_roundw
              case rel => exact ⟨k + 1, _, at6, _, by omega, by go_num, hT7⟩
              case measure => simp [intOf]; omega
            · have b1 : (kd == 1) = false := by simp [k1]
              have b2 : (kd == 2) = false := by simp [k2]
              have b3 : (kd == 3) = false := by simp [k3]
              have b4 : (kd == 4) = false := by simp [k4]
              clear k1 k2 k3 k4
              have hD0 : ObjAt (wr.alloc (.cells #[.int .i64 kd, .int .i64 da, .int .i64 db] 95)) wr.heap.size 95 #[.int .i64 kd, .int .i64 da, .int .i64 db] := heap_alloc_new _ _
              have hD1 : (wr.alloc (.cells #[.int .i64 kd, .int .i64 da, .int .i64 db] 95)).cell? ⟨wr.heap.size, 1, none⟩ = some (.int .i64 da) := hD0.cell 1
              have hDB : some wr.heap.size ≠ some B := by have := hT.ch.size; have := hT.lt.1; simp; omega
              have HDB := Lib.hid hDB
              clear hDB hD0
              go_wp2_with fail
              refine Calls.mono (rFail_any hTa.r da) ?_
              rintro e w5 ⟨v5, rfl, r5, g5, s5⟩
              have m5 := hTa.mid hv3 g5
              have hD5 := g5.cell hD1 HDB.out
              clear hD1
              go_wp2_with fail
              refine Calls.mono (rrFail_any m5 da) ?_
              rintro e w6 ⟨at6, rfl, m6, d6, g6⟩
              have hT6 := hTa.step r5 g5 s5 m6 d6 g6
              clear hD5
              clear r5 m6 m5 hTa hT d6 s5 d0 d1 d2 g5 g6
              try generalize (numSt (List.drop at0 b) er).2.2 = e6 at *
              try generalize (withinSt da db (List.drop at0 b) er).2.2 = e6 at *
              try generalize (withinSt 0 1 (List.drop at0 b) er).2.2 = e6 at *
              try generalize (textSt da (List.drop at0 b) er).2.2 = e6 at *
              try generalize (failSt da (List.drop at0 b) er).2 = e6 at *
              have hLL : Hid (((b.drop at6).length : Int) = (b.length : Int) - (at6 : Int)) := Lib.hid (by have := hT6.m.le; rw [List.length_drop]; omega)
              have hat6 := hT6.m.le
              obtain ⟨c0, c1, c2, -, -, -⟩ := hT6.m.cells
              go_wp2
              go_quiet ((first | (go_at_call 28; exact Calls.quiet_of_same ((rErr_any (hT6.r.ext ((Ext.refl _).drewN _))).mono fun e w' ⟨h1, h2⟩ => ⟨h1, h2.symm⟩)) | (go_at_call 27; exact Calls.quiet_of_same (v := .int .i64 ((b.length : Int) - (at6 : Int))) ((rLeft_any (hT6.r.ext ((Ext.refl _).drewN _))).mono fun e w' ⟨h1, h2⟩ => ⟨h1.trans (by rw [hLL.out]), h2.symm⟩)) | (go_at_call 56; exact Calls.quiet_of_same ((rEnd_any (hT6.r.ext ((Ext.refl _).drewN _))).mono fun e w' ⟨h1, h2⟩ => ⟨h1, h2.symm⟩)) | (go_at_call 64; exact Calls.quiet_of (rrEnd_any (hT6.m.ext ((Ext.refl _).drewN _))))))
              have hT7 := hT6.ext ((Ext.refl w6).drewN nq)
              clear hT6 c0 c1 c2
              go_wp2
              go_roundw
              case rel => exact ⟨k + 1, _, at6, _, by omega, by go_num, hT7⟩
              case measure => simp [intOf]; omega
    · clear l3 l4 hT hT0 hx3 hv3
      go_wp2_with (first | (go_at_call 62; refine Calls.mono (rFail_nil _ 2) ?_; rintro e w5 ⟨rfl, rfl⟩) | (go_at_call 29; refine Calls.mono (rNumber_nil _) ?_; rintro e w5 ⟨rfl, rfl⟩) | (go_at_call 58; refine Calls.mono (rWithin_nil _ 0 3) ?_; rintro e w5 ⟨rfl, rfl⟩) | (go_at_call 27; refine Calls.mono (rLeft_nil _) ?_; rintro e w5 ⟨rfl, rfl⟩) | (go_at_call 55; refine Calls.mono (rText_nil _ 4) ?_; rintro e w5 ⟨rfl, rfl⟩) | (go_at_call 60; refine Calls.mono (rBool_nil _) ?_; rintro e w5 ⟨rfl, rfl⟩) | (go_at_call 28; refine Calls.mono (rErr_nil _) ?_; rintro e w5 ⟨rfl, rfl⟩) | (go_at_call 56; refine Calls.mono (rEnd_nil _) ?_; rintro e w5 ⟨rfl, rfl⟩))
      go_ret
      exact ⟨rfl, hxr⟩
end Go.Proofs.Ytjohkaonokghbaa
