/- The law VarintPuts, walked. -/
import Derived.Test.YtjohkaonokghbaaVarintOnce
namespace Go.Proofs.Ytjohkaonokghbaa
open Go.RowKit

instance (n : Int) : Decidable (okNum n) := by unfold okNum; infer_instance
def okB (n : Int) : Bool := decide (okNum n)
theorem okB_iff (n : Int) : okB n = true ↔ okNum n := by simp [okB]
set_option maxHeartbeats 400000 in
theorem refRight_any (n : Int) (w : World) : Calls Try.prog 52 #[.int .i64 n] w fun e w' => e = .returned (.bool (okB n)) ∧ w = w' := by
  go_enter Try.func52, Try.ntmps52
  go_wp2
  all_goals
    go_ret
    refine ⟨ret_eq (bool_eq ?_), rfl⟩
    rw [Bool.eq_iff_iff, okB_iff]; unfold okNum; simp; omega

theorem num_read (n : Int) (h : okNum n) (r : List UInt8) : numSt (numI n ++ r) 0 = (n, r, 0) := by
  obtain ⟨h0, h1⟩ := h
  obtain ⟨m, rfl⟩ := Int.eq_ofNat_of_zero_le h0
  have e : numI (m : Int) = numB m := by simp [numI]
  have hr := put_rd m r (by omega)
  unfold numSt
  rw [if_neg (by simp), e, hr, if_neg (by simp)]
  simp
theorem text_read (s : ByteArray) (h : s.size ≤ 300) (r : List UInt8) : textSt s.size (textB s ++ r) 0 = (s.data.toList, r, 0) := by
  have hn : numSt (textB s ++ r) 0 = ((s.size : Int), s.data.toList ++ r, 0) := by
    have := num_read (s.size : Int) (by unfold okNum; omega) (s.data.toList ++ r)
    simpa [textB, numI] using this
  have hw : withinSt 0 s.size (textB s ++ r) 0 = ((s.size : Int), s.data.toList ++ r, 0) := by
    unfold withinSt; rw [hn, if_neg (by simp)]
  unfold textSt
  rw [hw]
  have hl : s.data.toList.length = s.size := str_len s
  rw [if_neg (by simp), if_neg (by simp only [List.length_append, hl]; omega)]
  simp only [Int.toNat_natCast]
  rw [← hl]; simp

theorem bytes_str (s : ByteArray) : (⟨s.data.toList.toArray⟩ : ByteArray) = s := by cases s; simp

theorem texts_len (ss : List ByteArray) (h : ∀ s ∈ ss, s.size ≤ 300) : (ss.flatMap textB).length ≤ 309 * ss.length := by
  induction ss with
  | nil => simp
  | cons s ss ih =>
    have h1 := ih (fun x hx => h x (by simp [hx]))
    have h2 := h s (by simp)
    have h3 := numB_len9 s.size (by omega)
    simp only [List.flatMap_cons, List.length_append, List.length_cons, textB, str_len]; omega

set_option maxRecDepth 100000 in
set_option maxHeartbeats 4000000 in
theorem varintPuts_any (v vl vs : Value) (b : List UInt8) (ns : List Int) (ss : List ByteArray) (w : World) (hv : Bs w v b) (hl : Sl 1 encI w vl ns) (hs : Sl 1 encS w vs ss) :
    Calls Try.prog 11 #[v, vl, vs] w fun e w' => e = .returned (.bool true) ∧ Ext w w' := by
  have hv0 := hv
  have hl0 := hl
  have hs0 := hs
  obtain ⟨ab, cb, bb, ob, rfl, b1, b2, -⟩ := hv.open
  obtain ⟨al, cl, bl, ol, rfl, l1, l2, l3, l4⟩ := hl.openI
  obtain ⟨as0, cs0, bs0, os0, rfl, s1, s2, s3, s4⟩ := hs.openS
  have b5 := len_le b1 b2
  have l5 := len_le l1 l2
  have s5 := len_le s1 s2
  clear b1 b2 l1 l2 s1 s2 hv hl hs
  go_enter Try.func11, Try.ntmps11
  go_wp2_with fail
  refine (awake02_any _).mono ?_
  rintro e w1 ⟨rfl, hx⟩
  by_cases hbig : b.length ≤ 300 ∧ ns.length ≤ 60 ∧ ss.length ≤ 30
  case neg =>
    by_cases q1 : 300 < b.length
    · go_wp2
      go_ret
      exact ⟨rfl, hx⟩
    · by_cases q2 : 60 < ns.length
      · go_wp2
        go_ret
        exact ⟨rfl, hx⟩
      · have q3 : 30 < ss.length := by omega
        go_wp2
        go_ret
        exact ⟨rfl, hx⟩
  obtain ⟨q1, q2, q3⟩ := hbig
  go_wp2
  go_loop [8, 37] (fun _ i => ∃ k : Nat, k ≤ ss.length ∧ i = .int .i64 k ∧ Hid (∀ s ∈ ss.take k, s.size ≤ 300)) (fun _ i => ss.length - (intOf i).toNat)
  case atStart => exact ⟨0, Nat.zero_le _, rfl, Lib.hid (by simp)⟩
  case round =>
    obtain ⟨k, hk, rfl, HK⟩ := hrel
    by_cases hlt : k < ss.length
    · obtain rfl := s3 (by omega)
      have hc := hx.cell (s4 k hlt)
      have HS := Lib.hid (take_snoc ss k hlt)
      generalize ss[k] = s at *
      clear s3 s4 l3 l4
      by_cases hsz : 300 < s.size
      · go_wp2
        go_ret
        exact ⟨rfl, hx⟩
      · go_wp2
        go_round
        case rel =>
          refine ⟨k + 1, by omega, by go_num, Lib.hid ?_⟩
          rw [HS.out]
          intro y hy
          rcases List.mem_append.1 hy with h | h
          · exact HK.out y h
          · simp at h; subst h; omega
        case measure => simp [intOf]; omega
    · have HSS : Hid (∀ s ∈ ss, s.size ≤ 300) := Lib.hid (by rw [← List.take_of_length_le (show ss.length ≤ k by omega)]; exact HK.out)
      clear HK
      go_wp2
      go_loop [9, 11, 47] (fun rb _ i => ∃ (k : Nat) (r : Bool), k ≤ ns.length ∧ i = .int .i64 k ∧ rb = .bool r ∧ Hid (r = true ↔ ∀ n ∈ ns.take k, okNum n)) (fun _ _ i => ns.length - (intOf i).toNat)
      case atStart => exact ⟨0, true, Nat.zero_le _, rfl, rfl, Lib.hid (by simp)⟩
      case round =>
        obtain ⟨k, r, hk, rfl, rfl, HK⟩ := hrel
        by_cases hlt : k < ns.length
        · obtain rfl := l3 (by omega)
          have hc := hx.cell (l4 k hlt)
          have HS := Lib.hid (take_snoc ns k hlt)
          generalize ns[k] = n at *
          clear s3 s4 l3 l4
          cases r
          · go_wp2
            go_round
            case rel =>
              refine ⟨k + 1, false, by omega, by go_num, rfl, Lib.hid ?_⟩
              rw [HS.out]
              have := HK.out
              simp only [Bool.false_eq_true, false_iff] at this ⊢
              exact fun h => this (fun m hm => h m (List.mem_append_left _ hm))
            case measure => simp [intOf]; omega
          · go_wp2_with (go_at_call 52; refine Calls.mono (refRight_any _ _) ?_; rintro e w3 ⟨rfl, rfl⟩)
            go_round
            case rel =>
              refine ⟨k + 1, okB n, by omega, by go_num, rfl, Lib.hid ?_⟩
              rw [HS.out, okB_iff]
              have := HK.out
              simp only [true_iff] at this
              exact ⟨fun h m hm => by
                rcases List.mem_append.1 hm with h' | h'
                · exact this m h'
                · simp at h'; subst h'; exact h, fun h => h n (by simp)⟩
            case measure => simp [intOf]; omega
        · have HR : Hid (r = true ↔ ∀ n ∈ ns, okNum n) := Lib.hid (by rw [← List.take_of_length_le (show ns.length ≤ k by omega)]; exact HK.out)
          clear HK
          have hb1 := hv0.ext hx
          have hl1 := hl0.ext hx
          have hs1 := hs0.ext hx
          clear hv0 hl0 hs0
          cases r
          · have hbad : Hid (¬ ∀ n ∈ ns, okNum n) := Lib.hid (by have := HR.out; simpa using this)
            go_wp2_with fail
            refine Calls.mono (put_bad _ _ ns _ hl1 hbad.out) ?_
            rintro e w3 ⟨rfl, rfl⟩
            go_wp2
            go_ret
            exact ⟨rfl, hx⟩
          · have hok : Hid (∀ n ∈ ns, okNum n) := Lib.hid (HR.out.1 rfl)
            have hnl := nums_len ns hok.out
            have htl := texts_len ss HSS.out
            clear HR
            go_wp2_with fail
            refine Calls.mono (put_ok _ _ b ns _ hb1 hl1 (by omega) hok.out) ?_
            rintro e w3 ⟨v3, rfl, hown3⟩
            have hs3 := hown3.sl encB_ok
            have hx3 := hown3.ext
            have hb3 := hb1.ext hx3
            clear hown3
            generalize hF : ns.flatMap numI = F at *
            generalize hG : ss.flatMap textB = G at *
            have hPl : (b ++ F).length = b.length + F.length := List.length_append
            have hPd : (b ++ F ++ G).drop b.length = F ++ G := by rw [List.append_assoc, List.drop_left]
            have hPt : (b ++ F ++ G).take (b ++ F).length = b ++ F := List.take_left
            generalize hP : b ++ F = P at *
            have HF := Lib.hid hF
            have HG := Lib.hid hG
            have HP := Lib.hid hP
            have HPD := Lib.hid hPd
            have HPT := Lib.hid hPt
            have hPl1 : P.length ≤ b.length + F.length := by omega
            have hPl2 : b.length ≤ P.length := by omega
            clear hF hG hP hPl hPd hPt
            obtain ⟨a3, c3, _, _, rfl, -⟩ := Bs.open hs3
            go_wp2_with (at_builtin; refine wpList_app_g rfl _ _ 25 rfl tiB encB_ok w3 [] b _ _ rfl rfl (Own.empty (Ext.refl _)) (hb3.ext ((Ext.refl _).alloc _)) ?_ ?_ ?_)
            · (first | omega | (simp; omega) | (unfold maxLen; omega) | (unfold maxLen; simp; omega))
            · (first | omega | (simp; omega) | (unfold maxLen; omega) | (unfold maxLen; simp; omega))
            · intro v4 w4 r4 HR4 hown4 _ _
              have HR' : Hid (r4 = b) := Lib.hid (by simpa using HR4.out)
              rw [HR'.out] at hown4
              clear HR4
              have hl4 := hl1.ext (hx3.trans hown4.ext)
              go_wp2_with fail
              refine Calls.mono (refPut_any _ ns _ hl4 (by omega) hok.out) ?_
              rw [HF.out]
              rintro e w5 ⟨v5, rfl, hown5⟩
              have hown6 := hown4.extend hown5.ext
              have hs5 := hown5.sl encB_ok
              clear hown4 hown5
              go_wp2_with (at_builtin; refine wpList_app_g rfl _ _ 25 rfl tiB encB_ok w3 b F _ _ rfl rfl hown6 hs5 ?_ ?_ ?_)
              · (first | omega | (simp; omega) | (unfold maxLen; omega) | (unfold maxLen; simp; omega))
              · (first | omega | (simp; omega) | (unfold maxLen; omega) | (unfold maxLen; simp; omega))
              · intro v7 w7 r7 HR7 hown7 _ _
                have HR8 : Hid (r7 = P) := Lib.hid (HR7.out.trans HP.out)
                have hs7 := hown7.sl encB_ok
                rw [HR8.out] at hs7
                have hx7 := hown7.ext
                clear hown6 hown7 hs5 HR7 hl4
                go_wp2_with fail
                refine Calls.mono (bytesEq_any _ _ P P _ (hs3.ext hx7) hs7) ?_
                rw [decide_eq_true (Eq.refl P)]
                rintro e w8 ⟨rfl, hx8⟩
                have hx38 := hx7.trans hx8
                clear hs7
                go_wp2_with fail
                refine Calls.mono (text_any _ _ P ss _ (hs3.ext hx38) (hs1.ext (hx3.trans hx38)) (by rw [HG.out]; omega)) ?_
                rw [HG.out]
                rintro e w9 ⟨v9, rfl, hown9⟩
                have hs9 := hown9.sl encB_ok
                have hx9 := hown9.ext
                have hx39 := hx38.trans hx9
                have hAl : (P ++ G).length = P.length + G.length := List.length_append
                generalize hA : P ++ G = A at *
                have HA := Lib.hid hA
                have hAl1 : A.length ≤ P.length + G.length := by omega
                have hAl2 : P.length ≤ A.length := by omega
                clear hown9 hA hAl
                obtain ⟨a9, c9, hsl9, hs9', -⟩ := Sl.from tiB hs9 b.length (by omega) .i64
                obtain ⟨a10, c10, hsl10, -, hsub10⟩ := Sl.to tiB hs9 P.length (by omega) .i64
                rw [HPD.out] at hs9'
                rw [HPT.out] at hsub10
                obtain ⟨a11, c11, _, _, rfl, -⟩ := Bs.open hs9
                have hmin : ¬ ((A.length : Int) < (b.length : Int)) := by omega
                go_wp2_with fail
                refine Calls.mono (rNew_any _ (F ++ G) _ hs9' (by rw [List.length_append]; omega)) ?_
                rintro e w10 ⟨B, v10, rfl, hB, hrd0, hx10⟩
                have hS0 := RdS.start hrd0
                have hl10 := hl1.ext (hx3.trans (hx39.trans hx10))
                have hs10 := hs1.ext (hx3.trans (hx39.trans hx10))
                have hfin : Ext w w10 := hx.trans (hx3.trans (hx39.trans hx10))
                have hBw : w.heap.size ≤ B := by have := (hx.trans (hx3.trans hx39)).size; omega
                have hA10 := hs9.ext hx10
                have hP10 := hs3.ext (hx39.trans hx10)
                clear hrd0 hs9 hs3 hx8 hx7 hx9 hx38 hs9' hb3 hb1 hl1 hs1
                go_wp2
                go_loopw [17, 98] (fun _ i wr => ∃ (k : Nat) (vr : Value) (lr : List UInt8), k ≤ ns.length ∧ i = .int .i64 k ∧ RdS w10 wr B vr lr 0 ∧ Hid (lr = (ns.drop k).flatMap numI ++ G)) (fun _ i _ => ns.length - (intOf i).toNat)
                case atStart => exact ⟨0, v10, F ++ G, Nat.zero_le _, rfl, hS0, Lib.hid (by rw [← HF.out]; rfl)⟩
                case round =>
                  obtain ⟨k, vr, lr, hk, rfl, hS, HLR⟩ := hrel
                  have hxr : Ext w wr := Ext.grown hfin hS.rest (fun q hq => by have := Option.some.inj hq; omega)
                  by_cases hlt : k < ns.length
                  · obtain rfl := l3 (by omega)
                    have hc := hxr.cell (l4 k hlt)
                    have HD := Lib.hid (List.drop_eq_getElem_cons hlt)
                    have hokn := Lib.hid (hok.out ns[k] (by simp))
                    generalize ns[k] = n at *
                    have HRD : Hid (numSt lr 0 = (n, (ns.drop (k + 1)).flatMap numI ++ G, 0)) := Lib.hid (by
                      rw [HLR.out, HD.out, List.flatMap_cons, List.append_assoc]; exact num_read n hokn.out _)
                    have hat := hS.at
                    clear l3 l4 s3 s4
                    go_wp2_with fail
                    refine Calls.mono (rNumber_any hat) ?_
                    rw [HRD.out]
                    rintro e w11 ⟨v11, rfl, hat11, hg11, hsub11⟩
                    have hS11 := hS.call hat11 hg11 hsub11
                    clear hat hS hat11 hg11 hxr
                    go_wp2
                    go_roundw
                    case rel => exact ⟨k + 1, v11, _, by omega, by go_num, hS11, Lib.hid rfl⟩
                    case measure => simp [intOf]; omega
                  · have HLR' : Hid (lr = G) := Lib.hid (by rw [HLR.out, List.drop_of_length_le (by omega)]; rfl)
                    have hS' := hS
                    rw [HLR'.out] at hS'
                    clear HLR hS hxr l3 l4
                    go_wp2
                    obtain ⟨wo, rfl⟩ : ∃ wo : World, wo = wr := ⟨_, rfl⟩
                    go_loopw [19, 109] (fun _ i wr => ∃ (k : Nat) (vr : Value) (lr : List UInt8), k ≤ ss.length ∧ i = .int .i64 k ∧ RdS w10 wr B vr lr 0 ∧ Hid (lr = (ss.drop k).flatMap textB)) (fun _ i _ => ss.length - (intOf i).toNat)
                    case atStart => exact ⟨0, vr, G, Nat.zero_le _, rfl, hS', Lib.hid (by rw [← HG.out]; rfl)⟩
                    case round =>
                      obtain ⟨k, vr, lr, hk, rfl, hS, HLR⟩ := hrel
                      have hxr : Ext w wr := Ext.grown hfin hS.rest (fun q hq => by have := Option.some.inj hq; omega)
                      by_cases hlt : k < ss.length
                      · obtain rfl := s3 (by omega)
                        have hc := hxr.cell (s4 k hlt)
                        have HD := Lib.hid (List.drop_eq_getElem_cons hlt)
                        have hokn := Lib.hid (HSS.out ss[k] (by simp))
                        generalize ss[k] = n at *
                        have HRD : Hid (textSt n.size lr 0 = (n.data.toList, (ss.drop (k + 1)).flatMap textB, 0)) := Lib.hid (by
                          rw [HLR.out, HD.out, List.flatMap_cons]; exact text_read n hokn.out _)
                        have hat := hS.at
                        clear s3 s4 hS'
                        go_wp2_with fail
                        refine Calls.mono (rText_any hat _) ?_
                        rw [HRD.out]
                        rw [bytes_str]
                        rintro e w11 ⟨v11, rfl, hat11, hg11, hsub11⟩
                        have hS11 := hS.call hat11 hg11 hsub11
                        clear hat hS hat11 hg11 hxr
                        go_wp2
                        go_roundw
                        case rel => exact ⟨k + 1, v11, _, by omega, by go_num, hS11, Lib.hid rfl⟩
                        case measure => simp [intOf]; omega
                      · have HLR' : Hid (lr = []) := Lib.hid (by rw [HLR.out, List.drop_of_length_le (by omega)]; rfl)
                        have hat := hS.at
                        rw [HLR'.out] at hat
                        have hA11 := hS.keepBs hA10
                        have hP11 := hS.keepBs hP10
                        have hT11 := hsub10 _ hA11
                        have hE : Hid (endSt [] 0 = 0) := Lib.hid (by decide)
                        clear HLR hS' hS s3 s4 hsub10
                        go_wp2_with fail
                        refine Calls.mono (rEnd_any hat) ?_
                        rw [hE.out]
                        rintro e w11 ⟨rfl, rfl⟩
                        go_wp2_with fail
                        refine Calls.mono (rLeft_any hat) ?_
                        rintro e w11 ⟨rfl, rfl⟩
                        go_wp2_with fail
                        refine Calls.mono (bytesEq_any _ _ P P _ hT11 hP11) ?_
                        rw [decide_eq_true (Eq.refl P)]
                        rintro e w12 ⟨rfl, hx12⟩
                        go_wp2
                        go_ret
                        exact ⟨rfl, hxr.trans hx12⟩
end Go.Proofs.Ytjohkaonokghbaa
