/- Texts joined: SoS. -/
import Derived.Test.YtbpmafpmlapekaaGreatJ17
import Derived.Test.YtbpmafpmlapekaaGreatJ18
namespace Go.Proofs.YtbpmafpmlapekaaGreat
open Go.RowKit Go.Shelf
/-! ### texts -/
abbrev BT := {s : ByteArray // s.size ≤ 1000000000000}
instance : Inhabited BT := ⟨⟨⟨#[]⟩, by decide⟩⟩
def cmpT (x y : BT) : Int := cmpB x.1 y.1
theorem cmpT_swo : Sort.SWO (ltOf cmpT) where
  irrefl x := by unfold ltOf cmpT; rw [o_self]; rfl
  trans x y z h1 h2 := by
    unfold ltOf cmpT at *
    rw [decide_eq_true_eq, o_lt] at *
    grind
  ntrans x y z h1 h2 := by
    unfold ltOf cmpT at *
    rw [decide_eq_false_iff_not, o_lt] at *
    grind
def sortT (l : List ByteArray) : List ByteArray := if h : ∀ s ∈ l, s.size ≤ 1000000000000 then (sortL cmpT (l.pmap Subtype.mk h)).map Subtype.val else l
theorem sortT_spec {l : List ByteArray} (h : ∀ s ∈ l, s.size ≤ 1000000000000) : (sortT l).Perm l ∧ (sortT l).Pairwise (fun x y => ¬ y < x) := by
  unfold sortT
  rw [dif_pos h]
  obtain ⟨h1, h2⟩ := sortL_spec cmpT_swo (l.pmap Subtype.mk h)
  refine ⟨?_, ?_⟩
  · have := h1.map Subtype.val
    rwa [List.map_pmap, List.pmap_eq_map, List.map_id'] at this
  · rw [List.pairwise_map]
    refine h2.imp fun {x y} q => ?_
    unfold ltOf cmpT at q
    rw [decide_eq_false_iff_not, o_lt] at q
    exact q
/-! ### runs -/
abbrev BRn := {r : Rn // rnR r = true}
instance : Inhabited BRn := ⟨⟨⟨1, 1⟩, by decide⟩⟩
def cmpRn (x y : BRn) : Int := x.1.fr - y.1.fr
theorem cmpRn_swo : Sort.SWO (ltOf cmpRn) where
  irrefl x := by unfold ltOf cmpRn; simp
  trans x y z h1 h2 := by unfold ltOf cmpRn at *; simp at *; omega
  ntrans x y z h1 h2 := by unfold ltOf cmpRn at *; simp at *; omega
def sortRn (l : List Rn) : List Rn := if h : ∀ r ∈ l, rnR r = true then (sortL cmpRn (l.pmap Subtype.mk h)).map Subtype.val else l
theorem sortRn_spec {l : List Rn} (h : ∀ r ∈ l, rnR r = true) : (sortRn l).Perm l ∧ srtR (sortRn l) := by
  unfold sortRn srtR
  rw [dif_pos h]
  obtain ⟨h1, h2⟩ := sortL_spec cmpRn_swo (l.pmap Subtype.mk h)
  refine ⟨?_, ?_⟩
  · have := h1.map Subtype.val
    rwa [List.map_pmap, List.pmap_eq_map, List.map_id'] at this
  · rw [List.pairwise_map]
    refine h2.imp fun {x y} q => ?_
    unfold ltOf cmpRn at q
    simp at q
    omega
theorem ent_of {F : FuncId} {fn : Func} (h : Tryz.prog.funcs[F]? = some fn) (h1 : (fn.name == "runtime.NumGoroutine") = false) (h2 : fn.body.isNone = false) : Ent Tryz.prog F := ⟨fn, h, h1, h2⟩
section
def so_str_ren : Go.Shelf.Ren := ⟨fun | 6 => 75 | 14 => 100 | 15 => 101 | 20 => 115 | 21 => 116 | 22 => 117 | 23 => 118 | 24 => 119 | 25 => 120 | 26 => 121 | 27 => 122 | 28 => 123 | 29 => 124 | 46 => 131 | 47 => 132 | 48 => 133 | 49 => 134 | 50 => 135 | 57 => 138 | n => n, fun | 0 => 0 | 3 => 3 | 4 => 4 | 5 => 5 | 9 => 9 | 22 => 71 | 24 => 9 | 25 => 65 | 39 => 133 | 45 => 143 | 46 => 144 | 50 => 148 | 53 => 151 | 55 => 153 | 66 => 160 | 70 => 164 | 76 => 168 | 77 => 169 | n => n, fun n => n⟩
theorem so_str : SlLaysF.n6 Tryz.prog so_str_ren := { mixed := by kernel_rfl, f6 := ⟨Tryz.f75.name, by decide, Tryz.func75.trans (congrArg some (by kernel_rfl))⟩, f14 := ⟨Tryz.f100.name, by decide, Tryz.func100.trans (congrArg some (by kernel_rfl))⟩, f15 := Tryz.func101.trans (congrArg some (by kernel_rfl)), f20 := ⟨Tryz.f115.name, by decide, Tryz.func115.trans (congrArg some (by kernel_rfl))⟩, f21 := ⟨Tryz.f116.name, by decide, Tryz.func116.trans (congrArg some (by kernel_rfl))⟩, f22 := ⟨Tryz.f117.name, by decide, Tryz.func117.trans (congrArg some (by kernel_rfl))⟩, f23 := ⟨Tryz.f118.name, by decide, Tryz.func118.trans (congrArg some (by kernel_rfl))⟩, f24 := ⟨Tryz.f119.name, by decide, Tryz.func119.trans (congrArg some (by kernel_rfl))⟩, f25 := ⟨Tryz.f120.name, by decide, Tryz.func120.trans (congrArg some (by kernel_rfl))⟩, f26 := ⟨Tryz.f121.name, by decide, Tryz.func121.trans (congrArg some (by kernel_rfl))⟩, f27 := ⟨Tryz.f122.name, by decide, Tryz.func122.trans (congrArg some (by kernel_rfl))⟩, f28 := Tryz.func123.trans (congrArg some (by kernel_rfl)), f29 := Tryz.func124.trans (congrArg some (by kernel_rfl)), f46 := ⟨Tryz.f131.name, by decide, Tryz.func131.trans (congrArg some (by kernel_rfl))⟩, f47 := Tryz.func132.trans (congrArg some (by kernel_rfl)), f48 := Tryz.func133.trans (congrArg some (by kernel_rfl)), f49 := ⟨Tryz.f134.name, by decide, Tryz.func134.trans (congrArg some (by kernel_rfl))⟩, f50 := ⟨Tryz.f135.name, by decide, Tryz.func135.trans (congrArg some (by kernel_rfl))⟩, f57 := ⟨Tryz.f138.name, by decide, Tryz.func138.trans (congrArg some (by kernel_rfl))⟩, t0 := Tryz.underlying0, a0 := Tryz.isAgg0, z0 := Tryz.sizeOf0, v0 := Tryz.zeroValue0, t3 := Tryz.underlying3, a3 := Tryz.isAgg3, z3 := Tryz.sizeOf3, v3 := Tryz.zeroValue3, t4 := Tryz.underlying4, a4 := Tryz.isAgg4, z4 := Tryz.sizeOf4, v4 := Tryz.zeroValue4, t5 := Tryz.underlying5, a5 := Tryz.isAgg5, z5 := Tryz.sizeOf5, v5 := Tryz.zeroValue5, t9 := Tryz.underlying9, a9 := Tryz.isAgg9, z9 := Tryz.sizeOf9, v9 := Tryz.zeroValue9, t22 := Tryz.underlying71, a22 := Tryz.isAgg71, z22 := Tryz.sizeOf71, v22 := Tryz.zeroValue71, t25 := Tryz.underlying65, a25 := Tryz.isAgg65, z25 := Tryz.sizeOf65, v25 := Tryz.zeroValue65, t39 := Tryz.underlying133, a39 := Tryz.isAgg133, z39 := Tryz.sizeOf133, v39 := Tryz.zeroValue133, t45 := Tryz.underlying143, a45 := Tryz.isAgg143, z45 := Tryz.sizeOf143, v45 := Tryz.zeroValue143, t46 := Tryz.underlying144, a46 := Tryz.isAgg144, z46 := Tryz.sizeOf144, v46 := Tryz.zeroValue144, t50 := Tryz.underlying148, a50 := Tryz.isAgg148, z50 := Tryz.sizeOf148, v50 := Tryz.zeroValue148, t53 := Tryz.underlying151, a53 := Tryz.isAgg151, z53 := Tryz.sizeOf151, v53 := Tryz.zeroValue151, t55 := Tryz.underlying153, a55 := Tryz.isAgg153, z55 := Tryz.sizeOf153, v55 := Tryz.zeroValue153, t66 := Tryz.underlying160, a66 := Tryz.isAgg160, z66 := Tryz.sizeOf160, v66 := Tryz.zeroValue160, t70 := Tryz.underlying164, a70 := Tryz.isAgg164, z70 := Tryz.sizeOf164, v70 := Tryz.zeroValue164, t76 := Tryz.underlying168, a76 := Tryz.isAgg168, z76 := Tryz.sizeOf168, v76 := Tryz.zeroValue168, t77 := Tryz.underlying169, a77 := Tryz.isAgg169, z77 := Tryz.sizeOf169, v77 := Tryz.zeroValue169, a24 := Tryz.isAgg9, z24 := Tryz.sizeOf9 }
theorem sort_str (l : List ByteArray) (h : ∀ s ∈ l, s.size ≤ 1000000000000) (hl : l.length ≤ 1000000000) :
    FnM Tryz.prog 75 [.row 1000 0, .per (rawP (.func (.func 35) #[] #[]))] [(1000, .row 9 1 (l.map strP))] .any [(1000, .row 9 1 ((sortT l).map strP))] := by
  have := fnm_sort1 (e := 9) (G := 35) so_str (enc := fun x : BT => Value.string x.1) (fun _ => rfl) cmpT_swo (enters_of Tryz.func35 (by kernel_rfl) rfl)
    (fun x y w => key_CmpG x.1 y.1 x.2 w) (ent_of Tryz.func75 (by kernel_rfl) (by kernel_rfl)) (l.pmap Subtype.mk h) (by rw [List.length_pmap]; omega)
  have e1 : (l.pmap Subtype.mk h).map (rawsE fun x : BT => [Value.string x.1]) = l.map strP := by rw [List.map_pmap]; exact List.pmap_eq_map (f := strP) h
  have e2 : (sortL cmpT (l.pmap Subtype.mk h)).map (rawsE fun x : BT => [Value.string x.1]) = (sortT l).map strP := by unfold sortT; rw [dif_pos h, List.map_map]; rfl
  rw [e1, e2] at this
  exact this
def so_run_ren : Go.Shelf.Ren := ⟨fun | 6 => 129 | 14 => 137 | 15 => 101 | 20 => 139 | 21 => 140 | 22 => 141 | 23 => 142 | 24 => 143 | 25 => 144 | 26 => 145 | 27 => 146 | 28 => 123 | 29 => 124 | 46 => 147 | 47 => 132 | 48 => 133 | 49 => 148 | 50 => 149 | 57 => 150 | n => n, fun | 0 => 0 | 3 => 3 | 4 => 4 | 5 => 5 | 9 => 9 | 22 => 62 | 24 => 102 | 25 => 159 | 39 => 133 | 45 => 143 | 46 => 144 | 50 => 148 | 53 => 151 | 55 => 153 | 66 => 160 | 70 => 164 | 76 => 168 | 77 => 169 | n => n, fun n => n⟩
theorem so_run : SlLaysF0.n6 Tryz.prog so_run_ren := { mixed := by kernel_rfl, f6 := ⟨Tryz.f129.name, by decide, Tryz.func129.trans (congrArg some (by kernel_rfl))⟩, f14 := ⟨Tryz.f137.name, by decide, Tryz.func137.trans (congrArg some (by kernel_rfl))⟩, f15 := Tryz.func101.trans (congrArg some (by kernel_rfl)), f20 := ⟨Tryz.f139.name, by decide, Tryz.func139.trans (congrArg some (by kernel_rfl))⟩, f21 := ⟨Tryz.f140.name, by decide, Tryz.func140.trans (congrArg some (by kernel_rfl))⟩, f22 := ⟨Tryz.f141.name, by decide, Tryz.func141.trans (congrArg some (by kernel_rfl))⟩, f23 := ⟨Tryz.f142.name, by decide, Tryz.func142.trans (congrArg some (by kernel_rfl))⟩, f24 := ⟨Tryz.f143.name, by decide, Tryz.func143.trans (congrArg some (by kernel_rfl))⟩, f25 := ⟨Tryz.f144.name, by decide, Tryz.func144.trans (congrArg some (by kernel_rfl))⟩, f26 := ⟨Tryz.f145.name, by decide, Tryz.func145.trans (congrArg some (by kernel_rfl))⟩, f27 := ⟨Tryz.f146.name, by decide, Tryz.func146.trans (congrArg some (by kernel_rfl))⟩, f28 := Tryz.func123.trans (congrArg some (by kernel_rfl)), f29 := Tryz.func124.trans (congrArg some (by kernel_rfl)), f46 := ⟨Tryz.f147.name, by decide, Tryz.func147.trans (congrArg some (by kernel_rfl))⟩, f47 := Tryz.func132.trans (congrArg some (by kernel_rfl)), f48 := Tryz.func133.trans (congrArg some (by kernel_rfl)), f49 := ⟨Tryz.f148.name, by decide, Tryz.func148.trans (congrArg some (by kernel_rfl))⟩, f50 := ⟨Tryz.f149.name, by decide, Tryz.func149.trans (congrArg some (by kernel_rfl))⟩, f57 := ⟨Tryz.f150.name, by decide, Tryz.func150.trans (congrArg some (by kernel_rfl))⟩, t0 := Tryz.underlying0, a0 := Tryz.isAgg0, z0 := Tryz.sizeOf0, v0 := Tryz.zeroValue0, t3 := Tryz.underlying3, a3 := Tryz.isAgg3, z3 := Tryz.sizeOf3, v3 := Tryz.zeroValue3, t4 := Tryz.underlying4, a4 := Tryz.isAgg4, z4 := Tryz.sizeOf4, v4 := Tryz.zeroValue4, t5 := Tryz.underlying5, a5 := Tryz.isAgg5, z5 := Tryz.sizeOf5, v5 := Tryz.zeroValue5, t9 := Tryz.underlying9, a9 := Tryz.isAgg9, z9 := Tryz.sizeOf9, v9 := Tryz.zeroValue9, t22 := Tryz.underlying62, a22 := Tryz.isAgg62, z22 := Tryz.sizeOf62, v22 := Tryz.zeroValue62, t25 := Tryz.underlying159, a25 := Tryz.isAgg159, z25 := Tryz.sizeOf159, v25 := Tryz.zeroValue159, t39 := Tryz.underlying133, a39 := Tryz.isAgg133, z39 := Tryz.sizeOf133, v39 := Tryz.zeroValue133, t45 := Tryz.underlying143, a45 := Tryz.isAgg143, z45 := Tryz.sizeOf143, v45 := Tryz.zeroValue143, t46 := Tryz.underlying144, a46 := Tryz.isAgg144, z46 := Tryz.sizeOf144, v46 := Tryz.zeroValue144, t50 := Tryz.underlying148, a50 := Tryz.isAgg148, z50 := Tryz.sizeOf148, v50 := Tryz.zeroValue148, t53 := Tryz.underlying151, a53 := Tryz.isAgg151, z53 := Tryz.sizeOf151, v53 := Tryz.zeroValue151, t55 := Tryz.underlying153, a55 := Tryz.isAgg153, z55 := Tryz.sizeOf153, v55 := Tryz.zeroValue153, t66 := Tryz.underlying160, a66 := Tryz.isAgg160, z66 := Tryz.sizeOf160, v66 := Tryz.zeroValue160, t70 := Tryz.underlying164, a70 := Tryz.isAgg164, z70 := Tryz.sizeOf164, v70 := Tryz.zeroValue164, t76 := Tryz.underlying168, a76 := Tryz.isAgg168, z76 := Tryz.sizeOf168, v76 := Tryz.zeroValue168, t77 := Tryz.underlying169, a77 := Tryz.isAgg169, z77 := Tryz.sizeOf169, v77 := Tryz.zeroValue169 }
set_option maxRecDepth 10000 in
set_option maxHeartbeats 800000 in
theorem run_CmpG (x y : Rn) (hx : rnR x = true) (hy : rnR y = true) (w : World) :
    Calls Tryz.prog 130 #[.agg #[.int .i64 x.fr, .int .i64 x.to], .agg #[.int .i64 y.fr, .int .i64 y.to]] w fun e w' => e = .returned (.int .i64 (x.fr - y.fr)) ∧ Gw w w' := by
  have h1 := (rnR_iff x).1 hx
  have h2 := (rnR_iff y).1 hy
  go_enter Tryz.func130, Tryz.ntmps130
  go_wp2
  go_ret
  exact ⟨rfl, ((Gw.refl w).alloc _).alloc _⟩
theorem sort_run (l : List Rn) (h : ∀ r ∈ l, rnR r = true) (hl : l.length ≤ 1000000000) :
    FnM Tryz.prog 129 [.row 1000 0, .per (rawP (.func (.func 130) #[] #[]))] [(1000, .row 102 2 (l.map rnP))] .any [(1000, .row 102 2 ((sortRn l).map rnP))] := by
  have := fnm_sortK (e := 102) (k := 2) (G := 130) so_run Tryz.isAgg102 Tryz.sizeOf102 (enc := fun x : BRn => encRn x.1) ⟨by decide, fun _ => rfl, fun x => encRn_ok.one x.1⟩ cmpRn_swo (enters_of Tryz.func130 (by kernel_rfl) rfl)
    (fun x y w => run_CmpG x.1 y.1 x.2 y.2 w) (ent_of Tryz.func129 (by kernel_rfl) (by kernel_rfl)) (l.pmap Subtype.mk h) (by rw [List.length_pmap]; omega)
  have e1 : (l.pmap Subtype.mk h).map (rawsE fun x : BRn => encRn x.1) = l.map rnP := by rw [List.map_pmap]; exact List.pmap_eq_map (f := rnP) h
  have e2 : (sortL cmpRn (l.pmap Subtype.mk h)).map (rawsE fun x : BRn => encRn x.1) = (sortRn l).map rnP := by unfold sortRn; rw [dif_pos h, List.map_map]; rfl
  rw [e1, e2] at this
  exact this
end
end Go.Proofs.YtbpmafpmlapekaaGreat
