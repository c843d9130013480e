/- For every list of messages and every list of byte strings the law TraceCounts returns true, and its arguments read as before. -/
import Derived.Test.YthlffkjpklpkfaaGreatJ32
import Derived.Test.YthlffkjpklpkfaaGreatJ31
namespace Go.Proofs.YthlffkjpklpkfaaGreat.traceCounts
open Go.RowKit Go.Proofs.YthlffkjpklpkfaaGreat
theorem rdpB' (w : World) : RdP Tryz.prog w 5 1 byteP (fun _ => True) := RdP.flat encB_ok ((Rd.int Tryz.underlying5).mono Rd.u8dec)
theorem rdpMs (w : World) : RdP Tryz.prog w 33 19 msCs MsWf := rdMs w
theorem walk0 (w : World) (args : Array Value) (h : Args Tryz.prog w Tryz.f3.params.toList args.toList) :
    Calls Tryz.prog 3 args w fun e w' => e = .returned (.bool true) ∧ Ext w w' := by
  obtain ⟨v0, v1, rfl, h0, h1⟩ := Args.two (t0 := 22) (t1 := 23) h
  obtain ⟨l, hl, hw⟩ := (rdpMs w).arg h0 Tryz.underlying22 (by kernel_rfl) (by decide)
  obtain ⟨d, hd, _⟩ := ((rdpB' w).lists Tryz.underlying27 (by kernel_rfl) (by decide)).arg h1 Tryz.underlying23 (by kernel_rfl) (by decide)
  exact run2 (lawTraceCounts l (fun m hm => (hw m hm).1) d) hl hd
theorem ownKnob0 : ownKnob Tryz.prog.godebug = none := by kernel_rfl
theorem laidOut0 : laidOutB Tryz.prog = true := by kernel_rfl
set_option maxRecDepth 100000 in
theorem lifted0 (os : Os) (started : os.Started) (H : Type) (enc : TypeId × Value → H) :
    ReturnsInHanded {} Tryz.checked os 3 .any (Rows.traceCountsSpec.pre6 enc Tryz.prog Tryz.f3 Rows.traceCountsRow.domain false) (Rows.traceCountsSpec.post enc Tryz.prog Tryz.f3 false true false false) :=
  law_lifted (C := Tryz.checked) (T := 4) ownKnob0 laidOut0 (by kernel_rfl) Tryz.func3 (by kernel_rfl) Tryz.underlying4 (by kernel_rfl) rfl
    (fun H ds hds => by have h : ds.length = 2 := hds; match ds, h with | [_, _], _ => exact ⟨rfl, rfl, rfl⟩) walk0 os started H enc
    (ChangeSpec.witness6 (enc := enc) (C := Tryz.checked) false ⟨#[], #[.slice none 0 0, .slice none 0 0], []⟩ 8 (by kernel_rfl) (by kernel_rfl) (by kernel_rfl) (by kernel_rfl))
theorem proved : Rows.TraceCountsSaid :=
  OpenClaim.holds_of_wide 3 Tryz.f3 rfl rfl rfl rfl rfl rfl rfl ⟨rfl, rfl, rfl, rfl, rfl⟩ rfl rfl rfl rfl rfl (by kernel_rfl) Tryz.func3 (by kernel_rfl)
    (of_decide_eq_true (by kernel_rfl)) (by unfold Func.isWrapper; first | (rw [if_pos (by decide +kernel)]; kernel_rfl) | (rw [if_neg (by decide +kernel)]; exact ⟨rfl, rfl⟩))
    (fun os started H enc _ => lifted0 os started H enc)
#print axioms proved
end Go.Proofs.YthlffkjpklpkfaaGreat.traceCounts
