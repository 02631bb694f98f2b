/- The closed part of the law (wakes) answers true. -/
import Derived.Test.YtaifojkkklacmaaGreatDoorB0
import Derived.Test.YtaifojkkklacmaaGreatDoorB1
import Derived.Test.YtaifojkkklacmaaGreatDoorA3
import Derived.Test.YtaifojkkklacmaaGreatDoorSh
set_option linter.unusedVariables false
set_option linter.unusedSimpArgs false
set_option linter.unusedSectionVars false
set_option linter.unnecessarySimpa false
set_option maxRecDepth 100000
namespace Go.Ab
open Go
/-! The seat's environments are right of the program. -/
theorem sortC : SortC Go.Proofs.Tryz.prog 220 := ⟨⟨_, Go.Proofs.Tryz.func220, by decide, rfl⟩, fun blk off cap zs w h1 h2 h3 => Go.Proofs.Tryz.slices_Sort_int blk off cap zs w h1 h2 h3, fun p cap w => Go.Proofs.Tryz.slices_Sort_int_none p cap w⟩
theorem compactC : CompactC Go.Proofs.Tryz.prog 221 := ⟨⟨_, Go.Proofs.Tryz.func221, by decide, rfl⟩, fun blk off cap zs w h1 h2 h3 => Go.Proofs.Tryz.slices_Compact_int blk off cap zs w h1 h2 h3, fun p cap w => Go.Proofs.Tryz.slices_Compact_int_empty p cap w⟩

theorem rd0 [Val] {sy sc pr} : ∀ f, (W0.En sy sc pr).way f = .rd → CallOK Go.Proofs.Tryz.prog (fun f' args h => if f' = f then ((W0.En sy sc pr).rd f args h).map fun v => (v, h) else none) := fun f hw => by
  have hf : f ∈ [75, 163] := way_in (q := isRdW) rfl W0.rdIn (by rw [show W0.wayTr.get .st f = .rd from hw]; rfl)
  simp only [List.mem_cons, List.not_mem_nil, or_false] at hf
  rcases hf with rfl | rfl
  · exact Rd.topic_ok
  · exact Rd.field_ok
theorem env0 [Val] : EnvOK2 Go.Proofs.Tryz.prog (W0.En sy0 sc0 pr0) := W0.envOk (fun _ _ _ _ h => by cases h) (fun _ _ _ h => by cases h) rd0
theorem prim0 [Val] : PrimOK Go.Proofs.Tryz.prog (W0.En sy0 sc0 pr0) := fun f g h => by
  have h' : W0.primT f = some g := h
  unfold W0.primT at h'
  split at h'
  · cases h'; exact sort_ok sortC
  · cases h'; exact compact_ok compactC
  · cases h'
set_option maxHeartbeats 4000000 in
theorem wakes_run : (runP (evN (W0.En sy0 sc0 pr0) 100).1 11 []) = some (.bool true) := by kernel_rfl
end Go.Ab
