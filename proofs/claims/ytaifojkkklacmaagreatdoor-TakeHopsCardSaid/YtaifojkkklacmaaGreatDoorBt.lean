/- The environment for TakeHops is right of the program. -/
import Derived.Test.YtaifojkkklacmaaGreatDoorBs
import Derived.Test.YtaifojkkklacmaaGreatDoorB1
set_option linter.unusedVariables false
set_option linter.unusedSimpArgs false
set_option linter.unusedSectionVars false
set_option linter.unnecessarySimpa false
set_option maxRecDepth 100000
namespace Go.Ab
open Go
theorem wakes_ok [Val] : CallOK Go.Proofs.Tryz.prog (fun f' args h => if f' = 11 then W1.wakesA args h else none) := by
  intro f args h r e
  simp only at e
  split at e
  case isFalse => cases e
  rename_i hf
  subst hf
  unfold W1.wakesA at e
  split at e
  case h_2 => cases e
  cases e
  have hC := (ev_ok env0 prim0 100).1
  have hp : ∀ h : H, callP (evN (W0.En sy0 sc0 pr0) 100).1 false 11 [] h = some (.bool true) := fun h => by
    unfold callP
    simp only [List.mapM_nil, Option.pure_def, Option.bind_some, wakes_run]
    rfl
  obtain ⟨c1, _⟩ := callP_ok (w := default) (im := fun _ => False) (ι := fun _ => none) hC (vs := []) (HRep.nil (fun b hb => hb.elim)) rfl (fun i v a hv => by simp at hv) (hp [])
  exact ⟨c1, fun w im ι vs G hl hr => (callP_ok hC G hl hr (hp h)).2⟩
theorem rd1 [Val] {sy sc pr} : ∀ f, (W1.En sy sc pr).way f = .rd → CallOK Go.Proofs.Tryz.prog (fun f' args h => if f' = f then ((W1.En sy sc pr).rd f args h).map fun v => (v, h) else none) := fun f hw => by
  have hf : f ∈ [75, 163] := way_in (q := isRdW) rfl W1.rdIn (by rw [show W1.wayTr.get .st f = .rd from hw]; rfl)
  simp only [List.mem_cons, List.not_mem_nil, or_false] at hf
  rcases hf with rfl | rfl
  · exact Rd.topic_ok
  · exact Rd.field_ok
theorem env1 [Val] {sy sc pr} (hs : ∀ op x y a, sy op x y = some a → binA op (vA x) (vA y) = some (vA a)) (hc : ∀ k x a, sc k x = some a → convA k (vA x) = some (vA a)) : EnvOK2 Go.Proofs.Tryz.prog (W1.En sy sc pr) := W1.envOk hs hc rd1
theorem prim1 [Val] {sy sc pr} (hpr : ∀ f g, pr f = some g → CallOK Go.Proofs.Tryz.prog (fun f' args h => if f' = f then g args h else none)) : PrimOK Go.Proofs.Tryz.prog (W1.En sy sc pr) := fun f g h => by
  have h'' : (match pr f with | some g => some g | none => W1.primT f) = some g := h
  cases hp : pr f with
  | some g' => rw [hp] at h''; cases h''; exact hpr f g hp
  | none =>
  rw [hp] at h''
  have h' : W1.primT f = some g := h''
  unfold W1.primT at h'
  split at h'
  · cases h'; exact wakes_ok
  · cases h'; exact sort_ok sortC
  · cases h'; exact compact_ok compactC
  · cases h'
end Go.Ab
