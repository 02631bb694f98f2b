/- The tables of closed calls are right of the program. -/
import Derived.Test.YtaifojkkklacmaaGreatDoorC0
import Derived.Test.YtaifojkkklacmaaGreatDoorC1
import Derived.Test.YtaifojkkklacmaaGreatDoorBt
set_option linter.unusedVariables false
set_option linter.unusedSimpArgs false
set_option linter.unusedSectionVars false
set_option linter.unnecessarySimpa false
set_option maxRecDepth 100000
namespace Go.Ab
open Go
theorem htF [Val] : ∀ f, ∀ p ∈ tblF f, CallOK Go.Proofs.Tryz.prog (fun f' args h => if f' = f then (match h with | [] => bif all2 (eqD 9) p.1 args then some p.2 else none | _ => none) else none) := by
  have hC := (ev_ok (env1 (sy := sy0) (sc := sc0) (pr := pr0) (fun _ _ _ _ h => by cases h) (fun _ _ _ h => by cases h)) (prim1 (sy := sy0) (sc := sc0) (pr := pr0) (fun _ _ h => by cases h)) 100).1
  intro f
  unfold tblF
  split
  · exact List.forall_mem_cons.2 ⟨fact_run hC fing0, List.forall_mem_cons.2 ⟨fact_run hC fing1, List.forall_mem_cons.2 ⟨fact_run hC fing2, List.forall_mem_cons.2 ⟨fact_run hC fing3, List.forall_mem_cons.2 ⟨fact_run hC fing4, List.forall_mem_cons.2 ⟨fact_run hC fing5, List.forall_mem_cons.2 ⟨fact_run hC fing6, List.forall_mem_cons.2 ⟨fact_run hC fing7, fun _ h => by cases h⟩⟩⟩⟩⟩⟩⟩⟩
  · exact fun _ h => by cases h
theorem hC2 [Val] : CallOK Go.Proofs.Tryz.prog (evN E2 100).1 := (ev_ok (env1 (sy := sy0) (sc := sc0) (pr := factP tblF) (fun _ _ _ _ h => by cases h) (fun _ _ _ h => by cases h)) (prim1 (sy := sy0) (sc := sc0) (pr := factP tblF) (fact_ok htF)) 100).1
theorem ht2 [Val] : ∀ f, ∀ p ∈ tbl2 f, CallOK Go.Proofs.Tryz.prog (fun f' args h => if f' = f then (match h with | [] => bif all2 (eqD 9) p.1 args then some p.2 else none | _ => none) else none) := by
  intro f
  unfold tbl2
  split
  · exact List.forall_mem_cons.2 ⟨fact_pure hC2 fc0, List.forall_mem_cons.2 ⟨fact_pure hC2 fc1, List.forall_mem_cons.2 ⟨fact_pure hC2 fc2, List.forall_mem_cons.2 ⟨fact_pure hC2 fc3, fun _ h => by cases h⟩⟩⟩⟩
  · exact List.forall_mem_cons.2 ⟨fact_pure hC2 fc4, fun _ h => by cases h⟩
  · exact List.forall_mem_cons.2 ⟨fact_pure hC2 fc5, List.forall_mem_cons.2 ⟨fact_pure hC2 fc6, List.forall_mem_cons.2 ⟨fact_pure hC2 fc7, List.forall_mem_cons.2 ⟨fact_pure hC2 fc8, List.forall_mem_cons.2 ⟨fact_pure hC2 fc9, List.forall_mem_cons.2 ⟨fact_pure hC2 fc10, List.forall_mem_cons.2 ⟨fact_pure hC2 fc11, List.forall_mem_cons.2 ⟨fact_pure hC2 fc12, fun _ h => by cases h⟩⟩⟩⟩⟩⟩⟩⟩
  · exact List.forall_mem_cons.2 ⟨fact_pure hC2 fc13, List.forall_mem_cons.2 ⟨fact_pure hC2 fc14, List.forall_mem_cons.2 ⟨fact_pure hC2 fc15, List.forall_mem_cons.2 ⟨fact_pure hC2 fc16, List.forall_mem_cons.2 ⟨fact_pure hC2 fc17, List.forall_mem_cons.2 ⟨fact_pure hC2 fc18, List.forall_mem_cons.2 ⟨fact_pure hC2 fc19, List.forall_mem_cons.2 ⟨fact_pure hC2 fc20, List.forall_mem_cons.2 ⟨fact_pure hC2 fc21, List.forall_mem_cons.2 ⟨fact_pure hC2 fc22, List.forall_mem_cons.2 ⟨fact_pure hC2 fc23, List.forall_mem_cons.2 ⟨fact_pure hC2 fc24, List.forall_mem_cons.2 ⟨fact_pure hC2 fc25, List.forall_mem_cons.2 ⟨fact_pure hC2 fc26, List.forall_mem_cons.2 ⟨fact_pure hC2 fc27, List.forall_mem_cons.2 ⟨fact_pure hC2 fc28, List.forall_mem_cons.2 ⟨fact_pure hC2 fc29, List.forall_mem_cons.2 ⟨fact_pure hC2 fc30, List.forall_mem_cons.2 ⟨fact_pure hC2 fc31, List.forall_mem_cons.2 ⟨fact_pure hC2 fc32, List.forall_mem_cons.2 ⟨fact_pure hC2 fc33, List.forall_mem_cons.2 ⟨fact_pure hC2 fc34, List.forall_mem_cons.2 ⟨fact_pure hC2 fc35, List.forall_mem_cons.2 ⟨fact_pure hC2 fc36, fun _ h => by cases h⟩⟩⟩⟩⟩⟩⟩⟩⟩⟩⟩⟩⟩⟩⟩⟩⟩⟩⟩⟩⟩⟩⟩⟩
  · exact List.forall_mem_cons.2 ⟨fact_pure hC2 fc37, List.forall_mem_cons.2 ⟨fact_pure hC2 fc38, List.forall_mem_cons.2 ⟨fact_pure hC2 fc39, List.forall_mem_cons.2 ⟨fact_pure hC2 fc40, List.forall_mem_cons.2 ⟨fact_pure hC2 fc41, List.forall_mem_cons.2 ⟨fact_pure hC2 fc42, List.forall_mem_cons.2 ⟨fact_pure hC2 fc43, List.forall_mem_cons.2 ⟨fact_pure hC2 fc44, List.forall_mem_cons.2 ⟨fact_pure hC2 fc45, List.forall_mem_cons.2 ⟨fact_pure hC2 fc46, List.forall_mem_cons.2 ⟨fact_pure hC2 fc47, List.forall_mem_cons.2 ⟨fact_pure hC2 fc48, List.forall_mem_cons.2 ⟨fact_pure hC2 fc49, List.forall_mem_cons.2 ⟨fact_pure hC2 fc50, List.forall_mem_cons.2 ⟨fact_pure hC2 fc51, List.forall_mem_cons.2 ⟨fact_pure hC2 fc52, List.forall_mem_cons.2 ⟨fact_pure hC2 fc53, List.forall_mem_cons.2 ⟨fact_pure hC2 fc54, List.forall_mem_cons.2 ⟨fact_pure hC2 fc55, List.forall_mem_cons.2 ⟨fact_pure hC2 fc56, List.forall_mem_cons.2 ⟨fact_pure hC2 fc57, List.forall_mem_cons.2 ⟨fact_pure hC2 fc58, List.forall_mem_cons.2 ⟨fact_pure hC2 fc59, List.forall_mem_cons.2 ⟨fact_pure hC2 fc60, fun _ h => by cases h⟩⟩⟩⟩⟩⟩⟩⟩⟩⟩⟩⟩⟩⟩⟩⟩⟩⟩⟩⟩⟩⟩⟩⟩
  · exact fun _ h => by cases h
end Go.Ab
