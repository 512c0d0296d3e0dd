/- WALKS: the program's layer 10: what catches a step's panic. -/
import Derived.Defers
import Derived.Recover
import Derived.LaidEql
import Derived.Test.YtfdhgakalojahaaGreatDoorM07
set_option linter.unusedSimpArgs false
set_option linter.unusedVariables false
set_option linter.unnecessarySimpa false
set_option linter.unusedSectionVars false
namespace Go.Proofs.YtfdhgakalojahaaGreatDoor
open Go Go.RowKit

set_option maxRecDepth 100000 in
theorem catch_panicking (p : Addr) (x : Value) (n : Int) (w : World) (hc : w.cell? p = some x) (hz : w.frozen? p = false) :
    CallsD Tryz.prog 69 #[.pointer (some p)] (.panicking [{ v := .iface 34 (.int .i64 n), recovered := false }]) w fun e u' w' =>
      e = .returned (.tuple #[]) ∧ u' = .panicking [{ v := .iface 34 (.int .i64 n), recovered := true }] ∧ w' = w.setCell p (.iface 34 (.int .i64 n)) := by
  have hta : ∀ (k : Int) (w : World), (Instr.typeAssert (.iface 34 (.int .i64 k)) 20 34 false).run Tryz.prog w = .ok (.int .i64 k) w := fun _ _ => by kernel_rfl
  refine callsD_of_wpS Tryz.func69 rfl fun c₀ cs hu => ?_
  apply wpS_seq
  apply wpS_region
  simp [wpOpsS, go_sem, recoverD, hu, Tryz.ntmps69, Exit.thenS]
  refine wpS_of_wp ?_
  simp [Array.replicate]
  go_wp2
  simp_all [bodyPostS, results, Tryz.results69]

theorem catch_idle (p : Addr) (w : World) :
    CallsD Tryz.prog 69 #[.pointer (some p)] .returning w fun e u' w' => e = .returned (.tuple #[]) ∧ u' = .returning ∧ w' = w := by
  refine callsD_of_wpS Tryz.func69 rfl fun c₀ cs hu => ?_
  apply wpS_seq
  apply wpS_region
  simp [wpOpsS, go_sem, recoverD, hu, Tryz.ntmps69, Exit.thenS]
  refine wpS_of_wp ?_
  simp [Array.replicate]
  go_wp2
  cases c₀
  simp_all [bodyPostS, results, Tryz.results69]
end Go.Proofs.YtfdhgakalojahaaGreatDoor
