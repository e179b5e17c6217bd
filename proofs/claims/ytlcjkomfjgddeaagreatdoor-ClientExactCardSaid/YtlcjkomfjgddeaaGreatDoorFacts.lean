/- Closed facts of the whole translation, asked of the kernel once, a declaration each. By program (facts.py). -/
import Derived.Test.YtlcjkomfjgddeaaGreatDoorRows
import Derived.JoinedOf
import Derived.KernelRfl
namespace Go.Proofs.YtlcjkomfjgddeaaGreatDoor
open Go
theorem and_tt {a b : Bool} (h : a = true) (k : b = true) : (a && b) = true := by rw [h, k]; rfl
theorem fact1 : (laidOutB Tryz.pinned.checked.prog : Bool) = true := by kernel_rfl
theorem fact2 : (mapsRowed Tryz.pinned.checked.prog : Bool) = true := by kernel_rfl
theorem fact6 : ((Tryz.pinned.checked.prog.stops == []) : Bool) = true := by kernel_rfl
theorem fact8 : ((Tryz.pinned.checked.prog.stopKnobs == []) : Bool) = true := by kernel_rfl
theorem fact22 : ((Rows.clientStepsRow.plainKeys == Tryz.pinned.checked.prog.plainKeys) : Bool) = true := by kernel_rfl
theorem fact24 : (Tryz.pinned.checked.prog.stopsHeard : Bool) = true := by kernel_rfl
theorem fact25 : (Tryz.pinned.checked.prog.mayEnter : Bool) = true := by kernel_rfl
theorem fact26 : ((Rows.clientStepsRow.lifted == Tryz.pinned.checked.prog.liftsFinal) : Bool) = true := by kernel_rfl
theorem fact27 : ((Tryz.pinned.checked.prog.make == some Rows.clientStepsRow.make) : Bool) = true := by kernel_rfl
end Go.Proofs.YtlcjkomfjgddeaaGreatDoor
