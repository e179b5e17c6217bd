/- Closed facts of the whole translation, asked of the kernel once, a declaration each. By program (facts.py). -/
import Derived.Test.YtolifgjkejhlhaaRows
import Derived.JoinedOf
import Derived.KernelRfl
namespace Go.Proofs.Ytolifgjkejhlhaa
open Go
theorem and_tt {a b : Bool} (h : a = true) (k : b = true) : (a && b) = true := by rw [h, k]; rfl
theorem fact1 : (laidOutB Try.pinned.checked.prog : Bool) = true := by kernel_rfl
theorem fact2 : (mapsRowed Try.pinned.checked.prog : Bool) = true := by kernel_rfl
theorem fact6 : ((Try.pinned.checked.prog.stops == []) : Bool) = true := by kernel_rfl
theorem fact8 : ((Try.pinned.checked.prog.stopKnobs == []) : Bool) = true := by kernel_rfl
theorem fact22 : ((Rows.quantPlanesRow.plainKeys == Try.pinned.checked.prog.plainKeys) : Bool) = true := by kernel_rfl
theorem fact24 : (Try.pinned.checked.prog.stopsHeard : Bool) = true := by kernel_rfl
theorem fact25 : (Try.pinned.checked.prog.mayEnter : Bool) = true := by kernel_rfl
theorem fact26 : ((Rows.quantPlanesRow.lifted == Try.pinned.checked.prog.liftsFinal) : Bool) = true := by kernel_rfl
theorem fact27 : ((Try.pinned.checked.prog.make == some Rows.quantPlanesRow.make) : Bool) = true := by kernel_rfl
end Go.Proofs.Ytolifgjkejhlhaa
