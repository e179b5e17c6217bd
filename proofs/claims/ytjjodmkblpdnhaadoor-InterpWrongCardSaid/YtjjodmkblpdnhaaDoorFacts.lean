/- Closed facts of the whole translation, asked of the kernel once, a declaration each. By program (facts.py). -/
import Derived.Test.YtjjodmkblpdnhaaDoorRows
import Derived.JoinedOf
import Derived.KernelRfl
namespace Go.Proofs.YtjjodmkblpdnhaaDoor
open Go
theorem and_tt {a b : Bool} (h : a = true) (k : b = true) : (a && b) = true := by rw [h, k]; rfl
theorem fact1 : (laidOutB Tryd.pinned.checked.prog : Bool) = true := by kernel_rfl
theorem fact2 : (mapsRowed Tryd.pinned.checked.prog : Bool) = true := by kernel_rfl
theorem fact6 : ((Tryd.pinned.checked.prog.stops == []) : Bool) = true := by kernel_rfl
theorem fact8 : ((Tryd.pinned.checked.prog.stopKnobs == []) : Bool) = true := by kernel_rfl
theorem fact22 : ((Rows.interpEvenRow.plainKeys == Tryd.pinned.checked.prog.plainKeys) : Bool) = true := by kernel_rfl
theorem fact24 : (Tryd.pinned.checked.prog.stopsHeard : Bool) = true := by kernel_rfl
theorem fact25 : (Tryd.pinned.checked.prog.mayEnter : Bool) = true := by kernel_rfl
theorem fact26 : ((Rows.interpEvenRow.lifted == Tryd.pinned.checked.prog.liftsFinal) : Bool) = true := by kernel_rfl
theorem fact27 : ((Tryd.pinned.checked.prog.make == some Rows.interpEvenRow.make) : Bool) = true := by kernel_rfl
end Go.Proofs.YtjjodmkblpdnhaaDoor
