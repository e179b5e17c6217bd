/- QuantSends: the walk. -/
import Derived.Test.YtghfggfgndgkjaaGreatDoorSendsGood
import Derived.Test.YtghfggfgndgkjaaGreatDoorSendsBad
set_option linter.unusedVariables false
set_option linter.unusedSimpArgs false
namespace Go.Proofs.YtghfggfgndgkjaaGreatDoor
open Go Go.RowKit Go.Sort
set_option maxRecDepth 100000
attribute [local go_sem] opLow opUpon opLow2 opUpon2 opLow3
theorem walk_QuantSends (L1 R1 B1 L2 R2 B2 x y ahead cut : Int) (hx : -9223372036854775808 ≤ x ∧ x ≤ 9223372036854775807) (hy : -9223372036854775808 ≤ y ∧ y ≤ 9223372036854775807) (ha : 0 ≤ ahead ∧ ahead ≤ 255) (hc : 0 ≤ cut ∧ cut ≤ 255) (w : World) :
    Calls Tryz.prog 5 #[G L1 R1 B1, G L2 R2 B2, .agg #[.int .i64 x, .int .i64 y], .int .u8 ahead, .int .u8 cut] w fun e w' => e = .returned (.bool true) ∧ Below w.heap.size w w' := by
  by_cases h1 : GV L1 R1 B1
  · by_cases h2 : GV L2 R2 B2
    · exact sends_good L1 R1 B1 L2 R2 B2 x y ahead cut ha hc h1 h2 w
    · exact sends_bad2 L1 R1 B1 L2 R2 B2 x y ahead cut ha hc h1 h2 w
  · exact sends_bad1 L1 R1 B1 L2 R2 B2 x y ahead cut ha hc h1 w
end Go.Proofs.YtghfggfgndgkjaaGreatDoor
