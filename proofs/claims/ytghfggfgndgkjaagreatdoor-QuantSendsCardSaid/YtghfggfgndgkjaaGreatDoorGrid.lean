/- The walks of chapter 21's statements' helpers: a grid made of numbers, a number in it, the examples. -/
import Derived.Test.YtghfggfgndgkjaaGreatDoorFit
set_option linter.unusedVariables false
set_option linter.unusedSimpArgs false
namespace Go.Proofs.YtghfggfgndgkjaaGreatDoor
open Go.RowKit

def gl (lo : Int) : Int := -((lo.natAbs : Int) % 1099511627777)
def gw (width : Int) : Int := max (width % 1099511627777) 1
def gb (b : Int) : Int := 1 + b % 32
theorem GV_grid (lo width b : Int) (h0 : 0 ≤ b) : GV (gl lo) (gl lo + gw width) (gb b) := by
  unfold GV gl gw gb; omega
theorem tmod_neg (lo : Int) (h : lo < 0) : lo.tmod 1099511627777 = gl lo := by
  unfold gl
  have h1 := Int.neg_tmod (-lo) 1099511627777
  rw [Int.neg_neg] at h1
  rw [h1, Int.tmod_eq_emod_of_nonneg (by omega), show (lo.natAbs : Int) = -lo by omega]

theorem ret_G {a b c a' b' c' : Int} (h1 : a = a') (h2 : b = b') (h3 : c = c') : Ending.returned (.agg #[.int .i64 a, .int .i64 b, .int .i64 c]) = .returned (G a' b' c') := by rw [h1, h2, h3]
end Go.Proofs.YtghfggfgndgkjaaGreatDoor
