/- The walks of chapter 21's statements' helpers: a grid made of numbers, a number in it, the examples. -/
import Derived.Test.YtolifgjkejhlhaaFit
set_option linter.unusedVariables false
set_option linter.unusedSimpArgs false
namespace Go.Proofs.Ytolifgjkejhlhaa
open Go.RowKit

def gl (lo : Int) : Int := -((lo.natAbs : Int) % 1099511627777)
def gw (width : Int) : Int := max (width % 1099511627777) 1
def gb (b : Int) : Int := 1 + b % 32
theorem GV_grid (lo width b : Int) (h0 : 0 ≤ b) : GV (gl lo) (gl lo + gw width) (gb b) := by
  unfold GV gl gw gb; omega
theorem tmod_neg (lo : Int) (h : lo < 0) : lo.tmod 1099511627777 = gl lo := by
  unfold gl
  have h1 := Int.neg_tmod (-lo) 1099511627777
  rw [Int.neg_neg] at h1
  rw [h1, Int.tmod_eq_emod_of_nonneg (by omega), show (lo.natAbs : Int) = -lo by omega]

theorem ret_G {a b c a' b' c' : Int} (h1 : a = a') (h2 : b = b') (h3 : c = c') : Ending.returned (.agg #[.int .i64 a, .int .i64 b, .int .i64 c]) = .returned (G a' b' c') := by rw [h1, h2, h3]
theorem grid_any (lo width b : Int) (x1 : -9223372036854775808 ≤ lo) (x2 : lo ≤ 9223372036854775807) (y1 : 0 ≤ width) (y2 : width ≤ 18446744073709551615) (z1 : 0 ≤ b) (z2 : b ≤ 255) (w : World) :
    Calls Try.prog 37 #[.int .i64 lo, .int .u64 width, .int .u8 b] w fun e w' => e = .returned (G (gl lo) (gl lo + gw width) (gb b)) ∧ Below w.heap.size w w' := by
  by_cases h : lo < 0
  · have ht := tmod_neg lo h
    have hl : gl lo ≤ 0 ∧ -1099511627776 ≤ gl lo := by unfold gl; omega
    obtain ⟨l1, l2⟩ := hl
    go_enter Try.func37, Try.ntmps37
    go_wp2
    all_goals
      refine bodyPost_ret (by simp [results, Try.results37, go_sem]; try rfl) rfl ?_
      exact ⟨ret_G (by first | rfl | (unfold gl; omega)) (by unfold gl gw; omega) (by unfold gb; omega), by go_grown⟩
  · go_enter Try.func37, Try.ntmps37
    go_wp2
    all_goals
      refine bodyPost_ret (by simp [results, Try.results37, go_sem]; try rfl) rfl ?_
      exact ⟨ret_G (by first | rfl | (unfold gl; omega)) (by unfold gl gw; omega) (by unfold gb; omega), by go_grown⟩
theorem inside_any (lo hi b x : Int) (hg : GV lo hi b) (x1 : 0 ≤ x) (x2 : x ≤ 18446744073709551615) (w : World) :
    Calls Try.prog 41 #[G lo hi b, .int .u64 x] w fun e w' => e = .returned (.int .i64 (lo + x % (hi - lo + 1))) ∧ Below w.heap.size w w' := by
  obtain ⟨h1, h2, h3, h4, h5⟩ := hg
  have r1 := Int.emod_nonneg x (show hi - lo + 1 ≠ 0 by omega)
  have r2 := Int.emod_lt_of_pos x (show 0 < hi - lo + 1 by omega)
  have e1 : IntKind.i64.wrap (hi - lo) = hi - lo := by rw [IntKind.wrap_i64]; omega
  have e2 : IntKind.i64.wrap (hi - lo + 1) = hi - lo + 1 := by rw [IntKind.wrap_i64]; omega
  have e3 : IntKind.u64.wrap (hi - lo + 1) = hi - lo + 1 := by rw [IntKind.wrap_u64]; omega
  have e4 : IntKind.i64.wrap (x % (hi - lo + 1)) = x % (hi - lo + 1) := by rw [IntKind.wrap_i64]; omega
  have e5 : IntKind.i64.wrap (lo + x % (hi - lo + 1)) = lo + x % (hi - lo + 1) := by rw [IntKind.wrap_i64]; omega
  have e6 : (0 : Int) < hi - lo + 1 := by omega
  go_enter Try.func41, Try.ntmps41
  go_wp2
  go_quiet (fail)
  go_wp2
  go_returns
  exact ⟨rfl, below_drewN (by go_grown) _⟩
end Go.Proofs.Ytolifgjkejhlhaa
