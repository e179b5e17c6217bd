/- The walk of the examples of chapter 01: they stand. -/
import Derived.Test.YtolifgjkejhlhaaFixed2
set_option linter.unusedVariables false
set_option linter.unusedSimpArgs false
namespace Go.Proofs.Ytolifgjkejhlhaa
open Go.RowKit

theorem is_yes (n : Int) (w : World) :
    Calls Try.prog 30 #[.int .i64 n, .int .i64 0, .int .i64 n] w fun e w' => e = .returned (.bool true) ∧ Below w.heap.size w w' := by
  go_enter Try.func30, Try.ntmps30
  go_wp2
  go_returns
  exact ⟨rfl, by go_grown⟩
theorem muldiv_val (a b c v : Int) (h : (-9223372036854775808 ≤ a ∧ a ≤ 9223372036854775807 ∧ -9223372036854775808 ≤ b ∧ b ≤ 9223372036854775807 ∧ -9223372036854775808 ≤ c ∧ c ≤ 9223372036854775807 ∧ c ≠ 0) ∧ sat (fl (a * b) c) = v) (w : World) :
    Calls Try.prog 24 #[.int .i64 a, .int .i64 b, .int .i64 c] w fun e w' => e = .returned (.tuple #[.int .i64 v, .int .i64 0]) ∧ Below w.heap.size w w' := by
  obtain ⟨⟨h1, h2, h3, h4, h5, h6, h7⟩, rfl⟩ := h
  exact muldiv_any a b c h1 h2 h3 h4 h5 h6 h7 w
theorem near_val (a b c v : Int) (h : (-9223372036854775808 ≤ a ∧ a ≤ 9223372036854775807 ∧ -9223372036854775808 ≤ b ∧ b ≤ 9223372036854775807 ∧ -9223372036854775808 ≤ c ∧ c ≤ 9223372036854775807 ∧ c ≠ 0) ∧ sat (nr (a * b) c) = v) (w : World) :
    Calls Try.prog 25 #[.int .i64 a, .int .i64 b, .int .i64 c] w fun e w' => e = .returned (.tuple #[.int .i64 v, .int .i64 0]) ∧ Below w.heap.size w w' := by
  obtain ⟨⟨h1, h2, h3, h4, h5, h6, h7⟩, rfl⟩ := h
  exact near_any a b c h1 h2 h3 h4 h5 h6 h7 w
theorem lerp_val (a b n d v : Int) (h : (-9223372036854775808 ≤ a ∧ a ≤ 9223372036854775807 ∧ -9223372036854775808 ≤ b ∧ b ≤ 9223372036854775807 ∧ -9223372036854775808 ≤ n ∧ n ≤ 9223372036854775807 ∧ -9223372036854775808 ≤ d ∧ d ≤ 9223372036854775807 ∧ d ≠ 0) ∧ sat (a + fl ((b - a) * n) d) = v) (w : World) :
    Calls Try.prog 27 #[.int .i64 a, .int .i64 b, .int .i64 n, .int .i64 d] w fun e w' => e = .returned (.tuple #[.int .i64 v, .int .i64 0]) ∧ Below w.heap.size w w' := by
  obtain ⟨⟨h1, h2, h3, h4, h5, h6, h7, h8, h9⟩, rfl⟩ := h
  exact lerp_any a b n d h1 h2 h3 h4 h5 h6 h7 h8 h9 w
theorem div_val (a b v : Int) (h : (-9223372036854775808 ≤ a ∧ a ≤ 9223372036854775807 ∧ -9223372036854775808 ≤ b ∧ b ≤ 9223372036854775807 ∧ b ≠ 0) ∧ sat (fl (a * 256) b) = v) (w : World) :
    Calls Try.prog 28 #[.int .i64 a, .int .i64 b] w fun e w' => e = .returned (.tuple #[.int .i64 v, .int .i64 0]) ∧ Below w.heap.size w w' := by
  obtain ⟨⟨h1, h2, h3, h4, h5⟩, rfl⟩ := h
  exact div_any a b h1 h2 h3 h4 h5 w
theorem fmul_val (a b v : Int) (h : (-9223372036854775808 ≤ a ∧ a ≤ 9223372036854775807 ∧ -9223372036854775808 ≤ b ∧ b ≤ 9223372036854775807) ∧ sat (fl (a * b) 256) = v) (w : World) :
    Calls Try.prog 29 #[.int .i64 a, .int .i64 b] w fun e w' => e = .returned (.int .i64 v) ∧ Below w.heap.size w w' := by
  obtain ⟨⟨h1, h2, h3, h4⟩, rfl⟩ := h
  exact fmul_any a b h1 h2 h3 h4 w
theorem sqrt_val (n v : Int) (h : 0 ≤ n ∧ n ≤ 9223372036854775807 ∧ 0 ≤ v ∧ v * v ≤ n ∧ n < (v + 1) * (v + 1)) (w : World) :
    Calls Try.prog 32 #[.int .i64 n] w fun e w' => e = .returned (.tuple #[.int .i64 v, .int .i64 0]) ∧ Below w.heap.size w w' := by
  obtain ⟨h1, h2, h3, h4, h5⟩ := h
  have h := sqrt_any n h1 h2 w
  rw [rt_unique n v h3 h4 h5] at h
  exact h
theorem hyp_val (x y r v : Int) (h : (-9223372036854775808 ≤ x ∧ x ≤ 9223372036854775807 ∧ -9223372036854775808 ≤ y ∧ y ≤ 9223372036854775807) ∧ 0 ≤ r ∧ r * r ≤ x * x + y * y ∧ x * x + y * y < (r + 1) * (r + 1) ∧ sat r = v) (w : World) :
    Calls Try.prog 33 #[.int .i64 x, .int .i64 y] w fun e w' => e = .returned (.int .i64 v) ∧ Below w.heap.size w w' := by
  obtain ⟨⟨h1, h2, h3, h4⟩, h5, h6, h7, rfl⟩ := h
  have h := hyp_any x y h1 h2 h3 h4 w
  rw [rt_unique _ r h5 h6 h7] at h
  exact h
theorem clamp_val (n lo hi v : Int) (h : min hi (max n lo) = v) (w : World) :
    Calls Try.prog 31 #[.int .i64 n, .int .i64 lo, .int .i64 hi] w fun e w' => e = .returned (.int .i64 v) ∧ Below w.heap.size w w' := by
  subst h; exact clamp_any n lo hi w

set_option maxRecDepth 100000 in
set_option maxHeartbeats 8000000 in
theorem awake01 (w : World) : Calls Try.prog 26 #[] w fun e w' => e = .returned (.bool true) ∧ Below w.heap.size w w' := by
  go_enter Try.func26, Try.ntmps26
  go_wp2_with (first
    | (go_at_call 30; refine (is_yes _ _).mono ?_; rintro e w1 ⟨rfl, hb1⟩; obtain ⟨hg1, hs1⟩ := below_c (w := w) hb1 (by go_grown); clear hb1)
    | (go_at_call 24; with_reducible refine (muldiv_val (-7) 1 2 (-4) (by decide +kernel) _).mono ?_; rintro e w1 ⟨rfl, hb1⟩; obtain ⟨hg1, hs1⟩ := below_c (w := w) hb1 (by go_grown); clear hb1)
    | (go_at_call 24; with_reducible refine (muldiv_val 7 1 (-2) (-4) (by decide +kernel) _).mono ?_; rintro e w1 ⟨rfl, hb1⟩; obtain ⟨hg1, hs1⟩ := below_c (w := w) hb1 (by go_grown); clear hb1)
    | (go_at_call 24; with_reducible refine (muldiv_val 9223372036854775807 9223372036854775807 9223372036854775807 9223372036854775807 (by decide +kernel) _).mono ?_; rintro e w1 ⟨rfl, hb1⟩; obtain ⟨hg1, hs1⟩ := below_c (w := w) hb1 (by go_grown); clear hb1)
    | (go_at_call 24; with_reducible refine (muldiv_val (-9223372036854775808) (-9223372036854775808) 1 9223372036854775807 (by decide +kernel) _).mono ?_; rintro e w1 ⟨rfl, hb1⟩; obtain ⟨hg1, hs1⟩ := below_c (w := w) hb1 (by go_grown); clear hb1)
    | (go_at_call 24; with_reducible refine (muldiv_val (-9223372036854775808) 1 (-1) 9223372036854775807 (by decide +kernel) _).mono ?_; rintro e w1 ⟨rfl, hb1⟩; obtain ⟨hg1, hs1⟩ := below_c (w := w) hb1 (by go_grown); clear hb1)
    | (go_at_call 25; with_reducible refine (near_val (-7) 1 2 (-3) (by decide +kernel) _).mono ?_; rintro e w1 ⟨rfl, hb1⟩; obtain ⟨hg1, hs1⟩ := below_c (w := w) hb1 (by go_grown); clear hb1)
    | (go_at_call 25; with_reducible refine (near_val 7 1 (-2) (-3) (by decide +kernel) _).mono ?_; rintro e w1 ⟨rfl, hb1⟩; obtain ⟨hg1, hs1⟩ := below_c (w := w) hb1 (by go_grown); clear hb1)
    | (go_at_call 28; with_reducible refine (div_val 256 768 85 (by decide +kernel) _).mono ?_; rintro e w1 ⟨rfl, hb1⟩; obtain ⟨hg1, hs1⟩ := below_c (w := w) hb1 (by go_grown); clear hb1)
    | (go_at_call 28; with_reducible refine (div_zero 1 _).mono ?_; rintro e w1 ⟨rfl, hb1⟩; obtain ⟨hg1, hs1⟩ := below_c (w := w) hb1 (by go_grown); clear hb1)
    | (go_at_call 29; with_reducible refine (fmul_val 384 384 576 (by decide +kernel) _).mono ?_; rintro e w1 ⟨rfl, hb1⟩; obtain ⟨hg1, hs1⟩ := below_c (w := w) hb1 (by go_grown); clear hb1)
    | (go_at_call 32; with_reducible refine (sqrt_val 99 9 (by decide +kernel) _).mono ?_; rintro e w1 ⟨rfl, hb1⟩; obtain ⟨hg1, hs1⟩ := below_c (w := w) hb1 (by go_grown); clear hb1)
    | (go_at_call 32; with_reducible refine (sqrt_neg (-1) (by decide) _).mono ?_; rintro e w1 ⟨rfl, hb1⟩; obtain ⟨hg1, hs1⟩ := below_c (w := w) hb1 (by go_grown); clear hb1)
    | (go_at_call 27; with_reducible refine (lerp_val 10 20 5 16 13 (by decide +kernel) _).mono ?_; rintro e w1 ⟨rfl, hb1⟩; obtain ⟨hg1, hs1⟩ := below_c (w := w) hb1 (by go_grown); clear hb1)
    | (go_at_call 27; with_reducible refine (lerp_val 20 10 11 16 13 (by decide +kernel) _).mono ?_; rintro e w1 ⟨rfl, hb1⟩; obtain ⟨hg1, hs1⟩ := below_c (w := w) hb1 (by go_grown); clear hb1)
    | (go_at_call 27; with_reducible refine (lerp_val (-9223372036854775808) 9223372036854775807 1 2 (-1) (by decide +kernel) _).mono ?_; rintro e w1 ⟨rfl, hb1⟩; obtain ⟨hg1, hs1⟩ := below_c (w := w) hb1 (by go_grown); clear hb1)
    | (go_at_call 33; with_reducible refine (hyp_val (-3) 4 5 5 (by decide +kernel) _).mono ?_; rintro e w1 ⟨rfl, hb1⟩; obtain ⟨hg1, hs1⟩ := below_c (w := w) hb1 (by go_grown); clear hb1)
    | (go_at_call 33; with_reducible refine (hyp_val (-9223372036854775808) (-9223372036854775808) 13043817825332782212 9223372036854775807 (by decide +kernel) _).mono ?_; rintro e w1 ⟨rfl, hb1⟩; obtain ⟨hg1, hs1⟩ := below_c (w := w) hb1 (by go_grown); clear hb1)
    | (go_at_call 31; with_reducible refine (clamp_val 5 1 3 3 (by decide) _).mono ?_; rintro e w1 ⟨rfl, hb1⟩; obtain ⟨hg1, hs1⟩ := below_c (w := w) hb1 (by go_grown); clear hb1)
    | (go_at_call 31; with_reducible refine (clamp_val 0 1 3 1 (by decide) _).mono ?_; rintro e w1 ⟨rfl, hb1⟩; obtain ⟨hg1, hs1⟩ := below_c (w := w) hb1 (by go_grown); clear hb1)
    | (go_at_call 31; with_reducible refine (clamp_val 2 3 1 1 (by decide) _).mono ?_; rintro e w1 ⟨rfl, hb1⟩; obtain ⟨hg1, hs1⟩ := below_c (w := w) hb1 (by go_grown); clear hb1))
  go_returns
  exact ⟨rfl, by go_grown⟩
end Go.Proofs.Ytolifgjkejhlhaa
