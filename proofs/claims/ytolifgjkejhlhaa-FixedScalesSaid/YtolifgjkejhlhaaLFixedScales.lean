/- FixedScales: the walk: whatever the arguments are, it returns true and writes nothing that was there. -/
import Derived.Test.YtolifgjkejhlhaaAwake1
import Derived.OpenShut
set_option linter.unusedVariables false
set_option linter.unusedSimpArgs false
namespace Go.Proofs.Ytolifgjkejhlhaa
open Go.RowKit

theorem fl_unit (n : Int) : fl (n * 256) 256 = n := by
  unfold fl; rw [if_pos (by decide)]; omega
theorem fl_unit' (n : Int) : fl (256 * n) 256 = n := by
  unfold fl; rw [if_pos (by decide)]; omega
/-- what the quotient and the product back come to -/
theorem scales_law (a b : Int) (ha : -1099511627776 < a) (ha' : a < 1099511627776) (hb : 1 ≤ b) (hb' : b ≤ 2147483648) :
    (-281474976710656 ≤ fl (a * 256) b ∧ fl (a * 256) b ≤ 281474976710656) ∧ fl (fl (a * 256) b * b) 256 ≤ a ∧ (a - fl (fl (a * 256) b * b) 256 - 1) * 256 < b ∧ -2199023255552 ≤ fl (fl (a * 256) b * b) 256 := by
  have h1 := fl_abs (a * 256) b (by omega)
  obtain ⟨h2, -, h3, h4⟩ := fl_spec (a * 256) b (by omega)
  have h2 := h2 (by omega)
  obtain ⟨h5, -, h6, h7⟩ := fl_spec (fl (a * 256) b * b) 256 (by decide)
  have h5 := h5 (by decide)
  generalize fl (a * 256) b = q at *
  generalize q * b = p at *
  generalize fr (a * 256) b = r at *
  generalize fl p 256 = t at *
  generalize fr p 256 = u at *
  refine ⟨⟨?_, ?_⟩, ?_, ?_, ?_⟩ <;> omega

set_option maxRecDepth 100000 in
set_option maxHeartbeats 4000000 in
theorem walk_FixedScales (a0 : Int) (a1 : Int) (a2 : Int) (w0 : (Lit.int .i64 a0).wf = true) (w1 : (Lit.int .i64 a1).wf = true) (w2 : (Lit.int .u32 a2).wf = true) (w : World) :
    Calls Try.prog 5 #[.int .i64 a0, .int .i64 a1, .int .u32 a2] w fun e w' => e = .returned (.bool true) ∧ Below w.heap.size w w' := by
  obtain ⟨x1, x2⟩ := bounds_i64 w0
  obtain ⟨y1, y2⟩ := bounds_i64 w1
  obtain ⟨z1, z2⟩ := bounds_u32 w2
  clear w0 w1 w2
  obtain ⟨a, ha⟩ : ∃ a, a1.tmod 1099511627776 = a := ⟨_, rfl⟩
  have ha1 : -1099511627776 < a ∧ a < 1099511627776 := by rw [← ha]; exact ⟨by have := Int.lt_tmod_of_pos a1 (show (0 : Int) < 1099511627776 by decide); omega, Int.tmod_lt_of_pos _ (by decide)⟩
  obtain ⟨b, hb⟩ : ∃ b, a2 / 2 + 1 = b := ⟨_, rfl⟩
  have hb1 : 1 ≤ b ∧ b ≤ 2147483648 := by omega
  obtain ⟨a3, a4⟩ := ha1
  obtain ⟨b3, b4⟩ := hb1
  have HL := scales_law a b a3 a4 b3 b4
  obtain ⟨⟨q1, q2⟩, q3, q4, q5⟩ := HL
  obtain ⟨q, hq⟩ : ∃ q, fl (a * 256) b = q := ⟨_, rfl⟩
  rw [hq] at q1 q2 q3 q4 q5
  obtain ⟨t, ht⟩ : ∃ t, fl (q * b) 256 = t := ⟨_, rfl⟩
  rw [ht] at q3 q4 q5
  have V1 := Lib.hid (show (-9223372036854775808 ≤ a0 ∧ a0 ≤ 9223372036854775807 ∧ -9223372036854775808 ≤ (256 : Int) ∧ (256 : Int) ≤ 9223372036854775807 ∧ (256 : Int) ≠ 0) ∧ sat (fl (a0 * 256) 256) = a0 from ⟨⟨x1, x2, by decide, by decide, by decide⟩, by rw [fl_unit, sat_in _ x1 x2]⟩)
  have V2 := Lib.hid (show (-9223372036854775808 ≤ a0 ∧ a0 ≤ 9223372036854775807 ∧ -9223372036854775808 ≤ (256 : Int) ∧ (256 : Int) ≤ 9223372036854775807) ∧ sat (fl (a0 * 256) 256) = a0 from ⟨⟨x1, x2, by decide, by decide⟩, by rw [fl_unit, sat_in _ x1 x2]⟩)
  have V3 := Lib.hid (show (-9223372036854775808 ≤ (256 : Int) ∧ (256 : Int) ≤ 9223372036854775807 ∧ -9223372036854775808 ≤ a0 ∧ a0 ≤ 9223372036854775807) ∧ sat (fl (256 * a0) 256) = a0 from ⟨⟨by decide, by decide, x1, x2⟩, by rw [fl_unit', sat_in _ x1 x2]⟩)
  have V4 := Lib.hid (show (-9223372036854775808 ≤ a ∧ a ≤ 9223372036854775807 ∧ -9223372036854775808 ≤ b ∧ b ≤ 9223372036854775807 ∧ b ≠ 0) ∧ sat (fl (a * 256) b) = q from ⟨⟨by omega, by omega, by omega, by omega, by omega⟩, by rw [hq, sat_in _ (by omega) (by omega)]⟩)
  have V5 := Lib.hid (show (-9223372036854775808 ≤ q ∧ q ≤ 9223372036854775807 ∧ -9223372036854775808 ≤ b ∧ b ≤ 9223372036854775807) ∧ sat (fl (q * b) 256) = t from ⟨⟨by omega, by omega, by omega, by omega⟩, by rw [ht, sat_in _ (by omega) (by omega)]⟩)
  clear ht hq
  go_enter Try.func5, Try.ntmps5
  go_wp2_with (first
    | (go_at_call 28; with_reducible refine (div_val a0 256 a0 V1.out _).mono ?_; rintro e w1 ⟨rfl, hb1⟩; obtain ⟨hg1, hs1⟩ := below_c (w := w) hb1 (by go_grown); clear hb1)
    | (go_at_call 29; with_reducible refine (fmul_val a0 256 a0 V2.out _).mono ?_; rintro e w1 ⟨rfl, hb1⟩; obtain ⟨hg1, hs1⟩ := below_c (w := w) hb1 (by go_grown); clear hb1)
    | (go_at_call 29; with_reducible refine (fmul_val 256 a0 a0 V3.out _).mono ?_; rintro e w1 ⟨rfl, hb1⟩; obtain ⟨hg1, hs1⟩ := below_c (w := w) hb1 (by go_grown); clear hb1)
    | (go_at_call 28; with_reducible refine (div_val a b q V4.out _).mono ?_; rintro e w1 ⟨rfl, hb1⟩; obtain ⟨hg1, hs1⟩ := below_c (w := w) hb1 (by go_grown); clear hb1)
    | (go_at_call 29; with_reducible refine (fmul_val q b t V5.out _).mono ?_; rintro e w1 ⟨rfl, hb1⟩; obtain ⟨hg1, hs1⟩ := below_c (w := w) hb1 (by go_grown); clear hb1)
    | (go_at_call 30; refine (is_yes _ _).mono ?_; rintro e w1 ⟨rfl, hb1⟩; obtain ⟨hg1, hs1⟩ := below_c (w := w) hb1 (by go_grown); clear hb1)
    | (go_at_call 26; refine (awake01 _).mono ?_; rintro e w1 ⟨rfl, hb1⟩; obtain ⟨hg1, hs1⟩ := below_c (w := w) hb1 (by go_grown); clear hb1))
  go_returns
  exact ⟨rfl, by go_grown⟩
end Go.Proofs.Ytolifgjkejhlhaa
