/- FixedLerps: the walk: whatever the arguments are, it returns true and writes nothing that was there. -/
import Derived.Test.YtolifgjkejhlhaaAwake1
import Derived.OpenShut
import Derived.Deep.DeepCutAuto
import Derived.Deep.CutBlock
set_option linter.unusedVariables false
set_option linter.unusedSimpArgs false
namespace Go.Proofs.Ytolifgjkejhlhaa
open Go.RowKit

theorem fl_mono (x y c : Int) (hc : 0 < c) (h : x ≤ y) : fl x c ≤ fl y c := by
  unfold fl; rw [if_pos hc, if_pos hc]; exact Int.ediv_le_ediv hc h
theorem fl_add_mul (x k c : Int) (hc : 0 < c) : fl (k * c + x) c = k + fl x c := by
  unfold fl; rw [if_pos hc, if_pos hc, Int.add_comm, Int.add_mul_ediv_right _ _ (by omega), Int.add_comm]
theorem fl_zero (c : Int) (hc : 0 < c) : fl 0 c = 0 := by unfold fl; rw [if_pos hc]; simp
/-- the ways of the interpolation, in plain numbers -/
theorem lerp_law (a b lo hi p : Int) (hp : 0 < p) (h0 : 0 ≤ lo) (h1 : lo ≤ hi) (h2 : hi ≤ p) :
    a + fl ((b - a) * 0) p = a ∧ a + fl ((b - a) * p) p = b ∧ b + fl ((a - b) * (p - lo)) p = a + fl ((b - a) * lo) p ∧
    (a ≤ b → a ≤ a + fl ((b - a) * lo) p ∧ fl ((b - a) * lo) p ≤ fl ((b - a) * hi) p ∧ a + fl ((b - a) * hi) p ≤ b) ∧
    (b ≤ a → b ≤ a + fl ((b - a) * hi) p ∧ fl ((b - a) * hi) p ≤ fl ((b - a) * lo) p ∧ a + fl ((b - a) * lo) p ≤ a) := by
  have e0 : fl ((b - a) * 0) p = 0 := by rw [Int.mul_zero]; exact fl_zero p hp
  have e1 : fl ((b - a) * p) p = b - a := by
    have := fl_add_mul 0 (b - a) p hp
    rw [Int.add_zero, fl_zero p hp] at this; omega
  have e2 : fl ((a - b) * (p - lo)) p = (a - b) + fl ((b - a) * lo) p := by
    rw [← fl_add_mul _ _ _ hp]
    congr 1
    rw [Int.mul_sub, Int.sub_mul a b lo, Int.sub_mul b a lo]; omega
  refine ⟨by omega, by omega, by omega, fun h => ⟨?_, ?_, ?_⟩, fun h => ⟨?_, ?_, ?_⟩⟩
  · have := fl_mono 0 ((b - a) * lo) p hp (Int.mul_nonneg (by omega) h0); rw [fl_zero p hp] at this; omega
  · exact fl_mono _ _ p hp (Int.mul_le_mul_of_nonneg_left h1 (by omega))
  · have := fl_mono ((b - a) * hi) ((b - a) * p) p hp (Int.mul_le_mul_of_nonneg_left h2 (by omega)); omega
  · have := fl_mono ((b - a) * p) ((b - a) * hi) p hp (by
      have := Int.mul_le_mul_of_nonneg_left h2 (show 0 ≤ a - b by omega)
      rw [show b - a = -(a - b) by omega, Int.neg_mul, Int.neg_mul]; omega)
    omega
  · exact fl_mono _ _ p hp (by
      have := Int.mul_le_mul_of_nonneg_left h1 (show 0 ≤ a - b by omega)
      rw [show b - a = -(a - b) by omega, Int.neg_mul, Int.neg_mul]; omega)
  · have := fl_mono ((b - a) * lo) 0 p hp (by
      have := Int.mul_nonneg (show 0 ≤ a - b by omega) h0
      rw [show b - a = -(a - b) by omega, Int.neg_mul]; omega)
    rw [fl_zero p hp] at this; omega

set_option maxRecDepth 100000 in
set_option maxHeartbeats 16000000 in
theorem walk_FixedLerps (a0 : Int) (a1 : Int) (a2 : Int) (a3 : Int) (a4 : Int) (w0 : (Lit.int .i64 a0).wf = true) (w1 : (Lit.int .i64 a1).wf = true) (w2 : (Lit.int .u16 a2).wf = true) (w3 : (Lit.int .u16 a3).wf = true) (w4 : (Lit.int .u16 a4).wf = true) (w : World) :
    Calls Try.prog 4 #[.int .i64 a0, .int .i64 a1, .int .u16 a2, .int .u16 a3, .int .u16 a4] w fun e w' => e = .returned (.bool true) ∧ Below w.heap.size w w' := by
  obtain ⟨x1, x2⟩ := bounds_i64 w0
  obtain ⟨y1, y2⟩ := bounds_i64 w1
  obtain ⟨n1, n2⟩ := bounds_u16 w2
  obtain ⟨m1, m2⟩ := bounds_u16 w3
  obtain ⟨d1, d2⟩ := bounds_u16 w4
  clear w0 w1 w2 w3 w4
  have r1 := Int.emod_nonneg a2 (show a4 + 1 + 1 ≠ 0 by omega)
  have r2 := Int.emod_lt_of_pos a2 (show 0 < a4 + 1 + 1 by omega)
  have r3 := Int.emod_nonneg a3 (show a4 + 1 + 1 ≠ 0 by omega)
  have r4 := Int.emod_lt_of_pos a3 (show 0 < a4 + 1 + 1 by omega)
  go_enter Try.func4, Try.ntmps4
  go_upto_region 2 with fail
  go_cut [12, 13] (fun s t wx => ∃ i j : Int, s = .int .i64 i ∧ t = .int .i64 j ∧ 0 ≤ i ∧ i ≤ a4 + 1 ∧ 0 ≤ j ∧ j ≤ a4 + 1 ∧ Below w.heap.size w wx)
  case first =>
    rcases (by omega : a2 < a3 ∨ a3 < a2 ∨ a2 = a3) with h | h | h
    · go_quiet (fail)
      go_wp2_with fail
      go_meet
      exact ⟨_, _, rfl, rfl, by omega, by omega, by omega, by omega, below_drewN (Below.refl _ _) _⟩
    · go_quiet (fail)
      go_wp2_with fail
      go_meet
      exact ⟨_, _, rfl, rfl, by omega, by omega, by omega, by omega, below_drewN (Below.refl _ _) _⟩
    · subst h
      go_quiet (fail)
      go_wp2_with fail
      go_meet
      exact ⟨_, _, rfl, rfl, by omega, by omega, by omega, by omega, below_drewN (Below.refl _ _) _⟩
  case rest =>
    obtain ⟨i, j, rfl, rfl, i1, i2, j1, j2, hB⟩ := hcut
    go_upto_region 3 with fail
    go_cut [12, 13] (fun s t wx => ∃ lo hi : Int, s = .int .i64 lo ∧ t = .int .i64 hi ∧ 0 ≤ lo ∧ lo ≤ hi ∧ hi ≤ a4 + 1 ∧ Below w.heap.size w wx)
    case first =>
      rcases (by omega : i < j ∨ j < i ∨ i = j) with h | h | h
      · go_wp2_with fail
        go_meet
        exact ⟨_, _, rfl, rfl, by omega, by omega, by omega, by go_grown⟩
      · go_wp2_with fail
        go_meet
        exact ⟨_, _, rfl, rfl, by omega, by omega, by omega, by go_grown⟩
      · subst h
        go_wp2_with fail
        go_meet
        exact ⟨_, _, rfl, rfl, by omega, by omega, by omega, by go_grown⟩
    case rest =>
      obtain ⟨lo, hi, rfl, rfl, l1, l2, l3, hB2⟩ := hcut
      obtain ⟨q1, q2, q3, q4, q5⟩ := lerp_law a0 a1 lo hi (a4 + 1) (by omega) l1 l2 l3
      obtain ⟨X, hX⟩ : ∃ X, a0 + fl ((a1 - a0) * lo) (a4 + 1) = X := ⟨_, rfl⟩
      obtain ⟨Y, hY⟩ : ∃ Y, a0 + fl ((a1 - a0) * hi) (a4 + 1) = Y := ⟨_, rfl⟩
      have u1 : a0 ≤ a1 → a0 ≤ X ∧ X ≤ Y ∧ Y ≤ a1 := fun h => by have := q4 h; omega
      have u2 : a1 ≤ a0 → a1 ≤ Y ∧ Y ≤ X ∧ X ≤ a0 := fun h => by have := q5 h; omega
      have b0 : -9223372036854775808 ≤ X ∧ X ≤ 9223372036854775807 ∧ -9223372036854775808 ≤ Y ∧ Y ≤ 9223372036854775807 := by
        rcases Int.le_total a0 a1 with h | h
        · have := u1 h; omega
        · have := u2 h; omega
      have V1 := Lib.hid (show (-9223372036854775808 ≤ a0 ∧ a0 ≤ 9223372036854775807 ∧ -9223372036854775808 ≤ a1 ∧ a1 ≤ 9223372036854775807 ∧ -9223372036854775808 ≤ (0 : Int) ∧ (0 : Int) ≤ 9223372036854775807 ∧ -9223372036854775808 ≤ a4 + 1 ∧ a4 + 1 ≤ 9223372036854775807 ∧ a4 + 1 ≠ 0) ∧ sat (a0 + fl ((a1 - a0) * 0) (a4 + 1)) = a0 from ⟨⟨x1, x2, y1, y2, by omega, by omega, by omega, by omega, by omega⟩, by rw [q1, sat_in _ x1 x2]⟩)
      have V2 := Lib.hid (show (-9223372036854775808 ≤ a0 ∧ a0 ≤ 9223372036854775807 ∧ -9223372036854775808 ≤ a1 ∧ a1 ≤ 9223372036854775807 ∧ -9223372036854775808 ≤ a4 + 1 ∧ a4 + 1 ≤ 9223372036854775807 ∧ -9223372036854775808 ≤ a4 + 1 ∧ a4 + 1 ≤ 9223372036854775807 ∧ a4 + 1 ≠ 0) ∧ sat (a0 + fl ((a1 - a0) * (a4 + 1)) (a4 + 1)) = a1 from ⟨⟨x1, x2, y1, y2, by omega, by omega, by omega, by omega, by omega⟩, by rw [q2, sat_in _ y1 y2]⟩)
      have V3 := Lib.hid (show (-9223372036854775808 ≤ a0 ∧ a0 ≤ 9223372036854775807 ∧ -9223372036854775808 ≤ a1 ∧ a1 ≤ 9223372036854775807 ∧ -9223372036854775808 ≤ lo ∧ lo ≤ 9223372036854775807 ∧ -9223372036854775808 ≤ a4 + 1 ∧ a4 + 1 ≤ 9223372036854775807 ∧ a4 + 1 ≠ 0) ∧ sat (a0 + fl ((a1 - a0) * lo) (a4 + 1)) = X from ⟨⟨x1, x2, y1, y2, by omega, by omega, by omega, by omega, by omega⟩, by rw [hX, sat_in _ (by omega) (by omega)]⟩)
      have V4 := Lib.hid (show (-9223372036854775808 ≤ a0 ∧ a0 ≤ 9223372036854775807 ∧ -9223372036854775808 ≤ a1 ∧ a1 ≤ 9223372036854775807 ∧ -9223372036854775808 ≤ hi ∧ hi ≤ 9223372036854775807 ∧ -9223372036854775808 ≤ a4 + 1 ∧ a4 + 1 ≤ 9223372036854775807 ∧ a4 + 1 ≠ 0) ∧ sat (a0 + fl ((a1 - a0) * hi) (a4 + 1)) = Y from ⟨⟨x1, x2, y1, y2, by omega, by omega, by omega, by omega, by omega⟩, by rw [hY, sat_in _ (by omega) (by omega)]⟩)
      have V5 := Lib.hid (show (-9223372036854775808 ≤ a1 ∧ a1 ≤ 9223372036854775807 ∧ -9223372036854775808 ≤ a0 ∧ a0 ≤ 9223372036854775807 ∧ -9223372036854775808 ≤ a4 + 1 - lo ∧ a4 + 1 - lo ≤ 9223372036854775807 ∧ -9223372036854775808 ≤ a4 + 1 ∧ a4 + 1 ≤ 9223372036854775807 ∧ a4 + 1 ≠ 0) ∧ sat (a1 + fl ((a0 - a1) * (a4 + 1 - lo)) (a4 + 1)) = X from ⟨⟨y1, y2, x1, x2, by omega, by omega, by omega, by omega, by omega⟩, by rw [q3, hX, sat_in _ (by omega) (by omega)]⟩)
      clear hB q1 q2 q3 q4 q5 hX hY
      by_cases hab : a1 < a0
      · obtain ⟨u3, u4, u5⟩ := u2 (by omega)
        clear u1 u2
        go_wp2_with (first
          | (go_at_call 27; with_reducible refine (lerp_val a0 a1 0 (a4 + 1) a0 V1.out _).mono ?_; rintro e w1 ⟨rfl, hb1⟩; obtain ⟨hg1, hs1⟩ := below_c (w := w) hb1 (by go_grown); clear hb1)
          | (go_at_call 27; with_reducible refine (lerp_val a0 a1 (a4 + 1) (a4 + 1) a1 V2.out _).mono ?_; rintro e w1 ⟨rfl, hb1⟩; obtain ⟨hg1, hs1⟩ := below_c (w := w) hb1 (by go_grown); clear hb1)
          | (go_at_call 27; with_reducible refine (lerp_val a0 a1 lo (a4 + 1) X V3.out _).mono ?_; rintro e w1 ⟨rfl, hb1⟩; obtain ⟨hg1, hs1⟩ := below_c (w := w) hb1 (by go_grown); clear hb1)
          | (go_at_call 27; with_reducible refine (lerp_val a0 a1 hi (a4 + 1) Y V4.out _).mono ?_; rintro e w1 ⟨rfl, hb1⟩; obtain ⟨hg1, hs1⟩ := below_c (w := w) hb1 (by go_grown); clear hb1)
          | (go_at_call 27; with_reducible refine (lerp_val a1 a0 (a4 + 1 - lo) (a4 + 1) X V5.out _).mono ?_; rintro e w1 ⟨rfl, hb1⟩; obtain ⟨hg1, hs1⟩ := below_c (w := w) hb1 (by go_grown); clear hb1)
          | (go_at_call 26; refine (awake01 _).mono ?_; rintro e w1 ⟨rfl, hb1⟩; obtain ⟨hg1, hs1⟩ := below_c (w := w) hb1 (by go_grown); clear hb1))
        go_returns
        exact ⟨rfl, by go_grown⟩
      · obtain ⟨u3, u4, u5⟩ := u1 (by omega)
        clear u1 u2
        go_wp2_with (first
          | (go_at_call 27; with_reducible refine (lerp_val a0 a1 0 (a4 + 1) a0 V1.out _).mono ?_; rintro e w1 ⟨rfl, hb1⟩; obtain ⟨hg1, hs1⟩ := below_c (w := w) hb1 (by go_grown); clear hb1)
          | (go_at_call 27; with_reducible refine (lerp_val a0 a1 (a4 + 1) (a4 + 1) a1 V2.out _).mono ?_; rintro e w1 ⟨rfl, hb1⟩; obtain ⟨hg1, hs1⟩ := below_c (w := w) hb1 (by go_grown); clear hb1)
          | (go_at_call 27; with_reducible refine (lerp_val a0 a1 lo (a4 + 1) X V3.out _).mono ?_; rintro e w1 ⟨rfl, hb1⟩; obtain ⟨hg1, hs1⟩ := below_c (w := w) hb1 (by go_grown); clear hb1)
          | (go_at_call 27; with_reducible refine (lerp_val a0 a1 hi (a4 + 1) Y V4.out _).mono ?_; rintro e w1 ⟨rfl, hb1⟩; obtain ⟨hg1, hs1⟩ := below_c (w := w) hb1 (by go_grown); clear hb1)
          | (go_at_call 27; with_reducible refine (lerp_val a1 a0 (a4 + 1 - lo) (a4 + 1) X V5.out _).mono ?_; rintro e w1 ⟨rfl, hb1⟩; obtain ⟨hg1, hs1⟩ := below_c (w := w) hb1 (by go_grown); clear hb1)
          | (go_at_call 26; refine (awake01 _).mono ?_; rintro e w1 ⟨rfl, hb1⟩; obtain ⟨hg1, hs1⟩ := below_c (w := w) hb1 (by go_grown); clear hb1))
        go_returns
        exact ⟨rfl, by go_grown⟩
end Go.Proofs.Ytolifgjkejhlhaa
