/- FixedRoots: the walk: whatever the arguments are, it returns true and writes nothing that was there. -/
import Derived.Test.YtolifgjkejhlhaaAwake1
import Derived.OpenShut
import Derived.Deep.DeepCutAuto
import Derived.Deep.CutBlock
set_option linter.unusedVariables false
set_option linter.unusedSimpArgs false
namespace Go.Proofs.Ytolifgjkejhlhaa
open Go.RowKit

theorem abs_val' (a v : Int) (h : (-9223372036854775808 ≤ a ∧ a ≤ 9223372036854775807) ∧ sat (a.natAbs : Int) = v) (w : World) :
    Calls Try.prog 34 #[.int .i64 a] w fun e w' => e = .returned (.int .i64 v) ∧ Below w.heap.size w w' := by
  obtain ⟨⟨h1, h2⟩, rfl⟩ := h
  exact abs_any a h1 h2 w
theorem sq_le {a b : Int} (ha : 0 ≤ a) (h : a ≤ b) : a * a ≤ b * b := Int.mul_le_mul h h ha (by omega)
theorem natAbs_sq (a : Int) : (a.natAbs : Int) * (a.natAbs : Int) = a * a := by
  rcases Int.natAbs_eq a with h | h
  · rw [← h]
  · have : (a.natAbs : Int) = -a := by omega
    rw [this, Int.neg_mul_neg]
theorem roots_div (N r : Int) (h0 : 0 ≤ r) (h1 : r * r ≤ N) (h2 : N < (r + 1) * (r + 1)) : (1 ≤ r → r ≤ N / r) ∧ N / (r + 1) ≤ r := by
  refine ⟨fun h => ?_, ?_⟩
  · exact (Int.le_ediv_iff_mul_le (by omega)).2 h1
  · have : N / (r + 1) < r + 1 := (Int.ediv_lt_iff_lt_mul (by omega)).2 h2
    omega

set_option maxRecDepth 100000 in
set_option maxHeartbeats 16000000 in
theorem walk_FixedRoots (a0 : Int) (a1 : Int) (a2 : Int) (w0 : (Lit.int .i64 a0).wf = true) (w1 : (Lit.int .i32 a1).wf = true) (w2 : (Lit.int .i32 a2).wf = true) (w : World) :
    Calls Try.prog 8 #[.int .i64 a0, .int .i32 a1, .int .i32 a2] w fun e w' => e = .returned (.bool true) ∧ Below w.heap.size w w' := by
  obtain ⟨x1, x2⟩ := bounds_i64 w0
  obtain ⟨y1, y2⟩ := bounds_i32 w1
  obtain ⟨z1, z2⟩ := bounds_i32 w2
  clear w0 w1 w2
  go_enter Try.func8, Try.ntmps8
  go_upto_if 17 with fail
  go_cut [0] (fun s wx => ∃ N : Int, s = .int .i64 N ∧ 0 ≤ N ∧ N ≤ 9223372036854775807 ∧ Below w.heap.size w wx)
  case first =>
    by_cases h : a0 < 0
    · go_wp2_with fail
      go_meet
      exact ⟨-(a0 + 1), rfl, by omega, by omega, by go_grown⟩
    · go_wp2_with fail
      go_meet
      exact ⟨a0, rfl, by omega, by omega, by go_grown⟩
  case rest =>
    obtain ⟨N, rfl, n1, n2, hB0⟩ := hcut
    obtain ⟨r, hr⟩ : ∃ r, rt N = r := ⟨_, rfl⟩
    obtain ⟨r1, r2, r3⟩ := rt_spec N n1
    obtain ⟨r4, -⟩ := rt_le N n1
    rw [hr] at r1 r2 r3 r4
    have r5 : r ≤ 3037000499 := by
      rcases Int.lt_or_le r 3037000500 with h | h
      · omega
      · have := sq_le (by omega) h; omega
    obtain ⟨q1, q2⟩ := roots_div N r r1 r2 r3
    have V1 := Lib.hid (show 0 ≤ N ∧ N ≤ 9223372036854775807 ∧ 0 ≤ r ∧ r * r ≤ N ∧ N < (r + 1) * (r + 1) from ⟨n1, n2, r1, r2, r3⟩)
    clear hr r2 r3
    go_upto_region 4 with (go_at_call 32; with_reducible refine (sqrt_val N r V1.out _).mono ?_; rintro e w1 ⟨rfl, hb1⟩; obtain ⟨hg1, hs1⟩ := below_c (w := w) hb1 (by go_grown); clear hb1)
    go_cut [51] (fun s wx => s = .bool false ∧ Below w.heap.size w wx)
    case first =>
      by_cases h : r = 0
      · subst h
        have hN : N ≤ 0 := by simpa using q2
        clear q1 q2
        go_wp2_with fail
        all_goals
          go_meet
          exact ⟨by first | rfl | (simp; omega), by go_grown⟩
      · have q3 := q1 (by omega)
        have h1 : 1 ≤ r := by omega
        clear q1
        go_wp2_with fail
        all_goals
          go_meet
          exact ⟨by first | rfl | (simp; omega), by go_grown⟩
    case rest =>
      obtain ⟨rfl, hB1⟩ := hcut
      clear q1 q2 V1 r1 r4 r5 hB0
      have s1 := natAbs_mul_lt a1 a1 2147483648 2147483648 (by omega) (by omega)
      have s2 := natAbs_mul_lt a2 a2 2147483648 2147483648 (by omega) (by omega)
      have s3 := (sq_bd a1 (by omega) (by omega)).1
      have s4 := (sq_bd a2 (by omega) (by omega)).1
      have s5 : a1 * a1 ≤ 4611686018427387904 := by omega
      have s6 : a2 * a2 ≤ 4611686018427387904 := by omega
      clear s1 s2
      obtain ⟨H, hH⟩ : ∃ H, rt (a1 * a1 + a2 * a2) = H := ⟨_, rfl⟩
      obtain ⟨h1, h2, h3⟩ := rt_spec (a1 * a1 + a2 * a2) (by omega)
      rw [hH] at h1 h2 h3
      have h4 : H ≤ 3037000500 := by
        rcases Int.lt_or_le H 3037000501 with h | h
        · omega
        · have := sq_le (by omega) h; omega
      have h5 : (H + 1) * (H + 1) ≤ 9223372043074251001 := by
        have := sq_le (show 0 ≤ H + 1 by omega) (show H + 1 ≤ 3037000501 by omega); omega
      have V2 := Lib.hid (show (-9223372036854775808 ≤ a1 ∧ a1 ≤ 9223372036854775807 ∧ -9223372036854775808 ≤ a2 ∧ a2 ≤ 9223372036854775807) ∧ 0 ≤ H ∧ H * H ≤ a1 * a1 + a2 * a2 ∧ a1 * a1 + a2 * a2 < (H + 1) * (H + 1) ∧ sat H = H from ⟨⟨by omega, by omega, by omega, by omega⟩, h1, h2, h3, sat_in _ (by omega) (by omega)⟩)
      have V3 := Lib.hid (show (-9223372036854775808 ≤ a2 ∧ a2 ≤ 9223372036854775807 ∧ -9223372036854775808 ≤ -a1 ∧ -a1 ≤ 9223372036854775807) ∧ 0 ≤ H ∧ H * H ≤ a2 * a2 + -a1 * -a1 ∧ a2 * a2 + -a1 * -a1 < (H + 1) * (H + 1) ∧ sat H = H from ⟨⟨by omega, by omega, by omega, by omega⟩, h1, by rw [Int.neg_mul_neg]; omega, by rw [Int.neg_mul_neg]; omega, sat_in _ (by omega) (by omega)⟩)
      have h6 : 0 ≤ H * H := Int.mul_nonneg h1 h1
      have h7 : 0 ≤ (H + 1) * (H + 1) := Int.mul_nonneg (by omega) (by omega)
      clear hH
      go_upto_region 9 with (go_at_call 33; with_reducible refine (hyp_val a1 a2 H H V2.out _).mono ?_; rintro e w1 ⟨rfl, hb1⟩; obtain ⟨hg1, hs1⟩ := below_c (w := w) hb1 (by go_grown); clear hb1)
      go_cut [97] (fun s wx => s = .bool false ∧ Below w.heap.size w wx)
      case first =>
        go_wp2_with (go_at_call 33; with_reducible refine (hyp_val a2 (-a1) H H V3.out _).mono ?_; rintro e w1 ⟨rfl, hb1⟩; obtain ⟨hg1, hs1⟩ := below_c (w := w) hb1 (by go_grown); clear hb1)
        all_goals
          go_meet
          exact ⟨by first | rfl | (simp; omega), by go_grown⟩
      case rest =>
        obtain ⟨rfl, hB2⟩ := hcut
        clear V2 V3 h1 h2 h3 h4 h5 h6 h7 hB1
        obtain ⟨Z, hZ⟩ : ∃ Z, (a1.natAbs : Int) = Z := ⟨_, rfl⟩
        have t1 : 0 ≤ Z := by omega
        have t2 : Z ≤ 2147483648 := by omega
        have t3 : Z * Z = a1 * a1 := by rw [← hZ]; exact natAbs_sq a1
        have t4 : 0 ≤ Z * Z := by omega
        have t5 : Z * Z ≤ 4611686018427387904 := by omega
        have e1 : (Z + 1) * (Z + 1) = Z * Z + 2 * Z + 1 := by rw [Int.add_mul, Int.mul_add]; omega
        have e2 : (Z - 1) * (Z - 1) = Z * Z - 2 * Z + 1 := by rw [Int.sub_mul, Int.mul_sub]; omega
        have e3 : (Z - 1 + 1) * (Z - 1 + 1) = Z * Z := by rw [show Z - 1 + 1 = Z by omega]
        have V4 := Lib.hid (show (-9223372036854775808 ≤ a1 ∧ a1 ≤ 9223372036854775807) ∧ sat (a1.natAbs : Int) = Z from ⟨⟨by omega, by omega⟩, by rw [hZ, sat_in _ (by omega) (by omega)]⟩)
        have V5 := Lib.hid (show 0 ≤ Z * Z ∧ Z * Z ≤ 9223372036854775807 ∧ 0 ≤ Z ∧ Z * Z ≤ Z * Z ∧ Z * Z < (Z + 1) * (Z + 1) from ⟨t4, by omega, t1, by omega, by omega⟩)
        have V6 := Lib.hid (show (-9223372036854775808 ≤ a1 ∧ a1 ≤ 9223372036854775807 ∧ -9223372036854775808 ≤ (0 : Int) ∧ (0 : Int) ≤ 9223372036854775807) ∧ 0 ≤ Z ∧ Z * Z ≤ a1 * a1 + 0 * 0 ∧ a1 * a1 + 0 * 0 < (Z + 1) * (Z + 1) ∧ sat Z = Z from ⟨⟨by omega, by omega, by omega, by omega⟩, t1, by omega, by omega, sat_in _ (by omega) (by omega)⟩)
        by_cases hz : Z = 0
        · subst hz
          clear e1 e2 e3 t3 hZ
          go_wp2_with (first
            | (go_at_call 34; with_reducible refine (abs_val' a1 0 V4.out _).mono ?_; rintro e w1 ⟨rfl, hb1⟩; obtain ⟨hg1, hs1⟩ := below_c (w := w) hb1 (by go_grown); clear hb1)
            | (go_at_call 32; with_reducible refine (sqrt_val 0 0 (by decide) _).mono ?_; rintro e w1 ⟨rfl, hb1⟩; obtain ⟨hg1, hs1⟩ := below_c (w := w) hb1 (by go_grown); clear hb1)
            | (go_at_call 33; with_reducible refine (hyp_val a1 0 0 0 V6.out _).mono ?_; rintro e w1 ⟨rfl, hb1⟩; obtain ⟨hg1, hs1⟩ := below_c (w := w) hb1 (by go_grown); clear hb1)
            | (go_at_call 26; refine (awake01 _).mono ?_; rintro e w1 ⟨rfl, hb1⟩; obtain ⟨hg1, hs1⟩ := below_c (w := w) hb1 (by go_grown); clear hb1))
          all_goals
            go_returns
            exact ⟨rfl, by go_grown⟩
        · have t6 : 1 ≤ Z := by omega
          have t7 : 1 ≤ Z * Z := by have := Int.mul_le_mul_of_nonneg_left t6 t1; omega
          have V7 := Lib.hid (show 0 ≤ Z * Z - 1 ∧ Z * Z - 1 ≤ 9223372036854775807 ∧ 0 ≤ Z - 1 ∧ (Z - 1) * (Z - 1) ≤ Z * Z - 1 ∧ Z * Z - 1 < (Z - 1 + 1) * (Z - 1 + 1) from ⟨by omega, by omega, by omega, by omega, by omega⟩)
          clear e1 e2 e3 t3 hZ
          go_wp2_with (first
            | (go_at_call 34; with_reducible refine (abs_val' a1 Z V4.out _).mono ?_; rintro e w1 ⟨rfl, hb1⟩; obtain ⟨hg1, hs1⟩ := below_c (w := w) hb1 (by go_grown); clear hb1)
            | (go_at_call 32; with_reducible refine (sqrt_val (Z * Z) Z V5.out _).mono ?_; rintro e w1 ⟨rfl, hb1⟩; obtain ⟨hg1, hs1⟩ := below_c (w := w) hb1 (by go_grown); clear hb1)
            | (go_at_call 32; with_reducible refine (sqrt_val (Z * Z - 1) (Z - 1) V7.out _).mono ?_; rintro e w1 ⟨rfl, hb1⟩; obtain ⟨hg1, hs1⟩ := below_c (w := w) hb1 (by go_grown); clear hb1)
            | (go_at_call 33; with_reducible refine (hyp_val a1 0 Z Z V6.out _).mono ?_; rintro e w1 ⟨rfl, hb1⟩; obtain ⟨hg1, hs1⟩ := below_c (w := w) hb1 (by go_grown); clear hb1)
            | (go_at_call 26; refine (awake01 _).mono ?_; rintro e w1 ⟨rfl, hb1⟩; obtain ⟨hg1, hs1⟩ := below_c (w := w) hb1 (by go_grown); clear hb1))
          all_goals
            go_returns
            exact ⟨rfl, by go_grown⟩
end Go.Proofs.Ytolifgjkejhlhaa
