/- marchesref21: Valid, Index, Point, Error; marchesref01.Clamp. -/
import Derived.Test.YtghfggfgndgkjaaGreatDoorBigHalf
import Derived.Test.YtghfggfgndgkjaaGreatDoorFit
set_option linter.unusedVariables false
set_option linter.unusedSimpArgs false
namespace Go.Proofs.YtghfggfgndgkjaaGreatDoor
open Go.RowKit
set_option maxRecDepth 100000
attribute [local go_sem] opLow opUpon opLow2 opUpon2 opLow3

theorem rhalf_val (a b c v : Int) (h : (0 ≤ a ∧ a < 4398046511104 ∧ 0 ≤ b ∧ b < 4398046511104 ∧ 0 < c ∧ c < 4398046511104) ∧ nr (a * b) c = v ∧ v < 9223372036854775808) (w : World) :
    Calls Tryz.prog 70 #[.int .i64 a, .int .i64 b, .int .i64 c] w fun e w' => e = .returned (.int .i64 v) ∧ Below w.heap.size w w' := by
  obtain ⟨⟨a0, a1, b0, b1, c0, c1⟩, rfl, hv⟩ := h
  obtain ⟨A, rfl⟩ := Int.eq_ofNat_of_zero_le a0
  obtain ⟨B, rfl⟩ := Int.eq_ofNat_of_zero_le b0
  obtain ⟨C, rfl⟩ := Int.eq_ofNat_of_zero_le (Int.le_of_lt c0)
  have e : nr ((A : Int) * B) C = ((A * B * 2 + C) / (C * 2) : Nat) := by
    rw [nr_pos _ _ c0]
    push_cast
    rw [Int.mul_comm 2, Int.mul_comm 2]
  rw [e] at hv ⊢
  exact half_any A B C (by omega) (by omega) (by omega) (by omega) (by omega) w
theorem rclamp_val (n lo hi v : Int) (h : min hi (max n lo) = v) (w : World) :
    Calls Tryz.prog 69 #[.int .i64 n, .int .i64 lo, .int .i64 hi] w fun e w' => e = .returned (.int .i64 v) ∧ Below w.heap.size w w' := by
  rcases (by omega : (n < lo ∧ hi < lo) ∨ (n < lo ∧ lo ≤ hi) ∨ (lo ≤ n ∧ hi < n) ∨ (lo ≤ n ∧ n ≤ hi)) with ⟨h1, h2⟩ | ⟨h1, h2⟩ | ⟨h1, h2⟩ | ⟨h1, h2⟩
  · obtain rfl : v = hi := by omega
    clear h
    go_enter Tryz.func69, Tryz.ntmps69
    go_wp2
    go_returns
    exact ⟨rfl, by go_grown⟩
  · obtain rfl : v = lo := by omega
    clear h
    go_enter Tryz.func69, Tryz.ntmps69
    go_wp2
    go_returns
    exact ⟨rfl, by go_grown⟩
  · obtain rfl : v = hi := by omega
    clear h
    go_enter Tryz.func69, Tryz.ntmps69
    go_wp2
    go_returns
    exact ⟨rfl, by go_grown⟩
  · obtain rfl : v = n := by omega
    clear h
    go_enter Tryz.func69, Tryz.ntmps69
    go_wp2
    go_returns
    exact ⟨rfl, by go_grown⟩
theorem rvalid_yes (lo hi b : Int) (hg : GV lo hi b) (w : World) :
    Calls Tryz.prog 31 #[G lo hi b] w fun e w' => e = .returned (.bool true) ∧ Below w.heap.size w w' := by
  obtain ⟨h1, h2, h3, h4, h5⟩ := hg
  have h6 : lo ≤ 1099511627776 := by omega
  have h7 : -1099511627776 ≤ hi := by omega
  go_enter Tryz.func31, Tryz.ntmps31
  go_wp2
  go_returns
  exact ⟨ret_bool (by first | rfl | (simp; omega)), by go_grown⟩
theorem rvalid_no (lo hi b : Int) (hg : ¬ GV lo hi b) (w : World) :
    Calls Tryz.prog 31 #[G lo hi b] w fun e w' => e = .returned (.bool false) ∧ Below w.heap.size w w' := by
  rcases (by unfold GV at hg; omega : hi ≤ lo ∨ (lo < hi ∧ lo < -1099511627776) ∨ (lo < hi ∧ -1099511627776 ≤ lo ∧ 1099511627776 < lo) ∨ (lo < hi ∧ -1099511627776 ≤ lo ∧ lo ≤ 1099511627776 ∧ -1099511627776 ≤ hi ∧ 1099511627776 < hi) ∨ (lo < hi ∧ -1099511627776 ≤ lo ∧ lo ≤ 1099511627776 ∧ -1099511627776 ≤ hi ∧ hi ≤ 1099511627776 ∧ b < 1) ∨ (lo < hi ∧ -1099511627776 ≤ lo ∧ lo ≤ 1099511627776 ∧ -1099511627776 ≤ hi ∧ hi ≤ 1099511627776 ∧ 1 ≤ b ∧ 32 < b)) with h1 | ⟨h1, h2⟩ | ⟨h1, h2, h3⟩ | ⟨h1, h2, h3, h4, h5⟩ | ⟨h1, h2, h3, h4, h5, h6⟩ | ⟨h1, h2, h3, h4, h5, h6, h7⟩
  all_goals
    clear hg
    go_enter Tryz.func31, Tryz.ntmps31
    go_wp2
    go_returns
    exact ⟨ret_bool (by first | rfl | (simp; omega)), by go_grown⟩
set_option maxHeartbeats 1000000 in
theorem rindex_any (lo hi b x : Int) (hg : GV lo hi b) (w : World) :
    Calls Tryz.prog 33 #[G lo hi b, .int .i64 x] w fun e w' => e = .returned (.int .i64 (qi lo hi b x)) ∧ Below w.heap.size w w' := by
  obtain ⟨q1, q2⟩ := qi_bd lo hi b x hg
  obtain ⟨h1, h2, h3, h4, h5⟩ := hg
  obtain ⟨g1, g2, g3⟩ := gn_bd b h4 h5
  obtain ⟨c, hc⟩ : ∃ c, min hi (max x lo) = c := ⟨_, rfl⟩
  have c1 : lo ≤ c := by omega
  have c2 : c ≤ hi := by omega
  have CL := Lib.hid (fun V => rclamp_val x lo hi c hc V)
  have HF := Lib.hid (fun V => rhalf_val (c - lo) (gn b) (hi - lo) (qi lo hi b x) ⟨⟨by omega, by omega, by omega, by omega, by omega, by omega⟩, by unfold qi cut; rw [hc], by omega⟩ V)
  have hw : IntKind.i64.wrap (c - lo) = c - lo := by rw [IntKind.wrap_i64]; omega
  have hw2 : IntKind.i64.wrap (hi - lo) = hi - lo := by rw [IntKind.wrap_i64]; omega
  have hw3 : IntKind.i64.wrap (gn b + 1 - 1) = gn b := by rw [IntKind.wrap_i64]; omega
  clear hc q1 q2
  go_enter Tryz.func33, Tryz.ntmps33
  go_wp2_with fail
  have B0 := Bk.made w #[.int .i64 lo, .int .i64 hi, .int .i64 b] 27
  have b0 : Below w.heap.size w (w.alloc (.cells #[.int .i64 lo, .int .i64 hi, .int .i64 b] 27)) := by go_grown
  refine (CL.out _).mono ?_
  rintro e V ⟨rfl, hb⟩
  have k0 := (B0.below hb).cell (v := .int .i64 lo) 0 rfl
  have k1 := (B0.below hb).cell (v := .int .i64 hi) 1 rfl
  have k2 := (B0.below hb).cell (v := .int .i64 b) 2 rfl
  have HV := Lib.hid (b0.trans (hb.mono b0.size))
  clear B0 b0 hb CL
  go_upto_region 2 with fail
  replace k0 := cell_regrown k0
  replace k1 := cell_regrown k1
  replace k2 := cell_regrown k2
  refine wp_region_low2 noPosts 13 (by kernel_rfl) (by kernel_rfl) ?_
  simp only [List.take, List.drop]
  iterate 13 (refine low2_step (fun K hK => ?_); go_simp; first | (refine hK _ ?_; clear hK K) | (apply Exists.intro; refine ⟨fun p => ?_, hK _ ?_⟩; clear hK K))
  refine low2_nil ?_
  intro W hC
  have HW := Lib.hid (HV.out.trans (hC.1.mono HV.out.size))
  clear hC k0 k1 k2 HV
  go_wp2_with fail
  refine (HF.out _).mono ?_
  rintro e W2 ⟨rfl, hb⟩
  have HX := Lib.hid (HW.out.trans (hb.mono HW.out.size))
  clear hb HW HF
  go_wp2
  go_returns
  exact ⟨rfl, HX.out⟩
set_option maxHeartbeats 1000000 in
theorem rpoint_any (lo hi b k : Int) (hg : GV lo hi b) (k0 : 0 ≤ k) (k1 : k ≤ gn b) (w : World) :
    Calls Tryz.prog 39 #[G lo hi b, .int .i64 k] w fun e w' => e = .returned (.int .i64 (qp lo hi b k)) ∧ Below w.heap.size w w' := by
  obtain ⟨q1, q2⟩ := qp_bd lo hi b k hg k0 k1
  obtain ⟨h1, h2, h3, h4, h5⟩ := hg
  obtain ⟨g1, g2, g3⟩ := gn_bd b h4 h5
  obtain ⟨p, hp⟩ : ∃ p, nr (k * (hi - lo)) (gn b) = p := ⟨_, rfl⟩
  have hq : qp lo hi b k = lo + p := by unfold qp; rw [hp]
  rw [hq] at q1 q2 ⊢
  have HF := Lib.hid (fun V => rhalf_val k (hi - lo) (gn b) p ⟨⟨by omega, by omega, by omega, by omega, by omega, by omega⟩, hp, by omega⟩ V)
  have hw2 : IntKind.i64.wrap (hi - lo) = hi - lo := by rw [IntKind.wrap_i64]; omega
  have hw3 : IntKind.i64.wrap (gn b + 1 - 1) = gn b := by rw [IntKind.wrap_i64]; omega
  have hw5 : IntKind.i64.wrap (gn b) = gn b := by rw [IntKind.wrap_i64]; omega
  have hw4 : IntKind.i64.wrap (lo + p) = lo + p := by rw [IntKind.wrap_i64]; omega
  clear hp hq k0 k1 q1 q2
  go_enter Tryz.func39, Tryz.ntmps39
  go_upto_region 1 with fail
  have B0 := Bk.made w #[.int .i64 lo, .int .i64 hi, .int .i64 b] 27
  have b0 : Below w.heap.size w (w.alloc (.cells #[.int .i64 lo, .int .i64 hi, .int .i64 b] 27)) := by go_grown
  have k0 := cell_regrown (B0.cell (v := .int .i64 lo) 0 rfl)
  have k1 := cell_regrown (B0.cell (v := .int .i64 hi) 1 rfl)
  have k2 := cell_regrown (B0.cell (v := .int .i64 b) 2 rfl)
  have HV := Lib.hid b0
  clear B0 b0
  refine wp_region_low2 noPosts 13 (by kernel_rfl) (by kernel_rfl) ?_
  simp only [List.take, List.drop]
  iterate 12 (refine low2_step (fun K hK => ?_); go_simp; first | (refine hK _ ?_; clear hK K) | (apply Exists.intro; refine ⟨fun p => ?_, hK _ ?_⟩; clear hK K))
  refine low2_reads 70 #[.int .i64 k, .int .i64 (hi - lo), .int .i64 (gn b)] (.int .i64 p) (by rfl) (fun w => by go_simp) rfl (by kernel_rfl) (fun V _ _ => HF.out V) ?_
  refine low2_nil ?_
  intro W hC
  have HW := Lib.hid (HV.out.trans (hC.1.mono HV.out.size))
  clear hC k0 k1 k2 HV HF
  go_wp2
  go_returns
  exact ⟨rfl, HW.out⟩
set_option maxHeartbeats 1000000 in
theorem rerror_any (lo hi b : Int) (hg : GV lo hi b) (w : World) :
    Calls Tryz.prog 45 #[G lo hi b] w fun e w' => e = .returned (.int .i64 (qe lo hi b)) ∧ Below w.heap.size w w' := by
  have hqe := qe_bd lo hi b hg
  obtain ⟨h1, h2, h3, h4, h5⟩ := hg
  obtain ⟨g1, g2, g3⟩ := gn_bd b h4 h5
  have hw2 : IntKind.i64.wrap (hi - lo) = hi - lo := by rw [IntKind.wrap_i64]; omega
  have hw3 : IntKind.i64.wrap (gn b + 1 - 1) = gn b := by rw [IntKind.wrap_i64]; omega
  have hw4 : IntKind.i64.wrap (2 * gn b) = 2 * gn b := by rw [IntKind.wrap_i64]; omega
  by_cases hc : hi - lo ≤ gn b
  · have hq : qe lo hi b = 0 := by unfold qe; rw [if_pos hc]
    rw [hq]
    clear hqe hq
    go_enter Tryz.func45, Tryz.ntmps45
    go_wp2
    go_quiet (fail)
    go_wp2
    go_returns
    exact ⟨rfl, below_drewN (by go_grown) _⟩
  · obtain ⟨q, hq⟩ : ∃ q, qe lo hi b = q := ⟨_, rfl⟩
    have HF := Lib.hid (fun V => rhalf_val (hi - lo) 1 (2 * gn b) q ⟨⟨by omega, by omega, by omega, by omega, by omega, by omega⟩, by rw [← hq]; unfold qe; rw [if_neg hc], by omega⟩ V)
    rw [hq]
    have hc' : gn b < hi - lo := by omega
    clear hqe hq hc
    go_enter Tryz.func45, Tryz.ntmps45
    go_wp2
    go_quiet (fail)
    go_wp2_with fail
    refine (HF.out _).mono ?_
    rintro e W2 ⟨rfl, hb⟩
    have HX := Lib.hid hb
    clear hb HF
    go_wp2
    go_returns
    exact ⟨rfl, (below_cc HX.out (below_drewN (by go_grown) _)).1⟩
end Go.Proofs.YtghfggfgndgkjaaGreatDoor
