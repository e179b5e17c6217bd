/- VecSides: the walk: whatever the arguments are, it returns true and writes nothing that was there. -/
import Derived.Test.YtolifgjkejhlhaaVLaw
import Derived.OpenShut
import Derived.Test.YtolifgjkejhlhaaMinMax
import Derived.Test.YtolifgjkejhlhaaVMore
set_option linter.unusedVariables false
set_option linter.unusedSimpArgs false
namespace Go.Proofs.Ytolifgjkejhlhaa
open Go.RowKit

open Go Go.Sort
attribute [local go_sem] opLow opUpon

set_option maxRecDepth 100000 in
set_option maxHeartbeats 8000000 in
theorem walk_VecSides (a0 a1 a2 a3 a4 a5 a6 a7 a8 : Int) (w0 : (Lit.int .i32 a0).wf = true) (w1 : (Lit.int .i32 a1).wf = true) (w2 : (Lit.int .i32 a2).wf = true) (w3 : (Lit.int .i32 a3).wf = true) (w4 : (Lit.int .i32 a4).wf = true) (w5 : (Lit.int .i32 a5).wf = true) (w6 : (Lit.int .i32 a6).wf = true) (w7 : (Lit.int .i32 a7).wf = true) (w8 : (Lit.int .u8 a8).wf = true) (w : World) :
    Calls Try.prog 14 #[.int .i32 a0, .int .i32 a1, .int .i32 a2, .int .i32 a3, .int .i32 a4, .int .i32 a5, .int .i32 a6, .int .i32 a7, .int .u8 a8] w fun e w' => e = .returned (.bool true) ∧ Below w.heap.size w w' := by
  have w0 := bounds_i32 w0
  have w1 := bounds_i32 w1
  have w2 := bounds_i32 w2
  have w3 := bounds_i32 w3
  have w4 := bounds_i32 w4
  have w5 := bounds_i32 w5
  have w6 := bounds_i32 w6
  have w7 := bounds_i32 w7
  have w8 := bounds_u8 w8
  obtain ⟨ax, hax⟩ : ∃ ax, wco a0 = ax := ⟨_, rfl⟩
  have bax := wco_bd a0
  rw [hax] at bax
  obtain ⟨ay, hay⟩ : ∃ ay, wco a1 = ay := ⟨_, rfl⟩
  have bay := wco_bd a1
  rw [hay] at bay
  have HW0 := Lib.hid (show ((-2147483648 ≤ a0 ∧ a0 ≤ 2147483647) ∧ (-2147483648 ≤ a1 ∧ a1 ≤ 2147483647)) ∧ wco a0 = ax ∧ wco a1 = ay from ⟨⟨w0, w1⟩, hax, hay⟩)
  clear hax hay
  obtain ⟨bx, hbx⟩ : ∃ bx, wco a2 = bx := ⟨_, rfl⟩
  have bbx := wco_bd a2
  rw [hbx] at bbx
  obtain ⟨cy, hcy⟩ : ∃ cy, wco a3 = cy := ⟨_, rfl⟩
  have bcy := wco_bd a3
  rw [hcy] at bcy
  have HW2 := Lib.hid (show ((-2147483648 ≤ a2 ∧ a2 ≤ 2147483647) ∧ (-2147483648 ≤ a3 ∧ a3 ≤ 2147483647)) ∧ wco a2 = bx ∧ wco a3 = cy from ⟨⟨w2, w3⟩, hbx, hcy⟩)
  clear hbx hcy
  obtain ⟨px, hpx⟩ : ∃ px, wco a4 = px := ⟨_, rfl⟩
  have bpx := wco_bd a4
  rw [hpx] at bpx
  obtain ⟨py, hpy⟩ : ∃ py, wco a5 = py := ⟨_, rfl⟩
  have bpy := wco_bd a5
  rw [hpy] at bpy
  have HW4 := Lib.hid (show ((-2147483648 ≤ a4 ∧ a4 ≤ 2147483647) ∧ (-2147483648 ≤ a5 ∧ a5 ≤ 2147483647)) ∧ wco a4 = px ∧ wco a5 = py from ⟨⟨w4, w5⟩, hpx, hpy⟩)
  clear hpx hpy
  obtain ⟨mx, hmx⟩ : ∃ mx, wco a6 = mx := ⟨_, rfl⟩
  have bmx := wco_bd a6
  rw [hmx] at bmx
  obtain ⟨my, hmy⟩ : ∃ my, wco a7 = my := ⟨_, rfl⟩
  have bmy := wco_bd a7
  rw [hmy] at bmy
  have HW6 := Lib.hid (show ((-2147483648 ≤ a6 ∧ a6 ≤ 2147483647) ∧ (-2147483648 ≤ a7 ∧ a7 ≤ 2147483647)) ∧ wco a6 = mx ∧ wco a7 = my from ⟨⟨w6, w7⟩, hmx, hmy⟩)
  clear hmx hmy
  obtain ⟨kk, hkk⟩ : ∃ kk, a8 % 64 - 32 = kk := ⟨_, rfl⟩
  have hk : -32 ≤ kk ∧ kk ≤ 32 := by omega
  obtain ⟨s, hs⟩ : ∃ s, vside ax ay bx cy px py = s := ⟨_, rfl⟩
  have sb := sgz_bd ((bx - ax) * (py - ay) - (cy - ay) * (px - ax))
  have hs' := hs
  unfold vside at hs'
  rw [hs'] at sb
  have v1 := vside_turn ax ay bx cy px py
  have v2 := vside_swap ax ay bx cy px py
  have v3 := vside_move ax ay bx cy px py mx my
  have v4 := vside_mirror ax ay bx cy px py
  have v5 := vside_same ax ay px py
  have v6 := vside_same ax ay bx cy
  have v7 := vside_line ax ay bx cy kk
  have v8 := vside_left ax ay bx cy kk
  obtain ⟨dx, hdx⟩ : ∃ dx, bx - ax = dx := ⟨_, rfl⟩
  obtain ⟨dy, hdy⟩ : ∃ dy, cy - ay = dy := ⟨_, rfl⟩
  obtain ⟨ex, hex⟩ : ∃ ex, px - ax = ex := ⟨_, rfl⟩
  obtain ⟨ey, hey⟩ : ∃ ey, py - ay = ey := ⟨_, rfl⟩
  rw [hdx, hdy] at v7 v8
  rw [hdx, hdy, hex, hey] at hs'
  have m1 := natAbs_mul_lt kk dx 32 2097152 (by omega) (by omega)
  have m2 := natAbs_mul_lt kk dy 32 2097152 (by omega) (by omega)
  have m3 := natAbs_mul_lt dx ey 2097152 2097152 (by omega) (by omega)
  have m4 := natAbs_mul_lt dy ex 2097152 2097152 (by omega) (by omega)
  obtain ⟨kx, hkx⟩ : ∃ kx, kk * dx = kx := ⟨_, rfl⟩
  obtain ⟨ky, hky⟩ : ∃ ky, kk * dy = ky := ⟨_, rfl⟩
  rw [hkx, hky] at v7 v8
  rw [hkx] at m1
  rw [hky] at m2
  obtain ⟨c, hc⟩ : ∃ c, dx * ey + -(dy * ex) = c := ⟨_, rfl⟩
  have hcs : (0 < c ∧ s = 1) ∨ (c < 0 ∧ s = -1) ∨ (c = 0 ∧ s = 0) := by
    rw [← hs', show dx * ey - dy * ex = c by omega]; unfold sgz; omega
  have hcb : -8796093022208 ≤ c ∧ c ≤ 8796093022208 := by omega
  have S0 := Lib.hid (show (I64 ax ∧ I64 ay ∧ I64 bx ∧ I64 cy ∧ I64 px ∧ I64 py) ∧ vside ax ay bx cy px py = s from ⟨⟨i64_small (by omega) (by omega), i64_small (by omega) (by omega), i64_small (by omega) (by omega), i64_small (by omega) (by omega), i64_small (by omega) (by omega), i64_small (by omega) (by omega)⟩, hs⟩)
  have S1 := Lib.hid (show (I64 px ∧ I64 py ∧ I64 ax ∧ I64 ay ∧ I64 bx ∧ I64 cy) ∧ vside px py ax ay bx cy = s from ⟨⟨i64_small (by omega) (by omega), i64_small (by omega) (by omega), i64_small (by omega) (by omega), i64_small (by omega) (by omega), i64_small (by omega) (by omega), i64_small (by omega) (by omega)⟩, v1.1.trans hs⟩)
  have S2 := Lib.hid (show (I64 bx ∧ I64 cy ∧ I64 px ∧ I64 py ∧ I64 ax ∧ I64 ay) ∧ vside bx cy px py ax ay = s from ⟨⟨i64_small (by omega) (by omega), i64_small (by omega) (by omega), i64_small (by omega) (by omega), i64_small (by omega) (by omega), i64_small (by omega) (by omega), i64_small (by omega) (by omega)⟩, v1.2.trans hs⟩)
  have S3 := Lib.hid (show (I64 bx ∧ I64 cy ∧ I64 ax ∧ I64 ay ∧ I64 px ∧ I64 py) ∧ vside bx cy ax ay px py = -s from ⟨⟨i64_small (by omega) (by omega), i64_small (by omega) (by omega), i64_small (by omega) (by omega), i64_small (by omega) (by omega), i64_small (by omega) (by omega), i64_small (by omega) (by omega)⟩, by rw [v2.1, hs]⟩)
  have S4 := Lib.hid (show (I64 ax ∧ I64 ay ∧ I64 px ∧ I64 py ∧ I64 bx ∧ I64 cy) ∧ vside ax ay px py bx cy = -s from ⟨⟨i64_small (by omega) (by omega), i64_small (by omega) (by omega), i64_small (by omega) (by omega), i64_small (by omega) (by omega), i64_small (by omega) (by omega), i64_small (by omega) (by omega)⟩, by rw [v2.2, hs]⟩)
  have A1 := Lib.hid (show (I64 ax ∧ I64 ay ∧ I64 mx ∧ I64 my) ∧ sat (ax + mx) = ax + mx ∧ sat (ay + my) = ay + my from ⟨⟨i64_small (by omega) (by omega), i64_small (by omega) (by omega), i64_small (by omega) (by omega), i64_small (by omega) (by omega)⟩, (sat_in _ (by omega) (by omega)).trans (by omega), (sat_in _ (by omega) (by omega)).trans (by omega)⟩)
  have A2 := Lib.hid (show (I64 bx ∧ I64 cy ∧ I64 mx ∧ I64 my) ∧ sat (bx + mx) = bx + mx ∧ sat (cy + my) = cy + my from ⟨⟨i64_small (by omega) (by omega), i64_small (by omega) (by omega), i64_small (by omega) (by omega), i64_small (by omega) (by omega)⟩, (sat_in _ (by omega) (by omega)).trans (by omega), (sat_in _ (by omega) (by omega)).trans (by omega)⟩)
  have A3 := Lib.hid (show (I64 px ∧ I64 py ∧ I64 mx ∧ I64 my) ∧ sat (px + mx) = px + mx ∧ sat (py + my) = py + my from ⟨⟨i64_small (by omega) (by omega), i64_small (by omega) (by omega), i64_small (by omega) (by omega), i64_small (by omega) (by omega)⟩, (sat_in _ (by omega) (by omega)).trans (by omega), (sat_in _ (by omega) (by omega)).trans (by omega)⟩)
  have S5 := Lib.hid (show (I64 (ax + mx) ∧ I64 (ay + my) ∧ I64 (bx + mx) ∧ I64 (cy + my) ∧ I64 (px + mx) ∧ I64 (py + my)) ∧ vside (ax + mx) (ay + my) (bx + mx) (cy + my) (px + mx) (py + my) = s from ⟨⟨i64_small (by omega) (by omega), i64_small (by omega) (by omega), i64_small (by omega) (by omega), i64_small (by omega) (by omega), i64_small (by omega) (by omega), i64_small (by omega) (by omega)⟩, v3.trans hs⟩)
  have S6 := Lib.hid (show (I64 (-ax) ∧ I64 ay ∧ I64 (-bx) ∧ I64 cy ∧ I64 (-px) ∧ I64 py) ∧ vside (-ax) ay (-bx) cy (-px) py = -s from ⟨⟨i64_small (by omega) (by omega), i64_small (by omega) (by omega), i64_small (by omega) (by omega), i64_small (by omega) (by omega), i64_small (by omega) (by omega), i64_small (by omega) (by omega)⟩, by rw [v4, hs]⟩)
  have S7 := Lib.hid (show (I64 ax ∧ I64 ay ∧ I64 ax ∧ I64 ay ∧ I64 px ∧ I64 py) ∧ vside ax ay ax ay px py = 0 from ⟨⟨i64_small (by omega) (by omega), i64_small (by omega) (by omega), i64_small (by omega) (by omega), i64_small (by omega) (by omega), i64_small (by omega) (by omega), i64_small (by omega) (by omega)⟩, v5.1⟩)
  have S8 := Lib.hid (show (I64 ax ∧ I64 ay ∧ I64 bx ∧ I64 cy ∧ I64 ax ∧ I64 ay) ∧ vside ax ay bx cy ax ay = 0 from ⟨⟨i64_small (by omega) (by omega), i64_small (by omega) (by omega), i64_small (by omega) (by omega), i64_small (by omega) (by omega), i64_small (by omega) (by omega), i64_small (by omega) (by omega)⟩, v6.2⟩)
  have U1 := Lib.hid (show (I64 bx ∧ I64 cy ∧ I64 ax ∧ I64 ay) ∧ sat (bx - ax) = dx ∧ sat (cy - ay) = dy from ⟨⟨i64_small (by omega) (by omega), i64_small (by omega) (by omega), i64_small (by omega) (by omega), i64_small (by omega) (by omega)⟩, (sat_in _ (by omega) (by omega)).trans (by omega), (sat_in _ (by omega) (by omega)).trans (by omega)⟩)
  have U2 := Lib.hid (show (I64 px ∧ I64 py ∧ I64 ax ∧ I64 ay) ∧ sat (px - ax) = ex ∧ sat (py - ay) = ey from ⟨⟨i64_small (by omega) (by omega), i64_small (by omega) (by omega), i64_small (by omega) (by omega), i64_small (by omega) (by omega)⟩, (sat_in _ (by omega) (by omega)).trans (by omega), (sat_in _ (by omega) (by omega)).trans (by omega)⟩)
  have C1 := Lib.hid (show (I64 dx ∧ I64 dy ∧ I64 ex ∧ I64 ey) ∧ sat (dx * ey + -(dy * ex)) = c from ⟨⟨i64_small (by omega) (by omega), i64_small (by omega) (by omega), i64_small (by omega) (by omega), i64_small (by omega) (by omega)⟩, by rw [hc]; exact sat_in _ (by omega) (by omega)⟩)
  have S9 := Lib.hid (show (I64 ax ∧ I64 ay ∧ I64 bx ∧ I64 cy ∧ I64 (ax + kx) ∧ I64 (ay + ky)) ∧ vside ax ay bx cy (ax + kx) (ay + ky) = 0 from ⟨⟨i64_small (by omega) (by omega), i64_small (by omega) (by omega), i64_small (by omega) (by omega), i64_small (by omega) (by omega), i64_small (by omega) (by omega), i64_small (by omega) (by omega)⟩, v7⟩)
  have hq : (-134217728 ≤ ax + kx ∧ ax + kx ≤ 134217728) ∧ (-134217728 ≤ ay + ky ∧ ay + ky ≤ 134217728) ∧ (-2097152 ≤ dx ∧ dx ≤ 2097152) ∧ (-2097152 ≤ dy ∧ dy ≤ 2097152) ∧ (-134217728 ≤ kx ∧ kx ≤ 134217728) ∧ (-134217728 ≤ ky ∧ ky ≤ 134217728) := by omega
  have HC := Lib.hid hcs
  clear hcs hs hs' v1 v2 v3 v4 v5 v6 v7 m1 m2 m3 m4 hc hex hey w0 w1 w2 w3 w4 w5 w6 w7
  obtain ⟨⟨q1, q2⟩, ⟨q3, q4⟩, ⟨q5, q6⟩, ⟨q7, q8⟩, ⟨q9, q10⟩, q11, q12⟩ := hq
  obtain ⟨s1, s2⟩ := sb
  obtain ⟨c1, c2⟩ := hcb
  obtain ⟨k1, k2⟩ := hk
  obtain ⟨r1, r2⟩ := w8
  obtain ⟨x1, x2⟩ := bax
  obtain ⟨x3, x4⟩ := bay
  obtain ⟨x5, x6⟩ := bbx
  obtain ⟨x7, x8⟩ := bcy
  obtain ⟨x9, x10⟩ := bpx
  by_cases hE : ax = bx ∧ ay = cy
  · skip
    have eqV := eqlv_V ax ay bx cy true (by rw [decide_eq_true_iff]; exact hE)
    clear hE v8
    have HX := Lib.hid (And.intro hdx hdy)
    clear hdx hdy
    have wr0 : IntKind.i64.wrap (-ax) = (-ax) := by rw [IntKind.wrap_i64]; omega
    have wr1 : IntKind.i64.wrap (-bx) = (-bx) := by rw [IntKind.wrap_i64]; omega
    have wr2 : IntKind.i64.wrap (-px) = (-px) := by rw [IntKind.wrap_i64]; omega
    have wr3 : IntKind.i64.wrap (-s) = (-s) := by rw [IntKind.wrap_i64]; omega
    go_enter Try.func14, Try.ntmps14
    go_wp2_with fail
    with_reducible refine (world_is _ _ _ _ HW0.out _).mono ?_
    rintro e W1 ⟨rfl, hb⟩
    obtain ⟨hB', hS'⟩ := below_c (w := w) hb (by (first | (go_grown; done) | (repeat (first | assumption | (refine Below.setCell ?_ (by first | assumption | (simp; omega) | omega) _) | (refine Below.alloc ?_ (by assumption) _)))))
    clear hb
    have hB := hB'; have hS := hS'; clear hB' hS' 
    go_wp2_with fail
    with_reducible refine (world_is _ _ _ _ HW2.out _).mono ?_
    rintro e W2 ⟨rfl, hb⟩
    obtain ⟨hB', hS'⟩ := below_c (w := w) hb (by (first | (go_grown; done) | (repeat (first | assumption | (refine Below.setCell ?_ (by first | assumption | (simp; omega) | omega) _) | (refine Below.alloc ?_ (by assumption) _)))))
    clear hb hB hS
    have hB := hB'; have hS := hS'; clear hB' hS' 
    go_wp2_with fail
    with_reducible refine (world_is _ _ _ _ HW4.out _).mono ?_
    rintro e W3 ⟨rfl, hb⟩
    obtain ⟨hB', hS'⟩ := below_c (w := w) hb (by (first | (go_grown; done) | (repeat (first | assumption | (refine Below.setCell ?_ (by first | assumption | (simp; omega) | omega) _) | (refine Below.alloc ?_ (by assumption) _)))))
    clear hb hB hS
    have hB := hB'; have hS := hS'; clear hB' hS' 
    go_wp2_with fail
    with_reducible refine (world_is _ _ _ _ HW6.out _).mono ?_
    rintro e W4 ⟨rfl, hb⟩
    obtain ⟨hB', hS'⟩ := below_c (w := w) hb (by (first | (go_grown; done) | (repeat (first | assumption | (refine Below.setCell ?_ (by first | assumption | (simp; omega) | omega) _) | (refine Below.alloc ?_ (by assumption) _)))))
    clear hb hB hS
    have hB := hB'; have hS := hS'; clear hB' hS' 
    go_wp2_with fail
    with_reducible refine (vside_is _ _ _ _ _ _ _ S0.out _).mono ?_
    rintro e W5 ⟨rfl, hb⟩
    have B'_a : Bk W5 (W4.heap.size) #[.int .i64 ax, .int .i64 ay] 55 := Bk.below (by (repeat (first | with_reducible assumption | ((with_reducible refine Bk.at_ ?_); first | rfl | (simp; done)) | with_reducible apply Bk.alloc))) hb
    have B'_b : Bk W5 (W4.heap.size + 1) #[.int .i64 bx, .int .i64 cy] 55 := Bk.below (by (repeat (first | with_reducible assumption | ((with_reducible refine Bk.at_ ?_); first | rfl | (simp; done)) | with_reducible apply Bk.alloc))) hb
    have B'_p : Bk W5 (W4.heap.size + 1 + 1) #[.int .i64 px, .int .i64 py] 55 := Bk.below (by (repeat (first | with_reducible assumption | ((with_reducible refine Bk.at_ ?_); first | rfl | (simp; done)) | with_reducible apply Bk.alloc))) hb
    have B'_m : Bk W5 (W4.heap.size + 1 + 1 + 1) #[.int .i64 mx, .int .i64 my] 55 := Bk.below (by (repeat (first | with_reducible assumption | ((with_reducible refine Bk.at_ ?_); first | rfl | (simp; done)) | with_reducible apply Bk.alloc))) hb
    obtain ⟨hB', hS'⟩ := below_c (w := w) hb (by (first | (go_grown; done) | (repeat (first | assumption | (refine Below.setCell ?_ (by first | assumption | (simp; omega) | omega) _) | (refine Below.alloc ?_ (by assumption) _)))))
    clear hb hB hS
    have B_a := B'_a
    have B_b := B'_b
    have B_p := B'_p
    have B_m := B'_m
    have hB := hB'; have hS := hS'; clear hB' hS' B'_a B'_b B'_p B'_m
    go_wp2_with fail
    have k_a_0 := cell_regrown (B_a.cell (v := .int .i64 ax) 0 rfl)
    have k_a_1 := cell_regrown (B_a.cell (v := .int .i64 ay) 1 rfl)
    have k_b_0 := cell_regrown (B_b.cell (v := .int .i64 bx) 0 rfl)
    have k_b_1 := cell_regrown (B_b.cell (v := .int .i64 cy) 1 rfl)
    have k_p_0 := cell_regrown (B_p.cell (v := .int .i64 px) 0 rfl)
    have k_p_1 := cell_regrown (B_p.cell (v := .int .i64 py) 1 rfl)
    have k_m_0 := cell_regrown (B_m.cell (v := .int .i64 mx) 0 rfl)
    have k_m_1 := cell_regrown (B_m.cell (v := .int .i64 my) 1 rfl)
    refine wp_region_low 53 (by kernel_rfl) (by kernel_rfl) ?_
    simp only [List.take, List.drop]
    iterate 53 (refine low_step (fun K hK => ?_); go_simp; first | (refine hK _ ?_; clear hK K) | (apply Exists.intro; refine ⟨fun p => ?_, hK _ ?_⟩; (first | with_reducible exact vside_is _ _ _ _ _ _ _ S1.out _ | with_reducible exact vside_is _ _ _ _ _ _ _ S2.out _ | with_reducible exact vside_is _ _ _ _ _ _ _ S3.out _ | with_reducible exact vside_is _ _ _ _ _ _ _ S4.out _ | with_reducible exact vside_is _ _ _ _ _ _ _ S5.out _ | with_reducible exact vadd_is _ _ _ _ _ _ A1.out _ | with_reducible exact vadd_is _ _ _ _ _ _ A2.out _ | with_reducible exact vadd_is _ _ _ _ _ _ A3.out _); clear hK K))
    refine low_nil ?_
    intro W6 hC
    have hb := hC.1
    clear k_a_0 k_a_1 k_b_0 k_b_1 k_p_0 k_p_1 k_m_0 k_m_1
    replace B_a := B_a.below hb
    replace B_b := B_b.below hb
    replace B_p := B_p.below hb
    replace B_m := B_m.below hb
    obtain ⟨hB', hS'⟩ := below_c (w := w) hb hB
    clear hC hb hB hS
    have hB := hB'; have hS := hS'; clear hB' hS'
    go_wp2_with fail
    have k_a_0 := cell_regrown (B_a.cell (v := .int .i64 ax) 0 rfl)
    have k_a_1 := cell_regrown (B_a.cell (v := .int .i64 ay) 1 rfl)
    have k_b_0 := cell_regrown (B_b.cell (v := .int .i64 bx) 0 rfl)
    have k_b_1 := cell_regrown (B_b.cell (v := .int .i64 cy) 1 rfl)
    have k_p_0 := cell_regrown (B_p.cell (v := .int .i64 px) 0 rfl)
    have k_p_1 := cell_regrown (B_p.cell (v := .int .i64 py) 1 rfl)
    have k_m_0 := cell_regrown (B_m.cell (v := .int .i64 mx) 0 rfl)
    have k_m_1 := cell_regrown (B_m.cell (v := .int .i64 my) 1 rfl)
    refine wp_region_low 35 (by kernel_rfl) (by kernel_rfl) ?_
    simp only [List.take, List.drop]
    iterate 35 (refine low_step (fun K hK => ?_); go_simp; first | (refine hK _ ?_; clear hK K) | (apply Exists.intro; refine ⟨fun p => ?_, hK _ ?_⟩; (first | with_reducible exact vside_is _ _ _ _ _ _ _ S6.out _ | with_reducible exact vside_is _ _ _ _ _ _ _ S7.out _ | with_reducible exact vside_is _ _ _ _ _ _ _ S8.out _ | with_reducible exact at_any _ _ _); clear hK K))
    refine low_nil ?_
    intro W7 hC
    have hb := hC.1
    clear k_a_0 k_a_1 k_b_0 k_b_1 k_p_0 k_p_1 k_m_0 k_m_1
    replace B_a := B_a.below hb
    replace B_b := B_b.below hb
    replace B_p := B_p.below hb
    replace B_m := B_m.below hb
    obtain ⟨hB', hS'⟩ := below_c (w := w) hb hB
    clear hC hb hB hS
    have hB := hB'; have hS := hS'; clear hB' hS'
    go_wp2_with fail
    have k_a_0 := cell_regrown (B_a.cell (v := .int .i64 ax) 0 rfl)
    have k_a_1 := cell_regrown (B_a.cell (v := .int .i64 ay) 1 rfl)
    have k_b_0 := cell_regrown (B_b.cell (v := .int .i64 bx) 0 rfl)
    have k_b_1 := cell_regrown (B_b.cell (v := .int .i64 cy) 1 rfl)
    have k_p_0 := cell_regrown (B_p.cell (v := .int .i64 px) 0 rfl)
    have k_p_1 := cell_regrown (B_p.cell (v := .int .i64 py) 1 rfl)
    have k_m_0 := cell_regrown (B_m.cell (v := .int .i64 mx) 0 rfl)
    have k_m_1 := cell_regrown (B_m.cell (v := .int .i64 my) 1 rfl)
    refine wp_region_low 7 (by kernel_rfl) (by kernel_rfl) ?_
    simp only [List.take, List.drop]
    iterate 7 (refine low_step (fun K hK => ?_); go_simp; first | (refine hK _ ?_; clear hK K) | (apply Exists.intro; refine ⟨fun p => ?_, hK _ ?_⟩; (first | with_reducible exact vsub_is _ _ _ _ _ _ U1.out _ | with_reducible exact vsub_is _ _ _ _ _ _ U2.out _ | with_reducible exact vcross_is _ _ _ _ _ C1.out _); clear hK K))
    refine low_nil ?_
    intro W8 hC
    have hb := hC.1
    clear k_a_0 k_a_1 k_b_0 k_b_1 k_p_0 k_p_1 k_m_0 k_m_1
    replace B_a := B_a.below hb
    replace B_b := B_b.below hb
    replace B_p := B_p.below hb
    replace B_m := B_m.below hb
    obtain ⟨hB', hS'⟩ := below_c (w := w) hb hB
    clear hC hb hB hS
    have hB := hB'; have hS := hS'; clear hB' hS'
    have c_a_0 := B_a.cell (v := .int .i64 ax) 0 rfl
    have c_a_1 := B_a.cell (v := .int .i64 ay) 1 rfl
    have lt_a := B_a.lt
    have c_b_0 := B_b.cell (v := .int .i64 bx) 0 rfl
    have c_b_1 := B_b.cell (v := .int .i64 cy) 1 rfl
    have lt_b := B_b.lt
    clear wr0 wr1 wr2 wr3
    obtain ⟨hdx, hdy⟩ := HX.out
    rcases HC.out with ⟨z1, z2⟩ | ⟨z1, z2⟩ | ⟨z1, z2⟩
    all_goals
      go_wp2_with fail
      with_reducible refine (at_any _ _ _).mono ?_
      rintro e W9 ⟨rfl, hb⟩
      clear c_a_0 c_a_1 lt_a c_b_0 c_b_1 lt_b
      have B'_a : Bk W9 (W4.heap.size) #[.int .i64 ax, .int .i64 ay] 55 := Bk.below (by (repeat (first | with_reducible assumption | ((with_reducible refine Bk.at_ ?_); first | rfl | (simp; done)) | with_reducible apply Bk.alloc))) hb
      have B'_b : Bk W9 (W4.heap.size + 1) #[.int .i64 bx, .int .i64 cy] 55 := Bk.below (by (repeat (first | with_reducible assumption | ((with_reducible refine Bk.at_ ?_); first | rfl | (simp; done)) | with_reducible apply Bk.alloc))) hb
      have B'_p : Bk W9 (W4.heap.size + 1 + 1) #[.int .i64 px, .int .i64 py] 55 := Bk.below (by (repeat (first | with_reducible assumption | ((with_reducible refine Bk.at_ ?_); first | rfl | (simp; done)) | with_reducible apply Bk.alloc))) hb
      have B'_m : Bk W9 (W4.heap.size + 1 + 1 + 1) #[.int .i64 mx, .int .i64 my] 55 := Bk.below (by (repeat (first | with_reducible assumption | ((with_reducible refine Bk.at_ ?_); first | rfl | (simp; done)) | with_reducible apply Bk.alloc))) hb
      obtain ⟨hB', hS'⟩ := below_c (w := w) hb (by (first | (go_grown; done) | (repeat (first | assumption | (refine Below.setCell ?_ (by first | assumption | (simp; omega) | omega) _) | (refine Below.alloc ?_ (by assumption) _)))))
      clear hb hB hS B_a B_b B_p B_m
      have B_a := B'_a
      have B_b := B'_b
      have B_p := B'_p
      have B_m := B'_m
      have hB := hB'; have hS := hS'; clear hB' hS' B'_a B'_b B'_p B'_m
      have wr0 : IntKind.i64.wrap dx = dx := by rw [IntKind.wrap_i64]; omega
      have wr1 : IntKind.i64.wrap dy = dy := by rw [IntKind.wrap_i64]; omega
      have wr2 : IntKind.i64.wrap (ax + kx - dy) = (ax + kx - dy) := by rw [IntKind.wrap_i64]; omega
      have wr3 : IntKind.i64.wrap (ay + ky + dx) = (ay + ky + dx) := by rw [IntKind.wrap_i64]; omega
      clear z1 z2
      go_wp2_with fail
      refine wp_name (fun W => Below w.heap.size w W ∧ Bk W (W4.heap.size) #[.int .i64 ax, .int .i64 ay] 55 ∧ Bk W (W4.heap.size + 1) #[.int .i64 bx, .int .i64 cy] 55 ∧ Bk W (W4.heap.size + 1 + 1) #[.int .i64 px, .int .i64 py] 55 ∧ Bk W (W4.heap.size + 1 + 1 + 1) #[.int .i64 mx, .int .i64 my] 55 ∧ Bk W (W9.heap.size) #[.int .i64 (ax + kx), .int .i64 (ay + ky)] 55) ⟨by (first | (go_grown; done) | (repeat (first | assumption | (refine Below.setCell ?_ (by first | assumption | (simp; omega) | omega) _) | (refine Below.alloc ?_ (by assumption) _)))), by (repeat (first | with_reducible assumption | ((with_reducible refine Bk.at_ ?_); first | rfl | (simp; done)) | with_reducible apply Bk.alloc)), by (repeat (first | with_reducible assumption | ((with_reducible refine Bk.at_ ?_); first | rfl | (simp; done)) | with_reducible apply Bk.alloc)), by (repeat (first | with_reducible assumption | ((with_reducible refine Bk.at_ ?_); first | rfl | (simp; done)) | with_reducible apply Bk.alloc)), by (repeat (first | with_reducible assumption | ((with_reducible refine Bk.at_ ?_); first | rfl | (simp; done)) | with_reducible apply Bk.alloc)), by (repeat (first | with_reducible assumption | ((with_reducible refine Bk.at_ ?_); first | rfl | (simp; done)) | with_reducible apply Bk.alloc))⟩ ?_
      clear hB hS B_a B_b B_p B_m
      rintro W10 ⟨hB, B_a, B_b, B_p, B_m, B_q⟩
      have hS := hB.size
      have k_a_0 := cell_regrown (B_a.cell (v := .int .i64 ax) 0 rfl)
      have k_a_1 := cell_regrown (B_a.cell (v := .int .i64 ay) 1 rfl)
      have k_b_0 := cell_regrown (B_b.cell (v := .int .i64 bx) 0 rfl)
      have k_b_1 := cell_regrown (B_b.cell (v := .int .i64 cy) 1 rfl)
      have k_p_0 := cell_regrown (B_p.cell (v := .int .i64 px) 0 rfl)
      have k_p_1 := cell_regrown (B_p.cell (v := .int .i64 py) 1 rfl)
      have k_m_0 := cell_regrown (B_m.cell (v := .int .i64 mx) 0 rfl)
      have k_m_1 := cell_regrown (B_m.cell (v := .int .i64 my) 1 rfl)
      have k_q_0 := cell_regrown (B_q.cell (v := .int .i64 (ax + kx)) 0 rfl)
      have k_q_1 := cell_regrown (B_q.cell (v := .int .i64 (ay + ky)) 1 rfl)
      refine wp_region_low 36 (by kernel_rfl) (by kernel_rfl) ?_
      simp only [List.take, List.drop]
      iterate 36 (refine low_step (fun K hK => ?_); go_simp; first | (refine hK _ ?_; clear hK K) | (apply Exists.intro; refine ⟨fun p => ?_, hK _ ?_⟩; (first | with_reducible exact vside_is _ _ _ _ _ _ _ S9.out _ | with_reducible exact at_any _ _ _ | with_reducible exact awake02 _); clear hK K))
      refine low_nil ?_
      intro W11 hC
      have hb := hC.1
      clear k_a_0 k_a_1 k_b_0 k_b_1 k_p_0 k_p_1 k_m_0 k_m_1 k_q_0 k_q_1
      replace B_a := B_a.below hb
      replace B_b := B_b.below hb
      replace B_p := B_p.below hb
      replace B_m := B_m.below hb
      replace B_q := B_q.below hb
      obtain ⟨hB', hS'⟩ := below_c (w := w) hb hB
      clear hC hb hB hS
      have hB := hB'; have hS := hS'; clear hB' hS'
      go_wp2
      go_returns
      exact ⟨rfl, by (first | (go_grown; done) | (repeat (first | assumption | (refine Below.setCell ?_ (by first | assumption | (simp; omega) | omega) _) | (refine Below.alloc ?_ (by assumption) _))))⟩
  · skip
    have v8 := v8 (by omega)
    have S10 := Lib.hid (show (I64 ax ∧ I64 ay ∧ I64 bx ∧ I64 cy ∧ I64 (ax + kx - dy) ∧ I64 (ay + ky + dx)) ∧ vside ax ay bx cy (ax + kx - dy) (ay + ky + dx) = 1 from ⟨⟨i64_small (by omega) (by omega), i64_small (by omega) (by omega), i64_small (by omega) (by omega), i64_small (by omega) (by omega), i64_small (by omega) (by omega), i64_small (by omega) (by omega)⟩, v8⟩)
    have eqV := eqlv_V ax ay bx cy false (by rw [decide_eq_false_iff_not]; exact hE)
    clear hE v8
    have HX := Lib.hid (And.intro hdx hdy)
    clear hdx hdy
    have wr0 : IntKind.i64.wrap (-ax) = (-ax) := by rw [IntKind.wrap_i64]; omega
    have wr1 : IntKind.i64.wrap (-bx) = (-bx) := by rw [IntKind.wrap_i64]; omega
    have wr2 : IntKind.i64.wrap (-px) = (-px) := by rw [IntKind.wrap_i64]; omega
    have wr3 : IntKind.i64.wrap (-s) = (-s) := by rw [IntKind.wrap_i64]; omega
    go_enter Try.func14, Try.ntmps14
    go_wp2_with fail
    with_reducible refine (world_is _ _ _ _ HW0.out _).mono ?_
    rintro e W1 ⟨rfl, hb⟩
    obtain ⟨hB', hS'⟩ := below_c (w := w) hb (by (first | (go_grown; done) | (repeat (first | assumption | (refine Below.setCell ?_ (by first | assumption | (simp; omega) | omega) _) | (refine Below.alloc ?_ (by assumption) _)))))
    clear hb
    have hB := hB'; have hS := hS'; clear hB' hS' 
    go_wp2_with fail
    with_reducible refine (world_is _ _ _ _ HW2.out _).mono ?_
    rintro e W2 ⟨rfl, hb⟩
    obtain ⟨hB', hS'⟩ := below_c (w := w) hb (by (first | (go_grown; done) | (repeat (first | assumption | (refine Below.setCell ?_ (by first | assumption | (simp; omega) | omega) _) | (refine Below.alloc ?_ (by assumption) _)))))
    clear hb hB hS
    have hB := hB'; have hS := hS'; clear hB' hS' 
    go_wp2_with fail
    with_reducible refine (world_is _ _ _ _ HW4.out _).mono ?_
    rintro e W3 ⟨rfl, hb⟩
    obtain ⟨hB', hS'⟩ := below_c (w := w) hb (by (first | (go_grown; done) | (repeat (first | assumption | (refine Below.setCell ?_ (by first | assumption | (simp; omega) | omega) _) | (refine Below.alloc ?_ (by assumption) _)))))
    clear hb hB hS
    have hB := hB'; have hS := hS'; clear hB' hS' 
    go_wp2_with fail
    with_reducible refine (world_is _ _ _ _ HW6.out _).mono ?_
    rintro e W4 ⟨rfl, hb⟩
    obtain ⟨hB', hS'⟩ := below_c (w := w) hb (by (first | (go_grown; done) | (repeat (first | assumption | (refine Below.setCell ?_ (by first | assumption | (simp; omega) | omega) _) | (refine Below.alloc ?_ (by assumption) _)))))
    clear hb hB hS
    have hB := hB'; have hS := hS'; clear hB' hS' 
    go_wp2_with fail
    with_reducible refine (vside_is _ _ _ _ _ _ _ S0.out _).mono ?_
    rintro e W5 ⟨rfl, hb⟩
    have B'_a : Bk W5 (W4.heap.size) #[.int .i64 ax, .int .i64 ay] 55 := Bk.below (by (repeat (first | with_reducible assumption | ((with_reducible refine Bk.at_ ?_); first | rfl | (simp; done)) | with_reducible apply Bk.alloc))) hb
    have B'_b : Bk W5 (W4.heap.size + 1) #[.int .i64 bx, .int .i64 cy] 55 := Bk.below (by (repeat (first | with_reducible assumption | ((with_reducible refine Bk.at_ ?_); first | rfl | (simp; done)) | with_reducible apply Bk.alloc))) hb
    have B'_p : Bk W5 (W4.heap.size + 1 + 1) #[.int .i64 px, .int .i64 py] 55 := Bk.below (by (repeat (first | with_reducible assumption | ((with_reducible refine Bk.at_ ?_); first | rfl | (simp; done)) | with_reducible apply Bk.alloc))) hb
    have B'_m : Bk W5 (W4.heap.size + 1 + 1 + 1) #[.int .i64 mx, .int .i64 my] 55 := Bk.below (by (repeat (first | with_reducible assumption | ((with_reducible refine Bk.at_ ?_); first | rfl | (simp; done)) | with_reducible apply Bk.alloc))) hb
    obtain ⟨hB', hS'⟩ := below_c (w := w) hb (by (first | (go_grown; done) | (repeat (first | assumption | (refine Below.setCell ?_ (by first | assumption | (simp; omega) | omega) _) | (refine Below.alloc ?_ (by assumption) _)))))
    clear hb hB hS
    have B_a := B'_a
    have B_b := B'_b
    have B_p := B'_p
    have B_m := B'_m
    have hB := hB'; have hS := hS'; clear hB' hS' B'_a B'_b B'_p B'_m
    go_wp2_with fail
    have k_a_0 := cell_regrown (B_a.cell (v := .int .i64 ax) 0 rfl)
    have k_a_1 := cell_regrown (B_a.cell (v := .int .i64 ay) 1 rfl)
    have k_b_0 := cell_regrown (B_b.cell (v := .int .i64 bx) 0 rfl)
    have k_b_1 := cell_regrown (B_b.cell (v := .int .i64 cy) 1 rfl)
    have k_p_0 := cell_regrown (B_p.cell (v := .int .i64 px) 0 rfl)
    have k_p_1 := cell_regrown (B_p.cell (v := .int .i64 py) 1 rfl)
    have k_m_0 := cell_regrown (B_m.cell (v := .int .i64 mx) 0 rfl)
    have k_m_1 := cell_regrown (B_m.cell (v := .int .i64 my) 1 rfl)
    refine wp_region_low 53 (by kernel_rfl) (by kernel_rfl) ?_
    simp only [List.take, List.drop]
    iterate 53 (refine low_step (fun K hK => ?_); go_simp; first | (refine hK _ ?_; clear hK K) | (apply Exists.intro; refine ⟨fun p => ?_, hK _ ?_⟩; (first | with_reducible exact vside_is _ _ _ _ _ _ _ S1.out _ | with_reducible exact vside_is _ _ _ _ _ _ _ S2.out _ | with_reducible exact vside_is _ _ _ _ _ _ _ S3.out _ | with_reducible exact vside_is _ _ _ _ _ _ _ S4.out _ | with_reducible exact vside_is _ _ _ _ _ _ _ S5.out _ | with_reducible exact vadd_is _ _ _ _ _ _ A1.out _ | with_reducible exact vadd_is _ _ _ _ _ _ A2.out _ | with_reducible exact vadd_is _ _ _ _ _ _ A3.out _); clear hK K))
    refine low_nil ?_
    intro W6 hC
    have hb := hC.1
    clear k_a_0 k_a_1 k_b_0 k_b_1 k_p_0 k_p_1 k_m_0 k_m_1
    replace B_a := B_a.below hb
    replace B_b := B_b.below hb
    replace B_p := B_p.below hb
    replace B_m := B_m.below hb
    obtain ⟨hB', hS'⟩ := below_c (w := w) hb hB
    clear hC hb hB hS
    have hB := hB'; have hS := hS'; clear hB' hS'
    go_wp2_with fail
    have k_a_0 := cell_regrown (B_a.cell (v := .int .i64 ax) 0 rfl)
    have k_a_1 := cell_regrown (B_a.cell (v := .int .i64 ay) 1 rfl)
    have k_b_0 := cell_regrown (B_b.cell (v := .int .i64 bx) 0 rfl)
    have k_b_1 := cell_regrown (B_b.cell (v := .int .i64 cy) 1 rfl)
    have k_p_0 := cell_regrown (B_p.cell (v := .int .i64 px) 0 rfl)
    have k_p_1 := cell_regrown (B_p.cell (v := .int .i64 py) 1 rfl)
    have k_m_0 := cell_regrown (B_m.cell (v := .int .i64 mx) 0 rfl)
    have k_m_1 := cell_regrown (B_m.cell (v := .int .i64 my) 1 rfl)
    refine wp_region_low 35 (by kernel_rfl) (by kernel_rfl) ?_
    simp only [List.take, List.drop]
    iterate 35 (refine low_step (fun K hK => ?_); go_simp; first | (refine hK _ ?_; clear hK K) | (apply Exists.intro; refine ⟨fun p => ?_, hK _ ?_⟩; (first | with_reducible exact vside_is _ _ _ _ _ _ _ S6.out _ | with_reducible exact vside_is _ _ _ _ _ _ _ S7.out _ | with_reducible exact vside_is _ _ _ _ _ _ _ S8.out _ | with_reducible exact at_any _ _ _); clear hK K))
    refine low_nil ?_
    intro W7 hC
    have hb := hC.1
    clear k_a_0 k_a_1 k_b_0 k_b_1 k_p_0 k_p_1 k_m_0 k_m_1
    replace B_a := B_a.below hb
    replace B_b := B_b.below hb
    replace B_p := B_p.below hb
    replace B_m := B_m.below hb
    obtain ⟨hB', hS'⟩ := below_c (w := w) hb hB
    clear hC hb hB hS
    have hB := hB'; have hS := hS'; clear hB' hS'
    go_wp2_with fail
    have k_a_0 := cell_regrown (B_a.cell (v := .int .i64 ax) 0 rfl)
    have k_a_1 := cell_regrown (B_a.cell (v := .int .i64 ay) 1 rfl)
    have k_b_0 := cell_regrown (B_b.cell (v := .int .i64 bx) 0 rfl)
    have k_b_1 := cell_regrown (B_b.cell (v := .int .i64 cy) 1 rfl)
    have k_p_0 := cell_regrown (B_p.cell (v := .int .i64 px) 0 rfl)
    have k_p_1 := cell_regrown (B_p.cell (v := .int .i64 py) 1 rfl)
    have k_m_0 := cell_regrown (B_m.cell (v := .int .i64 mx) 0 rfl)
    have k_m_1 := cell_regrown (B_m.cell (v := .int .i64 my) 1 rfl)
    refine wp_region_low 7 (by kernel_rfl) (by kernel_rfl) ?_
    simp only [List.take, List.drop]
    iterate 7 (refine low_step (fun K hK => ?_); go_simp; first | (refine hK _ ?_; clear hK K) | (apply Exists.intro; refine ⟨fun p => ?_, hK _ ?_⟩; (first | with_reducible exact vsub_is _ _ _ _ _ _ U1.out _ | with_reducible exact vsub_is _ _ _ _ _ _ U2.out _ | with_reducible exact vcross_is _ _ _ _ _ C1.out _); clear hK K))
    refine low_nil ?_
    intro W8 hC
    have hb := hC.1
    clear k_a_0 k_a_1 k_b_0 k_b_1 k_p_0 k_p_1 k_m_0 k_m_1
    replace B_a := B_a.below hb
    replace B_b := B_b.below hb
    replace B_p := B_p.below hb
    replace B_m := B_m.below hb
    obtain ⟨hB', hS'⟩ := below_c (w := w) hb hB
    clear hC hb hB hS
    have hB := hB'; have hS := hS'; clear hB' hS'
    have c_a_0 := B_a.cell (v := .int .i64 ax) 0 rfl
    have c_a_1 := B_a.cell (v := .int .i64 ay) 1 rfl
    have lt_a := B_a.lt
    have c_b_0 := B_b.cell (v := .int .i64 bx) 0 rfl
    have c_b_1 := B_b.cell (v := .int .i64 cy) 1 rfl
    have lt_b := B_b.lt
    clear wr0 wr1 wr2 wr3
    obtain ⟨hdx, hdy⟩ := HX.out
    rcases HC.out with ⟨z1, z2⟩ | ⟨z1, z2⟩ | ⟨z1, z2⟩
    all_goals
      go_wp2_with fail
      with_reducible refine (at_any _ _ _).mono ?_
      rintro e W9 ⟨rfl, hb⟩
      clear c_a_0 c_a_1 lt_a c_b_0 c_b_1 lt_b
      have B'_a : Bk W9 (W4.heap.size) #[.int .i64 ax, .int .i64 ay] 55 := Bk.below (by (repeat (first | with_reducible assumption | ((with_reducible refine Bk.at_ ?_); first | rfl | (simp; done)) | with_reducible apply Bk.alloc))) hb
      have B'_b : Bk W9 (W4.heap.size + 1) #[.int .i64 bx, .int .i64 cy] 55 := Bk.below (by (repeat (first | with_reducible assumption | ((with_reducible refine Bk.at_ ?_); first | rfl | (simp; done)) | with_reducible apply Bk.alloc))) hb
      have B'_p : Bk W9 (W4.heap.size + 1 + 1) #[.int .i64 px, .int .i64 py] 55 := Bk.below (by (repeat (first | with_reducible assumption | ((with_reducible refine Bk.at_ ?_); first | rfl | (simp; done)) | with_reducible apply Bk.alloc))) hb
      have B'_m : Bk W9 (W4.heap.size + 1 + 1 + 1) #[.int .i64 mx, .int .i64 my] 55 := Bk.below (by (repeat (first | with_reducible assumption | ((with_reducible refine Bk.at_ ?_); first | rfl | (simp; done)) | with_reducible apply Bk.alloc))) hb
      obtain ⟨hB', hS'⟩ := below_c (w := w) hb (by (first | (go_grown; done) | (repeat (first | assumption | (refine Below.setCell ?_ (by first | assumption | (simp; omega) | omega) _) | (refine Below.alloc ?_ (by assumption) _)))))
      clear hb hB hS B_a B_b B_p B_m
      have B_a := B'_a
      have B_b := B'_b
      have B_p := B'_p
      have B_m := B'_m
      have hB := hB'; have hS := hS'; clear hB' hS' B'_a B'_b B'_p B'_m
      have wr0 : IntKind.i64.wrap dx = dx := by rw [IntKind.wrap_i64]; omega
      have wr1 : IntKind.i64.wrap dy = dy := by rw [IntKind.wrap_i64]; omega
      have wr2 : IntKind.i64.wrap (ax + kx - dy) = (ax + kx - dy) := by rw [IntKind.wrap_i64]; omega
      have wr3 : IntKind.i64.wrap (ay + ky + dx) = (ay + ky + dx) := by rw [IntKind.wrap_i64]; omega
      clear z1 z2
      go_wp2_with fail
      refine wp_name (fun W => Below w.heap.size w W ∧ Bk W (W4.heap.size) #[.int .i64 ax, .int .i64 ay] 55 ∧ Bk W (W4.heap.size + 1) #[.int .i64 bx, .int .i64 cy] 55 ∧ Bk W (W4.heap.size + 1 + 1) #[.int .i64 px, .int .i64 py] 55 ∧ Bk W (W4.heap.size + 1 + 1 + 1) #[.int .i64 mx, .int .i64 my] 55 ∧ Bk W (W9.heap.size) #[.int .i64 (ax + kx), .int .i64 (ay + ky)] 55) ⟨by (first | (go_grown; done) | (repeat (first | assumption | (refine Below.setCell ?_ (by first | assumption | (simp; omega) | omega) _) | (refine Below.alloc ?_ (by assumption) _)))), by (repeat (first | with_reducible assumption | ((with_reducible refine Bk.at_ ?_); first | rfl | (simp; done)) | with_reducible apply Bk.alloc)), by (repeat (first | with_reducible assumption | ((with_reducible refine Bk.at_ ?_); first | rfl | (simp; done)) | with_reducible apply Bk.alloc)), by (repeat (first | with_reducible assumption | ((with_reducible refine Bk.at_ ?_); first | rfl | (simp; done)) | with_reducible apply Bk.alloc)), by (repeat (first | with_reducible assumption | ((with_reducible refine Bk.at_ ?_); first | rfl | (simp; done)) | with_reducible apply Bk.alloc)), by (repeat (first | with_reducible assumption | ((with_reducible refine Bk.at_ ?_); first | rfl | (simp; done)) | with_reducible apply Bk.alloc))⟩ ?_
      clear hB hS B_a B_b B_p B_m
      rintro W10 ⟨hB, B_a, B_b, B_p, B_m, B_q⟩
      have hS := hB.size
      have k_a_0 := cell_regrown (B_a.cell (v := .int .i64 ax) 0 rfl)
      have k_a_1 := cell_regrown (B_a.cell (v := .int .i64 ay) 1 rfl)
      have k_b_0 := cell_regrown (B_b.cell (v := .int .i64 bx) 0 rfl)
      have k_b_1 := cell_regrown (B_b.cell (v := .int .i64 cy) 1 rfl)
      have k_p_0 := cell_regrown (B_p.cell (v := .int .i64 px) 0 rfl)
      have k_p_1 := cell_regrown (B_p.cell (v := .int .i64 py) 1 rfl)
      have k_m_0 := cell_regrown (B_m.cell (v := .int .i64 mx) 0 rfl)
      have k_m_1 := cell_regrown (B_m.cell (v := .int .i64 my) 1 rfl)
      have k_q_0 := cell_regrown (B_q.cell (v := .int .i64 (ax + kx)) 0 rfl)
      have k_q_1 := cell_regrown (B_q.cell (v := .int .i64 (ay + ky)) 1 rfl)
      refine wp_region_low 36 (by kernel_rfl) (by kernel_rfl) ?_
      simp only [List.take, List.drop]
      iterate 36 (refine low_step (fun K hK => ?_); go_simp; first | (refine hK _ ?_; clear hK K) | (apply Exists.intro; refine ⟨fun p => ?_, hK _ ?_⟩; (first | with_reducible exact vside_is _ _ _ _ _ _ _ S9.out _ | with_reducible exact vside_is _ _ _ _ _ _ _ S10.out _ | with_reducible exact at_any _ _ _ | with_reducible exact awake02 _); clear hK K))
      refine low_nil ?_
      intro W11 hC
      have hb := hC.1
      clear k_a_0 k_a_1 k_b_0 k_b_1 k_p_0 k_p_1 k_m_0 k_m_1 k_q_0 k_q_1
      replace B_a := B_a.below hb
      replace B_b := B_b.below hb
      replace B_p := B_p.below hb
      replace B_m := B_m.below hb
      replace B_q := B_q.below hb
      obtain ⟨hB', hS'⟩ := below_c (w := w) hb hB
      clear hC hb hB hS
      have hB := hB'; have hS := hS'; clear hB' hS'
      go_wp2
      go_returns
      exact ⟨rfl, by (first | (go_grown; done) | (repeat (first | assumption | (refine Below.setCell ?_ (by first | assumption | (simp; omega) | omega) _) | (refine Below.alloc ?_ (by assumption) _))))⟩
end Go.Proofs.Ytolifgjkejhlhaa
