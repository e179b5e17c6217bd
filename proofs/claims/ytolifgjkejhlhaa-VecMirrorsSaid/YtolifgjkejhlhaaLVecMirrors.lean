/- VecMirrors: the walk: whatever the arguments are, it returns true and writes nothing that was there. -/
import Derived.Test.YtolifgjkejhlhaaVLaw
import Derived.OpenShut
import Derived.Test.YtolifgjkejhlhaaMinMax
import Derived.Test.YtolifgjkejhlhaaVMore
set_option linter.unusedVariables false
set_option linter.unusedSimpArgs false
namespace Go.Proofs.Ytolifgjkejhlhaa
open Go.RowKit

open Go Go.Sort
attribute [local go_sem] opLow opUpon

set_option maxRecDepth 100000 in
set_option maxHeartbeats 8000000 in
theorem walk_VecMirrors (a0 a1 a2 a3 a4 a5 a6 : Int) (w0 : (Lit.int .i32 a0).wf = true) (w1 : (Lit.int .i32 a1).wf = true) (w2 : (Lit.int .i32 a2).wf = true) (w3 : (Lit.int .i32 a3).wf = true) (w4 : (Lit.int .i32 a4).wf = true) (w5 : (Lit.int .i32 a5).wf = true) (w6 : (Lit.int .i64 a6).wf = true) (w : World) :
    Calls Try.prog 16 #[.int .i32 a0, .int .i32 a1, .int .i32 a2, .int .i32 a3, .int .i32 a4, .int .i32 a5, .int .i64 a6] w fun e w' => e = .returned (.bool true) ∧ Below w.heap.size w w' := by
  have w0 := bounds_i32 w0
  have w1 := bounds_i32 w1
  have w2 := bounds_i32 w2
  have w3 := bounds_i32 w3
  have w4 := bounds_i32 w4
  have w5 := bounds_i32 w5
  have w6 := bounds_i64 w6
  obtain ⟨ax, hax⟩ : ∃ ax, wco a0 = ax := ⟨_, rfl⟩
  have bax := wco_bd a0
  rw [hax] at bax
  obtain ⟨ay, hay⟩ : ∃ ay, wco a1 = ay := ⟨_, rfl⟩
  have bay := wco_bd a1
  rw [hay] at bay
  have HW0 := Lib.hid (show ((-2147483648 ≤ a0 ∧ a0 ≤ 2147483647) ∧ (-2147483648 ≤ a1 ∧ a1 ≤ 2147483647)) ∧ wco a0 = ax ∧ wco a1 = ay from ⟨⟨w0, w1⟩, hax, hay⟩)
  clear hax hay
  obtain ⟨bx, hbx⟩ : ∃ bx, wco a2 = bx := ⟨_, rfl⟩
  have bbx := wco_bd a2
  rw [hbx] at bbx
  obtain ⟨cy, hcy⟩ : ∃ cy, wco a3 = cy := ⟨_, rfl⟩
  have bcy := wco_bd a3
  rw [hcy] at bcy
  have HW2 := Lib.hid (show ((-2147483648 ≤ a2 ∧ a2 ≤ 2147483647) ∧ (-2147483648 ≤ a3 ∧ a3 ≤ 2147483647)) ∧ wco a2 = bx ∧ wco a3 = cy from ⟨⟨w2, w3⟩, hbx, hcy⟩)
  clear hbx hcy
  obtain ⟨mx, hmx⟩ : ∃ mx, wco a4 = mx := ⟨_, rfl⟩
  have bmx := wco_bd a4
  rw [hmx] at bmx
  obtain ⟨my, hmy⟩ : ∃ my, wco a5 = my := ⟨_, rfl⟩
  have bmy := wco_bd a5
  rw [hmy] at bmy
  have HW4 := Lib.hid (show ((-2147483648 ≤ a4 ∧ a4 ≤ 2147483647) ∧ (-2147483648 ≤ a5 ∧ a5 ≤ 2147483647)) ∧ wco a4 = mx ∧ wco a5 = my from ⟨⟨w4, w5⟩, hmx, hmy⟩)
  clear hmx hmy
  obtain ⟨dx, hdx⟩ : ∃ dx, bx - ax = dx := ⟨_, rfl⟩
  obtain ⟨dy, hdy⟩ : ∃ dy, cy - ay = dy := ⟨_, rfl⟩
  have hM : I64 a6 := w6
  have hv := vfar_bd dx dy
  have hx := wst_any dx (vfar dx dy) a6 hv.1
  have hy := wst_any dy (vfar dx dy) a6 hv.2.1
  obtain ⟨px, hpx⟩ : ∃ px, wst dx (vfar dx dy) a6 = px := ⟨_, rfl⟩
  obtain ⟨py, hpy⟩ : ∃ py, wst dy (vfar dx dy) a6 = py := ⟨_, rfl⟩
  rw [hpx] at hx
  rw [hpy] at hy
  have hpb : -2097152 ≤ px ∧ px ≤ 2097152 ∧ -2097152 ≤ py ∧ py ≤ 2097152 := by omega
  clear hx hy hv
  have e1 : vfar (-dx) (-dy) = vfar dx dy := by unfold vfar; omega
  have e2 : vfar dx (-dy) = vfar dx dy := by unfold vfar; omega
  have e3 : vfar dy dx = vfar dx dy := by unfold vfar; omega
  have z1 : bx + mx - (ax + mx) = dx := by omega
  have z2 : cy + my - (ay + my) = dy := by omega
  have T1 := Lib.hid (show (I64 ax ∧ I64 ay ∧ I64 bx ∧ I64 cy ∧ I64 a6) ∧ ax + wst (bx - ax) (vfar (bx - ax) (cy - ay)) a6 = ax + px ∧ ay + wst (cy - ay) (vfar (bx - ax) (cy - ay)) a6 = ay + py from ⟨⟨i64_small (by omega) (by omega), i64_small (by omega) (by omega), i64_small (by omega) (by omega), i64_small (by omega) (by omega), hM⟩, by rw [hdx, hdy, hpx], by rw [hdx, hdy, hpy]⟩)
  have S1 := Lib.hid (show (I64 (ax + px) ∧ I64 (ay + py) ∧ I64 ax ∧ I64 ay) ∧ sat ((ax + px) - ax) = px ∧ sat ((ay + py) - ay) = py from ⟨⟨i64_small (by omega) (by omega), i64_small (by omega) (by omega), i64_small (by omega) (by omega), i64_small (by omega) (by omega)⟩, (sat_in _ (by omega) (by omega)).trans (by omega), (sat_in _ (by omega) (by omega)).trans (by omega)⟩)
  have A1 := Lib.hid (show (I64 ax ∧ I64 ay ∧ I64 mx ∧ I64 my) ∧ sat (ax + mx) = ax + mx ∧ sat (ay + my) = ay + my from ⟨⟨i64_small (by omega) (by omega), i64_small (by omega) (by omega), i64_small (by omega) (by omega), i64_small (by omega) (by omega)⟩, (sat_in _ (by omega) (by omega)).trans (by omega), (sat_in _ (by omega) (by omega)).trans (by omega)⟩)
  have A2 := Lib.hid (show (I64 bx ∧ I64 cy ∧ I64 mx ∧ I64 my) ∧ sat (bx + mx) = bx + mx ∧ sat (cy + my) = cy + my from ⟨⟨i64_small (by omega) (by omega), i64_small (by omega) (by omega), i64_small (by omega) (by omega), i64_small (by omega) (by omega)⟩, (sat_in _ (by omega) (by omega)).trans (by omega), (sat_in _ (by omega) (by omega)).trans (by omega)⟩)
  have T2 := Lib.hid (show (I64 (ax + mx) ∧ I64 (ay + my) ∧ I64 (bx + mx) ∧ I64 (cy + my) ∧ I64 a6) ∧ (ax + mx) + wst ((bx + mx) - (ax + mx)) (vfar ((bx + mx) - (ax + mx)) ((cy + my) - (ay + my))) a6 = ax + mx + px ∧ (ay + my) + wst ((cy + my) - (ay + my)) (vfar ((bx + mx) - (ax + mx)) ((cy + my) - (ay + my))) a6 = ay + my + py from ⟨⟨i64_small (by omega) (by omega), i64_small (by omega) (by omega), i64_small (by omega) (by omega), i64_small (by omega) (by omega), hM⟩, by rw [z1, z2, hpx], by rw [z1, z2, hpy]⟩)
  have S2 := Lib.hid (show (I64 (ax + mx + px) ∧ I64 (ay + my + py) ∧ I64 (ax + mx) ∧ I64 (ay + my)) ∧ sat ((ax + mx + px) - (ax + mx)) = px ∧ sat ((ay + my + py) - (ay + my)) = py from ⟨⟨i64_small (by omega) (by omega), i64_small (by omega) (by omega), i64_small (by omega) (by omega), i64_small (by omega) (by omega)⟩, (sat_in _ (by omega) (by omega)).trans (by omega), (sat_in _ (by omega) (by omega)).trans (by omega)⟩)
  have S3 := Lib.hid (show (I64 bx ∧ I64 cy ∧ I64 ax ∧ I64 ay) ∧ sat (bx - ax) = dx ∧ sat (cy - ay) = dy from ⟨⟨i64_small (by omega) (by omega), i64_small (by omega) (by omega), i64_small (by omega) (by omega), i64_small (by omega) (by omega)⟩, (sat_in _ (by omega) (by omega)).trans (by omega), (sat_in _ (by omega) (by omega)).trans (by omega)⟩)
  have L1 := Lib.hid (show (I64 (-dx) ∧ I64 (-dy) ∧ I64 a6) ∧ wst (-dx) (vfar (-dx) (-dy)) a6 = -px ∧ wst (-dy) (vfar (-dx) (-dy)) a6 = -py from ⟨⟨i64_small (by omega) (by omega), i64_small (by omega) (by omega), hM⟩, by rw [e1, wst_neg, hpx], by rw [e1, wst_neg, hpy]⟩)
  have L2 := Lib.hid (show (I64 dx ∧ I64 (-dy) ∧ I64 a6) ∧ wst dx (vfar dx (-dy)) a6 = px ∧ wst (-dy) (vfar dx (-dy)) a6 = -py from ⟨⟨i64_small (by omega) (by omega), i64_small (by omega) (by omega), hM⟩, by rw [e2, hpx], by rw [e2, wst_neg, hpy]⟩)
  have L3 := Lib.hid (show (I64 dy ∧ I64 dx ∧ I64 a6) ∧ wst dy (vfar dy dx) a6 = py ∧ wst dx (vfar dy dx) a6 = px from ⟨⟨i64_small (by omega) (by omega), i64_small (by omega) (by omega), hM⟩, by rw [e3, hpy], by rw [e3, hpx]⟩)
  have L4 := Lib.hid (show (I64 dx ∧ I64 dy ∧ I64 a6) ∧ wst dx (vfar dx dy) a6 = px ∧ wst dy (vfar dx dy) a6 = py from ⟨⟨i64_small (by omega) (by omega), i64_small (by omega) (by omega), hM⟩, hpx, hpy⟩)
  have T3 := Lib.hid (show (I64 ax ∧ I64 ay ∧ I64 bx ∧ I64 cy ∧ I64 (min a6 0)) ∧ ax + wst (bx - ax) (vfar (bx - ax) (cy - ay)) (min a6 0) = ax ∧ ay + wst (cy - ay) (vfar (bx - ax) (cy - ay)) (min a6 0) = ay from ⟨⟨i64_small (by omega) (by omega), i64_small (by omega) (by omega), i64_small (by omega) (by omega), i64_small (by omega) (by omega), ⟨by have := hM.1; omega, by have := hM.2; omega⟩⟩, by unfold wst; rw [if_pos (by omega)]; omega, by unfold wst; rw [if_pos (by omega)]; omega⟩)
  have T4 := Lib.hid (show (I64 ax ∧ I64 ay ∧ I64 ax ∧ I64 ay ∧ I64 a6) ∧ ax + wst (ax - ax) (vfar (ax - ax) (ay - ay)) a6 = ax ∧ ay + wst (ay - ay) (vfar (ax - ax) (ay - ay)) a6 = ay from ⟨⟨i64_small (by omega) (by omega), i64_small (by omega) (by omega), i64_small (by omega) (by omega), i64_small (by omega) (by omega), hM⟩, by rw [Int.sub_self, wst_zero]; omega, by rw [Int.sub_self, wst_zero]; omega⟩)
  have hdb : -2097152 ≤ dx ∧ dx ≤ 2097152 ∧ -2097152 ≤ dy ∧ dy ≤ 2097152 := by omega
  clear hdx hdy hpx hpy e1 e2 e3 z1 z2 hM w0 w1 w2 w3 w4 w5 w6 bax bay bbx bcy bmx bmy
  obtain ⟨d1, d2, d3, d4⟩ := hdb
  obtain ⟨p1, p2, p3, p4⟩ := hpb
  have wr0 : IntKind.i64.wrap (-dx) = (-dx) := by rw [IntKind.wrap_i64]; omega
  have wr1 : IntKind.i64.wrap (-dy) = (-dy) := by rw [IntKind.wrap_i64]; omega
  have wr2 : IntKind.i64.wrap (-px) = (-px) := by rw [IntKind.wrap_i64]; omega
  have wr3 : IntKind.i64.wrap (-py) = (-py) := by rw [IntKind.wrap_i64]; omega
  go_enter Try.func16, Try.ntmps16
  go_wp2_with fail
  with_reducible refine (world_is _ _ _ _ HW0.out _).mono ?_
  rintro e W1 ⟨rfl, hb⟩
  obtain ⟨hB', hS'⟩ := below_c (w := w) hb (by (first | (go_grown; done) | (repeat (first | assumption | (refine Below.setCell ?_ (by first | assumption | (simp; omega) | omega) _) | (refine Below.alloc ?_ (by assumption) _)))))
  clear hb
  have hB := hB'; have hS := hS'; clear hB' hS' 
  go_wp2_with fail
  with_reducible refine (world_is _ _ _ _ HW2.out _).mono ?_
  rintro e W2 ⟨rfl, hb⟩
  obtain ⟨hB', hS'⟩ := below_c (w := w) hb (by (first | (go_grown; done) | (repeat (first | assumption | (refine Below.setCell ?_ (by first | assumption | (simp; omega) | omega) _) | (refine Below.alloc ?_ (by assumption) _)))))
  clear hb hB hS
  have hB := hB'; have hS := hS'; clear hB' hS' 
  go_wp2_with fail
  with_reducible refine (world_is _ _ _ _ HW4.out _).mono ?_
  rintro e W3 ⟨rfl, hb⟩
  obtain ⟨hB', hS'⟩ := below_c (w := w) hb (by (first | (go_grown; done) | (repeat (first | assumption | (refine Below.setCell ?_ (by first | assumption | (simp; omega) | omega) _) | (refine Below.alloc ?_ (by assumption) _)))))
  clear hb hB hS
  have hB := hB'; have hS := hS'; clear hB' hS' 
  go_wp2_with fail
  refine wp_name (fun W => Below w.heap.size w W ∧ Bk W (W3.heap.size) #[.int .i64 ax, .int .i64 ay] 55 ∧ Bk W (W3.heap.size + 1) #[.int .i64 bx, .int .i64 cy] 55 ∧ Bk W (W3.heap.size + 1 + 1) #[.int .i64 mx, .int .i64 my] 55) ⟨by (first | (go_grown; done) | (repeat (first | assumption | (refine Below.setCell ?_ (by first | assumption | (simp; omega) | omega) _) | (refine Below.alloc ?_ (by assumption) _)))), by (repeat (first | with_reducible assumption | ((with_reducible refine Bk.at_ ?_); first | rfl | (simp; done)) | with_reducible apply Bk.alloc)), by (repeat (first | with_reducible assumption | ((with_reducible refine Bk.at_ ?_); first | rfl | (simp; done)) | with_reducible apply Bk.alloc)), by (repeat (first | with_reducible assumption | ((with_reducible refine Bk.at_ ?_); first | rfl | (simp; done)) | with_reducible apply Bk.alloc))⟩ ?_
  clear hB hS 
  rintro W4 ⟨hB, B_a, B_b, B_m⟩
  have hS := hB.size
  have k_a_0 := cell_regrown (B_a.cell (v := .int .i64 ax) 0 rfl)
  have k_a_1 := cell_regrown (B_a.cell (v := .int .i64 ay) 1 rfl)
  have k_b_0 := cell_regrown (B_b.cell (v := .int .i64 bx) 0 rfl)
  have k_b_1 := cell_regrown (B_b.cell (v := .int .i64 cy) 1 rfl)
  have k_m_0 := cell_regrown (B_m.cell (v := .int .i64 mx) 0 rfl)
  have k_m_1 := cell_regrown (B_m.cell (v := .int .i64 my) 1 rfl)
  refine wp_region_low 7 (by kernel_rfl) (by kernel_rfl) ?_
  simp only [List.take, List.drop]
  iterate 6 (refine low_step (fun K hK => ?_); go_simp; first | (refine hK _ ?_; clear hK K) | (apply Exists.intro; refine ⟨fun p => ?_, hK _ ?_⟩; (first | with_reducible exact vtoward_is _ _ _ _ _ _ _ T1.out _ | with_reducible exact vsub_is _ _ _ _ _ _ S1.out _); clear hK K))
  refine low_new (.cells #[.int .i64 0, .int .i64 0] 55) (by rfl) (fun w => by go_simp) ?_
  intro g_w
  refine low_nil ?_
  intro W5 hC
  have hb := hC.1
  clear k_a_0 k_a_1 k_b_0 k_b_1 k_m_0 k_m_1
  have lu_a := B_a.lt
  have lu_b := B_b.lt
  have lu_m := B_m.lt
  replace B_a := B_a.below hb
  replace B_b := B_b.below hb
  replace B_m := B_m.below hb
  obtain ⟨B_w, z_w⟩ := cls_bk (i := 6) hC rfl
  obtain ⟨hB', hS'⟩ := below_c (w := w) hb hB
  have o_w : w.heap.size ≤ g_w := Nat.le_trans hS z_w
  have n_a_w : W3.heap.size ≠ g_w := by omega
  have n_b_w : W3.heap.size + 1 ≠ g_w := by omega
  have n_m_w : W3.heap.size + 1 + 1 ≠ g_w := by omega
  clear lu_a lu_b lu_m
  clear hC hb hB hS
  have hB := hB'; have hS := hS'; clear hB' hS'
  have c_w_0 := B_w.cell (v := .int .i64 0) 0 rfl
  have c_w_1 := B_w.cell (v := .int .i64 0) 1 rfl
  have lt_w := B_w.lt
  have f_w_0 := B_w.free 0
  have f_w_1 := B_w.free 1
  go_wp2_with fail
  refine wp_name (fun W => Below w.heap.size w W ∧ Bk W (W3.heap.size) #[.int .i64 ax, .int .i64 ay] 55 ∧ Bk W (W3.heap.size + 1) #[.int .i64 bx, .int .i64 cy] 55 ∧ Bk W (W3.heap.size + 1 + 1) #[.int .i64 mx, .int .i64 my] 55 ∧ Bk W (g_w) #[.int .i64 px, .int .i64 py] 55) ⟨(Below.setCell (p := ⟨g_w, 1, none⟩) (Below.setCell (p := ⟨g_w, 0, none⟩) hB o_w _) o_w _), (Bk.far (Bk.far B_a (by first | assumption | (simp; done) | (exact Ne.symm (by assumption)) | (simp; omega)) _) (by first | assumption | (simp; done) | (exact Ne.symm (by assumption)) | (simp; omega)) _), (Bk.far (Bk.far B_b (by first | assumption | (simp; done) | (exact Ne.symm (by assumption)) | (simp; omega)) _) (by first | assumption | (simp; done) | (exact Ne.symm (by assumption)) | (simp; omega)) _), (Bk.far (Bk.far B_m (by first | assumption | (simp; done) | (exact Ne.symm (by assumption)) | (simp; omega)) _) (by first | assumption | (simp; done) | (exact Ne.symm (by assumption)) | (simp; omega)) _), (Bk.put (Bk.put B_w 0 _) 1 _)⟩ ?_
  clear c_w_0 c_w_1 lt_w f_w_0 f_w_1
  clear hB hS B_a B_b B_m B_w
  rintro W6 ⟨hB, B_a, B_b, B_m, B_w⟩
  have hS := hB.size
  have k_a_0 := cell_regrown (B_a.cell (v := .int .i64 ax) 0 rfl)
  have k_a_1 := cell_regrown (B_a.cell (v := .int .i64 ay) 1 rfl)
  have k_b_0 := cell_regrown (B_b.cell (v := .int .i64 bx) 0 rfl)
  have k_b_1 := cell_regrown (B_b.cell (v := .int .i64 cy) 1 rfl)
  have k_m_0 := cell_regrown (B_m.cell (v := .int .i64 mx) 0 rfl)
  have k_m_1 := cell_regrown (B_m.cell (v := .int .i64 my) 1 rfl)
  have k_w_0 := cell_regrown (B_w.cell (v := .int .i64 px) 0 rfl)
  have k_w_1 := cell_regrown (B_w.cell (v := .int .i64 py) 1 rfl)
  refine wp_region_low 13 (by kernel_rfl) (by kernel_rfl) ?_
  simp only [List.take, List.drop]
  iterate 12 (refine low_step (fun K hK => ?_); go_simp; first | (refine hK _ ?_; clear hK K) | (apply Exists.intro; refine ⟨fun p => ?_, hK _ ?_⟩; (first | with_reducible exact vadd_is _ _ _ _ _ _ A1.out _ | with_reducible exact vadd_is _ _ _ _ _ _ A2.out _ | with_reducible exact vtoward_is _ _ _ _ _ _ _ T2.out _ | with_reducible exact vsub_is _ _ _ _ _ _ S2.out _); clear hK K))
  refine low_new (.cells #[.int .i64 0, .int .i64 0] 55) (by rfl) (fun w => by go_simp) ?_
  intro g_v
  refine low_nil ?_
  intro W7 hC
  have hb := hC.1
  clear k_a_0 k_a_1 k_b_0 k_b_1 k_m_0 k_m_1 k_w_0 k_w_1
  have lu_a := B_a.lt
  have lu_b := B_b.lt
  have lu_m := B_m.lt
  have lu_w := B_w.lt
  replace B_a := B_a.below hb
  replace B_b := B_b.below hb
  replace B_m := B_m.below hb
  replace B_w := B_w.below hb
  obtain ⟨B_v, z_v⟩ := cls_bk (i := 12) hC rfl
  obtain ⟨hB', hS'⟩ := below_c (w := w) hb hB
  have o_v : w.heap.size ≤ g_v := Nat.le_trans hS z_v
  have n_a_v : W3.heap.size ≠ g_v := by omega
  have n_b_v : W3.heap.size + 1 ≠ g_v := by omega
  have n_m_v : W3.heap.size + 1 + 1 ≠ g_v := by omega
  have n_w_v : g_w ≠ g_v := by omega
  clear lu_a lu_b lu_m lu_w
  clear hC hb hB hS
  have hB := hB'; have hS := hS'; clear hB' hS'
  have c_a_0 := B_a.cell (v := .int .i64 ax) 0 rfl
  have c_a_1 := B_a.cell (v := .int .i64 ay) 1 rfl
  have lt_a := B_a.lt
  have c_b_0 := B_b.cell (v := .int .i64 bx) 0 rfl
  have c_b_1 := B_b.cell (v := .int .i64 cy) 1 rfl
  have lt_b := B_b.lt
  have c_v_0 := B_v.cell (v := .int .i64 0) 0 rfl
  have c_v_1 := B_v.cell (v := .int .i64 0) 1 rfl
  have lt_v := B_v.lt
  have f_v_0 := B_v.free 0
  have f_v_1 := B_v.free 1
  go_wp2_with fail
  with_reducible refine (vsub_is _ _ _ _ _ _ S3.out _).mono ?_
  rintro e W8 ⟨rfl, hb⟩
  clear c_a_0 c_a_1 lt_a c_b_0 c_b_1 lt_b c_v_0 c_v_1 lt_v f_v_0 f_v_1
  have B'_a : Bk W8 (W3.heap.size) #[.int .i64 ax, .int .i64 ay] 55 := Bk.below ((Bk.far (Bk.far B_a (by first | assumption | (simp; done) | (exact Ne.symm (by assumption)) | (simp; omega)) _) (by first | assumption | (simp; done) | (exact Ne.symm (by assumption)) | (simp; omega)) _)) hb
  have B'_b : Bk W8 (W3.heap.size + 1) #[.int .i64 bx, .int .i64 cy] 55 := Bk.below ((Bk.far (Bk.far B_b (by first | assumption | (simp; done) | (exact Ne.symm (by assumption)) | (simp; omega)) _) (by first | assumption | (simp; done) | (exact Ne.symm (by assumption)) | (simp; omega)) _)) hb
  have B'_m : Bk W8 (W3.heap.size + 1 + 1) #[.int .i64 mx, .int .i64 my] 55 := Bk.below ((Bk.far (Bk.far B_m (by first | assumption | (simp; done) | (exact Ne.symm (by assumption)) | (simp; omega)) _) (by first | assumption | (simp; done) | (exact Ne.symm (by assumption)) | (simp; omega)) _)) hb
  have B'_w : Bk W8 (g_w) #[.int .i64 px, .int .i64 py] 55 := Bk.below ((Bk.far (Bk.far B_w (by first | assumption | (simp; done) | (exact Ne.symm (by assumption)) | (simp; omega)) _) (by first | assumption | (simp; done) | (exact Ne.symm (by assumption)) | (simp; omega)) _)) hb
  have B'_v : Bk W8 (g_v) #[.int .i64 px, .int .i64 py] 55 := Bk.below ((Bk.put (Bk.put B_v 0 _) 1 _)) hb
  obtain ⟨hB', hS'⟩ := below_c (w := w) hb ((Below.setCell (p := ⟨g_v, 1, none⟩) (Below.setCell (p := ⟨g_v, 0, none⟩) hB o_v _) o_v _))
  clear hb hB hS B_a B_b B_m B_w B_v
  have B_a := B'_a
  have B_b := B'_b
  have B_m := B'_m
  have B_w := B'_w
  have B_v := B'_v
  have hB := hB'; have hS := hS'; clear hB' hS' B'_a B'_b B'_m B'_w B'_v
  go_wp2_with fail
  refine wp_name (fun W => Below w.heap.size w W ∧ Bk W (W3.heap.size) #[.int .i64 ax, .int .i64 ay] 55 ∧ Bk W (W3.heap.size + 1) #[.int .i64 bx, .int .i64 cy] 55 ∧ Bk W (W3.heap.size + 1 + 1) #[.int .i64 mx, .int .i64 my] 55 ∧ Bk W (g_w) #[.int .i64 px, .int .i64 py] 55 ∧ Bk W (g_v) #[.int .i64 px, .int .i64 py] 55 ∧ Bk W (W8.heap.size) #[.int .i64 dx, .int .i64 dy] 55) ⟨by (first | (go_grown; done) | (repeat (first | assumption | (refine Below.setCell ?_ (by first | assumption | (simp; omega) | omega) _) | (refine Below.alloc ?_ (by assumption) _)))), by (repeat (first | with_reducible assumption | ((with_reducible refine Bk.at_ ?_); first | rfl | (simp; done)) | with_reducible apply Bk.alloc)), by (repeat (first | with_reducible assumption | ((with_reducible refine Bk.at_ ?_); first | rfl | (simp; done)) | with_reducible apply Bk.alloc)), by (repeat (first | with_reducible assumption | ((with_reducible refine Bk.at_ ?_); first | rfl | (simp; done)) | with_reducible apply Bk.alloc)), by (repeat (first | with_reducible assumption | ((with_reducible refine Bk.at_ ?_); first | rfl | (simp; done)) | with_reducible apply Bk.alloc)), by (repeat (first | with_reducible assumption | ((with_reducible refine Bk.at_ ?_); first | rfl | (simp; done)) | with_reducible apply Bk.alloc)), by (repeat (first | with_reducible assumption | ((with_reducible refine Bk.at_ ?_); first | rfl | (simp; done)) | with_reducible apply Bk.alloc))⟩ ?_
  clear hB hS B_a B_b B_m B_w B_v
  rintro W9 ⟨hB, B_a, B_b, B_m, B_w, B_v, B_d⟩
  have hS := hB.size
  have k_a_0 := cell_regrown (B_a.cell (v := .int .i64 ax) 0 rfl)
  have k_a_1 := cell_regrown (B_a.cell (v := .int .i64 ay) 1 rfl)
  have k_b_0 := cell_regrown (B_b.cell (v := .int .i64 bx) 0 rfl)
  have k_b_1 := cell_regrown (B_b.cell (v := .int .i64 cy) 1 rfl)
  have k_m_0 := cell_regrown (B_m.cell (v := .int .i64 mx) 0 rfl)
  have k_m_1 := cell_regrown (B_m.cell (v := .int .i64 my) 1 rfl)
  have k_w_0 := cell_regrown (B_w.cell (v := .int .i64 px) 0 rfl)
  have k_w_1 := cell_regrown (B_w.cell (v := .int .i64 py) 1 rfl)
  have k_v_0 := cell_regrown (B_v.cell (v := .int .i64 px) 0 rfl)
  have k_v_1 := cell_regrown (B_v.cell (v := .int .i64 py) 1 rfl)
  have k_d_0 := cell_regrown (B_d.cell (v := .int .i64 dx) 0 rfl)
  have k_d_1 := cell_regrown (B_d.cell (v := .int .i64 dy) 1 rfl)
  refine wp_region_low 27 (by kernel_rfl) (by kernel_rfl) ?_
  simp only [List.take, List.drop]
  iterate 24 (refine low_step (fun K hK => ?_); go_simp; first | (refine hK _ ?_; clear hK K) | (apply Exists.intro; refine ⟨fun p => ?_, hK _ ?_⟩; (first | with_reducible exact at_any _ _ _ | with_reducible exact vlimit_is _ _ _ _ _ L1.out _ | with_reducible exact vlimit_is _ _ _ _ _ L2.out _ | with_reducible exact vlimit_is _ _ _ _ _ L3.out _); clear hK K))
  refine low_new (.cells #[.int .i64 0, .int .i64 0] 55) (by rfl) (fun w => by go_simp) ?_
  intro g_t
  refine low_new (.cells #[.int .i64 0, .int .i64 0] 55) (by rfl) (fun w => by go_simp) ?_
  intro g_f
  refine low_new (.cells #[.int .i64 0, .int .i64 0] 55) (by rfl) (fun w => by go_simp) ?_
  intro g_x
  refine low_nil ?_
  intro W10 hC
  have hb := hC.1
  clear k_a_0 k_a_1 k_b_0 k_b_1 k_m_0 k_m_1 k_w_0 k_w_1 k_v_0 k_v_1 k_d_0 k_d_1
  have lu_a := B_a.lt
  have lu_b := B_b.lt
  have lu_m := B_m.lt
  have lu_w := B_w.lt
  have lu_v := B_v.lt
  have lu_d := B_d.lt
  replace B_a := B_a.below hb
  replace B_b := B_b.below hb
  replace B_m := B_m.below hb
  replace B_w := B_w.below hb
  replace B_v := B_v.below hb
  replace B_d := B_d.below hb
  obtain ⟨B_t, z_t⟩ := cls_bk (i := 24) hC rfl
  obtain ⟨B_f, z_f⟩ := cls_bk (i := 25) hC rfl
  obtain ⟨B_x, z_x⟩ := cls_bk (i := 26) hC rfl
  obtain ⟨hB', hS'⟩ := below_c (w := w) hb hB
  have o_t : w.heap.size ≤ g_t := Nat.le_trans hS z_t
  have o_f : w.heap.size ≤ g_f := Nat.le_trans hS z_f
  have o_x : w.heap.size ≤ g_x := Nat.le_trans hS z_x
  have n_a_t : W3.heap.size ≠ g_t := by omega
  have n_b_t : W3.heap.size + 1 ≠ g_t := by omega
  have n_m_t : W3.heap.size + 1 + 1 ≠ g_t := by omega
  have n_w_t : g_w ≠ g_t := by omega
  have n_v_t : g_v ≠ g_t := by omega
  have n_d_t : W8.heap.size ≠ g_t := by omega
  have n_a_f : W3.heap.size ≠ g_f := by omega
  have n_b_f : W3.heap.size + 1 ≠ g_f := by omega
  have n_m_f : W3.heap.size + 1 + 1 ≠ g_f := by omega
  have n_w_f : g_w ≠ g_f := by omega
  have n_v_f : g_v ≠ g_f := by omega
  have n_d_f : W8.heap.size ≠ g_f := by omega
  have n_a_x : W3.heap.size ≠ g_x := by omega
  have n_b_x : W3.heap.size + 1 ≠ g_x := by omega
  have n_m_x : W3.heap.size + 1 + 1 ≠ g_x := by omega
  have n_w_x : g_w ≠ g_x := by omega
  have n_v_x : g_v ≠ g_x := by omega
  have n_d_x : W8.heap.size ≠ g_x := by omega
  clear lu_a lu_b lu_m lu_w lu_v lu_d
  have n_t_f : g_t ≠ g_f := cls_ne (i := 24) (j := 25) hC rfl rfl (by decide)
  have n_t_x : g_t ≠ g_x := cls_ne (i := 24) (j := 26) hC rfl rfl (by decide)
  have n_f_x : g_f ≠ g_x := cls_ne (i := 25) (j := 26) hC rfl rfl (by decide)
  clear hC hb hB hS
  have hB := hB'; have hS := hS'; clear hB' hS'
  have c_t_0 := B_t.cell (v := .int .i64 0) 0 rfl
  have c_t_1 := B_t.cell (v := .int .i64 0) 1 rfl
  have lt_t := B_t.lt
  have f_t_0 := B_t.free 0
  have f_t_1 := B_t.free 1
  have c_f_0 := B_f.cell (v := .int .i64 0) 0 rfl
  have c_f_1 := B_f.cell (v := .int .i64 0) 1 rfl
  have lt_f := B_f.lt
  have f_f_0 := B_f.free 0
  have f_f_1 := B_f.free 1
  have c_x_0 := B_x.cell (v := .int .i64 0) 0 rfl
  have c_x_1 := B_x.cell (v := .int .i64 0) 1 rfl
  have lt_x := B_x.lt
  have f_x_0 := B_x.free 0
  have f_x_1 := B_x.free 1
  go_wp2_with fail
  refine wp_name (fun W => Below w.heap.size w W ∧ Bk W (W3.heap.size) #[.int .i64 ax, .int .i64 ay] 55 ∧ Bk W (W3.heap.size + 1) #[.int .i64 bx, .int .i64 cy] 55 ∧ Bk W (W3.heap.size + 1 + 1) #[.int .i64 mx, .int .i64 my] 55 ∧ Bk W (g_w) #[.int .i64 px, .int .i64 py] 55 ∧ Bk W (g_v) #[.int .i64 px, .int .i64 py] 55 ∧ Bk W (W8.heap.size) #[.int .i64 dx, .int .i64 dy] 55 ∧ Bk W (g_t) #[.int .i64 (-px), .int .i64 (-py)] 55 ∧ Bk W (g_f) #[.int .i64 px, .int .i64 (-py)] 55 ∧ Bk W (g_x) #[.int .i64 py, .int .i64 px] 55) ⟨(Below.setCell (p := ⟨g_x, 1, none⟩) (Below.setCell (p := ⟨g_x, 0, none⟩) (Below.setCell (p := ⟨g_f, 1, none⟩) (Below.setCell (p := ⟨g_f, 0, none⟩) (Below.setCell (p := ⟨g_t, 1, none⟩) (Below.setCell (p := ⟨g_t, 0, none⟩) hB o_t _) o_t _) o_f _) o_f _) o_x _) o_x _), (Bk.far (Bk.far (Bk.far (Bk.far (Bk.far (Bk.far B_a (by first | assumption | (simp; done) | (exact Ne.symm (by assumption)) | (simp; omega)) _) (by first | assumption | (simp; done) | (exact Ne.symm (by assumption)) | (simp; omega)) _) (by first | assumption | (simp; done) | (exact Ne.symm (by assumption)) | (simp; omega)) _) (by first | assumption | (simp; done) | (exact Ne.symm (by assumption)) | (simp; omega)) _) (by first | assumption | (simp; done) | (exact Ne.symm (by assumption)) | (simp; omega)) _) (by first | assumption | (simp; done) | (exact Ne.symm (by assumption)) | (simp; omega)) _), (Bk.far (Bk.far (Bk.far (Bk.far (Bk.far (Bk.far B_b (by first | assumption | (simp; done) | (exact Ne.symm (by assumption)) | (simp; omega)) _) (by first | assumption | (simp; done) | (exact Ne.symm (by assumption)) | (simp; omega)) _) (by first | assumption | (simp; done) | (exact Ne.symm (by assumption)) | (simp; omega)) _) (by first | assumption | (simp; done) | (exact Ne.symm (by assumption)) | (simp; omega)) _) (by first | assumption | (simp; done) | (exact Ne.symm (by assumption)) | (simp; omega)) _) (by first | assumption | (simp; done) | (exact Ne.symm (by assumption)) | (simp; omega)) _), (Bk.far (Bk.far (Bk.far (Bk.far (Bk.far (Bk.far B_m (by first | assumption | (simp; done) | (exact Ne.symm (by assumption)) | (simp; omega)) _) (by first | assumption | (simp; done) | (exact Ne.symm (by assumption)) | (simp; omega)) _) (by first | assumption | (simp; done) | (exact Ne.symm (by assumption)) | (simp; omega)) _) (by first | assumption | (simp; done) | (exact Ne.symm (by assumption)) | (simp; omega)) _) (by first | assumption | (simp; done) | (exact Ne.symm (by assumption)) | (simp; omega)) _) (by first | assumption | (simp; done) | (exact Ne.symm (by assumption)) | (simp; omega)) _), (Bk.far (Bk.far (Bk.far (Bk.far (Bk.far (Bk.far B_w (by first | assumption | (simp; done) | (exact Ne.symm (by assumption)) | (simp; omega)) _) (by first | assumption | (simp; done) | (exact Ne.symm (by assumption)) | (simp; omega)) _) (by first | assumption | (simp; done) | (exact Ne.symm (by assumption)) | (simp; omega)) _) (by first | assumption | (simp; done) | (exact Ne.symm (by assumption)) | (simp; omega)) _) (by first | assumption | (simp; done) | (exact Ne.symm (by assumption)) | (simp; omega)) _) (by first | assumption | (simp; done) | (exact Ne.symm (by assumption)) | (simp; omega)) _), (Bk.far (Bk.far (Bk.far (Bk.far (Bk.far (Bk.far B_v (by first | assumption | (simp; done) | (exact Ne.symm (by assumption)) | (simp; omega)) _) (by first | assumption | (simp; done) | (exact Ne.symm (by assumption)) | (simp; omega)) _) (by first | assumption | (simp; done) | (exact Ne.symm (by assumption)) | (simp; omega)) _) (by first | assumption | (simp; done) | (exact Ne.symm (by assumption)) | (simp; omega)) _) (by first | assumption | (simp; done) | (exact Ne.symm (by assumption)) | (simp; omega)) _) (by first | assumption | (simp; done) | (exact Ne.symm (by assumption)) | (simp; omega)) _), (Bk.far (Bk.far (Bk.far (Bk.far (Bk.far (Bk.far B_d (by first | assumption | (simp; done) | (exact Ne.symm (by assumption)) | (simp; omega)) _) (by first | assumption | (simp; done) | (exact Ne.symm (by assumption)) | (simp; omega)) _) (by first | assumption | (simp; done) | (exact Ne.symm (by assumption)) | (simp; omega)) _) (by first | assumption | (simp; done) | (exact Ne.symm (by assumption)) | (simp; omega)) _) (by first | assumption | (simp; done) | (exact Ne.symm (by assumption)) | (simp; omega)) _) (by first | assumption | (simp; done) | (exact Ne.symm (by assumption)) | (simp; omega)) _), (Bk.far (Bk.far (Bk.far (Bk.far (Bk.put (Bk.put B_t 0 _) 1 _) (by first | assumption | (simp; done) | (exact Ne.symm (by assumption)) | (simp; omega)) _) (by first | assumption | (simp; done) | (exact Ne.symm (by assumption)) | (simp; omega)) _) (by first | assumption | (simp; done) | (exact Ne.symm (by assumption)) | (simp; omega)) _) (by first | assumption | (simp; done) | (exact Ne.symm (by assumption)) | (simp; omega)) _), (Bk.far (Bk.far (Bk.put (Bk.put (Bk.far (Bk.far B_f (by first | assumption | (simp; done) | (exact Ne.symm (by assumption)) | (simp; omega)) _) (by first | assumption | (simp; done) | (exact Ne.symm (by assumption)) | (simp; omega)) _) 0 _) 1 _) (by first | assumption | (simp; done) | (exact Ne.symm (by assumption)) | (simp; omega)) _) (by first | assumption | (simp; done) | (exact Ne.symm (by assumption)) | (simp; omega)) _), (Bk.put (Bk.put (Bk.far (Bk.far (Bk.far (Bk.far B_x (by first | assumption | (simp; done) | (exact Ne.symm (by assumption)) | (simp; omega)) _) (by first | assumption | (simp; done) | (exact Ne.symm (by assumption)) | (simp; omega)) _) (by first | assumption | (simp; done) | (exact Ne.symm (by assumption)) | (simp; omega)) _) (by first | assumption | (simp; done) | (exact Ne.symm (by assumption)) | (simp; omega)) _) 0 _) 1 _)⟩ ?_
  clear c_t_0 c_t_1 lt_t f_t_0 f_t_1 c_f_0 c_f_1 lt_f f_f_0 f_f_1 c_x_0 c_x_1 lt_x f_x_0 f_x_1
  clear hB hS B_a B_b B_m B_w B_v B_d B_t B_f B_x
  rintro W11 ⟨hB, B_a, B_b, B_m, B_w, B_v, B_d, B_t, B_f, B_x⟩
  have hS := hB.size
  have k_a_0 := cell_regrown (B_a.cell (v := .int .i64 ax) 0 rfl)
  have k_a_1 := cell_regrown (B_a.cell (v := .int .i64 ay) 1 rfl)
  have k_b_0 := cell_regrown (B_b.cell (v := .int .i64 bx) 0 rfl)
  have k_b_1 := cell_regrown (B_b.cell (v := .int .i64 cy) 1 rfl)
  have k_m_0 := cell_regrown (B_m.cell (v := .int .i64 mx) 0 rfl)
  have k_m_1 := cell_regrown (B_m.cell (v := .int .i64 my) 1 rfl)
  have k_w_0 := cell_regrown (B_w.cell (v := .int .i64 px) 0 rfl)
  have k_w_1 := cell_regrown (B_w.cell (v := .int .i64 py) 1 rfl)
  have k_v_0 := cell_regrown (B_v.cell (v := .int .i64 px) 0 rfl)
  have k_v_1 := cell_regrown (B_v.cell (v := .int .i64 py) 1 rfl)
  have k_d_0 := cell_regrown (B_d.cell (v := .int .i64 dx) 0 rfl)
  have k_d_1 := cell_regrown (B_d.cell (v := .int .i64 dy) 1 rfl)
  have k_t_0 := cell_regrown (B_t.cell (v := .int .i64 (-px)) 0 rfl)
  have k_t_1 := cell_regrown (B_t.cell (v := .int .i64 (-py)) 1 rfl)
  have k_f_0 := cell_regrown (B_f.cell (v := .int .i64 px) 0 rfl)
  have k_f_1 := cell_regrown (B_f.cell (v := .int .i64 (-py)) 1 rfl)
  have k_x_0 := cell_regrown (B_x.cell (v := .int .i64 py) 0 rfl)
  have k_x_1 := cell_regrown (B_x.cell (v := .int .i64 px) 1 rfl)
  refine wp_region_low 39 (by kernel_rfl) (by kernel_rfl) ?_
  simp only [List.take, List.drop]
  iterate 39 (refine low_step (fun K hK => ?_); go_simp; first | (refine hK _ ?_; clear hK K) | (apply Exists.intro; refine ⟨fun p => ?_, hK _ ?_⟩; (first | with_reducible exact vlimit_is _ _ _ _ _ L4.out _ | with_reducible exact at_any _ _ _); clear hK K))
  refine low_nil ?_
  intro W12 hC
  have hb := hC.1
  clear k_a_0 k_a_1 k_b_0 k_b_1 k_m_0 k_m_1 k_w_0 k_w_1 k_v_0 k_v_1 k_d_0 k_d_1 k_t_0 k_t_1 k_f_0 k_f_1 k_x_0 k_x_1
  replace B_a := B_a.below hb
  replace B_b := B_b.below hb
  replace B_m := B_m.below hb
  replace B_w := B_w.below hb
  replace B_v := B_v.below hb
  replace B_d := B_d.below hb
  replace B_t := B_t.below hb
  replace B_f := B_f.below hb
  replace B_x := B_x.below hb
  obtain ⟨hB', hS'⟩ := below_c (w := w) hb hB
  clear hC hb hB hS
  have hB := hB'; have hS := hS'; clear hB' hS'
  go_wp2_with fail
  refine wp_name (fun W => Below w.heap.size w W ∧ Bk W (W3.heap.size) #[.int .i64 ax, .int .i64 ay] 55 ∧ Bk W (W3.heap.size + 1) #[.int .i64 bx, .int .i64 cy] 55 ∧ Bk W (W3.heap.size + 1 + 1) #[.int .i64 mx, .int .i64 my] 55 ∧ Bk W (g_w) #[.int .i64 px, .int .i64 py] 55 ∧ Bk W (g_v) #[.int .i64 px, .int .i64 py] 55 ∧ Bk W (W8.heap.size) #[.int .i64 dx, .int .i64 dy] 55 ∧ Bk W (g_t) #[.int .i64 (-px), .int .i64 (-py)] 55 ∧ Bk W (g_f) #[.int .i64 px, .int .i64 (-py)] 55 ∧ Bk W (g_x) #[.int .i64 py, .int .i64 px] 55) ⟨by (first | (go_grown; done) | (repeat (first | assumption | (refine Below.setCell ?_ (by first | assumption | (simp; omega) | omega) _) | (refine Below.alloc ?_ (by assumption) _)))), by (repeat (first | with_reducible assumption | ((with_reducible refine Bk.at_ ?_); first | rfl | (simp; done)) | with_reducible apply Bk.alloc)), by (repeat (first | with_reducible assumption | ((with_reducible refine Bk.at_ ?_); first | rfl | (simp; done)) | with_reducible apply Bk.alloc)), by (repeat (first | with_reducible assumption | ((with_reducible refine Bk.at_ ?_); first | rfl | (simp; done)) | with_reducible apply Bk.alloc)), by (repeat (first | with_reducible assumption | ((with_reducible refine Bk.at_ ?_); first | rfl | (simp; done)) | with_reducible apply Bk.alloc)), by (repeat (first | with_reducible assumption | ((with_reducible refine Bk.at_ ?_); first | rfl | (simp; done)) | with_reducible apply Bk.alloc)), by (repeat (first | with_reducible assumption | ((with_reducible refine Bk.at_ ?_); first | rfl | (simp; done)) | with_reducible apply Bk.alloc)), by (repeat (first | with_reducible assumption | ((with_reducible refine Bk.at_ ?_); first | rfl | (simp; done)) | with_reducible apply Bk.alloc)), by (repeat (first | with_reducible assumption | ((with_reducible refine Bk.at_ ?_); first | rfl | (simp; done)) | with_reducible apply Bk.alloc)), by (repeat (first | with_reducible assumption | ((with_reducible refine Bk.at_ ?_); first | rfl | (simp; done)) | with_reducible apply Bk.alloc))⟩ ?_
  clear hB hS B_a B_b B_m B_w B_v B_d B_t B_f B_x
  rintro W13 ⟨hB, B_a, B_b, B_m, B_w, B_v, B_d, B_t, B_f, B_x⟩
  have hS := hB.size
  have k_a_0 := cell_regrown (B_a.cell (v := .int .i64 ax) 0 rfl)
  have k_a_1 := cell_regrown (B_a.cell (v := .int .i64 ay) 1 rfl)
  have k_b_0 := cell_regrown (B_b.cell (v := .int .i64 bx) 0 rfl)
  have k_b_1 := cell_regrown (B_b.cell (v := .int .i64 cy) 1 rfl)
  have k_m_0 := cell_regrown (B_m.cell (v := .int .i64 mx) 0 rfl)
  have k_m_1 := cell_regrown (B_m.cell (v := .int .i64 my) 1 rfl)
  have k_w_0 := cell_regrown (B_w.cell (v := .int .i64 px) 0 rfl)
  have k_w_1 := cell_regrown (B_w.cell (v := .int .i64 py) 1 rfl)
  have k_v_0 := cell_regrown (B_v.cell (v := .int .i64 px) 0 rfl)
  have k_v_1 := cell_regrown (B_v.cell (v := .int .i64 py) 1 rfl)
  have k_d_0 := cell_regrown (B_d.cell (v := .int .i64 dx) 0 rfl)
  have k_d_1 := cell_regrown (B_d.cell (v := .int .i64 dy) 1 rfl)
  have k_t_0 := cell_regrown (B_t.cell (v := .int .i64 (-px)) 0 rfl)
  have k_t_1 := cell_regrown (B_t.cell (v := .int .i64 (-py)) 1 rfl)
  have k_f_0 := cell_regrown (B_f.cell (v := .int .i64 px) 0 rfl)
  have k_f_1 := cell_regrown (B_f.cell (v := .int .i64 (-py)) 1 rfl)
  have k_x_0 := cell_regrown (B_x.cell (v := .int .i64 py) 0 rfl)
  have k_x_1 := cell_regrown (B_x.cell (v := .int .i64 px) 1 rfl)
  refine wp_region_low 18 (by kernel_rfl) (by kernel_rfl) ?_
  simp only [List.take, List.drop]
  iterate 3 (refine low_step (fun K hK => ?_); go_simp; first | (refine hK _ ?_; clear hK K) | (apply Exists.intro; refine ⟨fun p => ?_, hK _ ?_⟩; (first | with_reducible exact vtoward_is _ _ _ _ _ _ _ T3.out _ | with_reducible exact vtoward_is _ _ _ _ _ _ _ T4.out _ | with_reducible exact awake02 _); clear hK K))
  refine low_min (.tmp 120) (.const (.int .i64 0)) _ (by rfl) rfl .i64 a6 0 rfl rfl ?_
  iterate 14 (refine low_step (fun K hK => ?_); go_simp; first | (refine hK _ ?_; clear hK K) | (apply Exists.intro; refine ⟨fun p => ?_, hK _ ?_⟩; (first | with_reducible exact vtoward_is _ _ _ _ _ _ _ T3.out _ | with_reducible exact vtoward_is _ _ _ _ _ _ _ T4.out _ | with_reducible exact awake02 _); clear hK K))
  refine low_nil ?_
  intro W14 hC
  have hb := hC.1
  clear k_a_0 k_a_1 k_b_0 k_b_1 k_m_0 k_m_1 k_w_0 k_w_1 k_v_0 k_v_1 k_d_0 k_d_1 k_t_0 k_t_1 k_f_0 k_f_1 k_x_0 k_x_1
  replace B_a := B_a.below hb
  replace B_b := B_b.below hb
  replace B_m := B_m.below hb
  replace B_w := B_w.below hb
  replace B_v := B_v.below hb
  replace B_d := B_d.below hb
  replace B_t := B_t.below hb
  replace B_f := B_f.below hb
  replace B_x := B_x.below hb
  obtain ⟨hB', hS'⟩ := below_c (w := w) hb hB
  clear hC hb hB hS
  have hB := hB'; have hS := hS'; clear hB' hS'
  go_wp2
  go_returns
  exact ⟨rfl, by (first | (go_grown; done) | (repeat (first | assumption | (refine Below.setCell ?_ (by first | assumption | (simp; omega) | omega) _) | (refine Below.alloc ?_ (by assumption) _))))⟩
end Go.Proofs.Ytolifgjkejhlhaa
