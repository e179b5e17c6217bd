/- VecTriangle: the walk: whatever the arguments are, it returns true and writes nothing that was there. -/
import Derived.Test.YtolifgjkejhlhaaVLaw
import Derived.OpenShut
import Derived.Test.YtolifgjkejhlhaaMinMax
import Derived.Test.YtolifgjkejhlhaaVMore
set_option linter.unusedVariables false
set_option linter.unusedSimpArgs false
namespace Go.Proofs.Ytolifgjkejhlhaa
open Go.RowKit

open Go Go.Sort
attribute [local go_sem] opLow opUpon
theorem fadd_is (a b v : Int) (h : (I64 a ∧ I64 b) ∧ sat (a + b) = v) (w : World) :
    Calls Try.prog 35 #[.int .i64 a, .int .i64 b] w fun e w' => e = .returned (.int .i64 v) ∧ Below w.heap.size w w' := by
  obtain ⟨⟨h1, h2⟩, rfl⟩ := h; exact add_any a b h1.1 h1.2 h2.1 h2.2 w
theorem fsub_is (a b v : Int) (h : (I64 a ∧ I64 b) ∧ sat (a - b) = v) (w : World) :
    Calls Try.prog 36 #[.int .i64 a, .int .i64 b] w fun e w' => e = .returned (.int .i64 v) ∧ Below w.heap.size w w' := by
  obtain ⟨⟨h1, h2⟩, rfl⟩ := h; exact sub_any a b h1.1 h1.2 h2.1 h2.2 w
theorem sat_abs (x : Int) : sat ((sat x).natAbs : Int) = sat (x.natAbs : Int) := by unfold sat; omega
theorem sat_tri (z u v : Int) (hu : 0 ≤ u) (hv : 0 ≤ v) (h : z ≤ u + v) : sat z ≤ sat (sat u + sat v) := by unfold sat; omega
theorem sat_pos (z : Int) : (0 ≤ z → 0 ≤ sat z) ∧ (0 < z → 0 < sat z) := by unfold sat; omega
theorem sat_max (x y : Int) : max (sat x) (sat y) = sat (max x y) := by unfold sat; omega
theorem vfar_tri (ax ay bx b' cx cy : Int) : vfar (bx - ax) (b' - ay) ≤ vfar (cx - ax) (cy - ay) + vfar (bx - cx) (b' - cy) := by
  have x : ((bx - ax).natAbs : Int) ≤ ((cx - ax).natAbs : Int) + ((bx - cx).natAbs : Int) := by omega
  have y : ((b' - ay).natAbs : Int) ≤ ((cy - ay).natAbs : Int) + ((b' - cy).natAbs : Int) := by omega
  unfold vfar
  generalize ((bx - ax).natAbs : Int) = a1 at *
  generalize ((cx - ax).natAbs : Int) = a2 at *
  generalize ((bx - cx).natAbs : Int) = a3 at *
  generalize ((b' - ay).natAbs : Int) = a4 at *
  generalize ((cy - ay).natAbs : Int) = a5 at *
  generalize ((b' - cy).natAbs : Int) = a6 at *
  omega
theorem triangle_facts (ax ay bx b' cx cy : Int) (hax : I64 ax) (hay : I64 ay) (hbx : I64 bx) (hb : I64 b') (hcx : I64 cx) (hcy : I64 cy) :
    ∃ d d1 d2 d3 sx sy X Y : Int, (0 ≤ d ∧ d ≤ d3) ∧ ((ax = bx ∧ ay = b') → d = 0) ∧ (¬ (ax = bx ∧ ay = b') → 0 < d) ∧ max X Y = d ∧
    Hid ((I64 ax ∧ I64 ay ∧ I64 bx ∧ I64 b') ∧ sat (vfar (bx - ax) (b' - ay)) = d) ∧ Hid ((I64 bx ∧ I64 b' ∧ I64 ax ∧ I64 ay) ∧ sat (vfar (ax - bx) (ay - b')) = d) ∧
    Hid ((I64 ax ∧ I64 ay ∧ I64 ax ∧ I64 ay) ∧ sat (vfar (ax - ax) (ay - ay)) = 0) ∧ Hid ((I64 ax ∧ I64 ay ∧ I64 cx ∧ I64 cy) ∧ sat (vfar (cx - ax) (cy - ay)) = d1) ∧
    Hid ((I64 cx ∧ I64 cy ∧ I64 bx ∧ I64 b') ∧ sat (vfar (bx - cx) (b' - cy)) = d2) ∧ Hid ((I64 d1 ∧ I64 d2) ∧ sat (d1 + d2) = d3) ∧
    Hid ((I64 ax ∧ I64 bx) ∧ sat (ax - bx) = sx) ∧ Hid ((I64 ay ∧ I64 b') ∧ sat (ay - b') = sy) ∧
    Hid (-9223372036854775808 ≤ sx ∧ sx ≤ 9223372036854775807 ∧ sat (sx.natAbs : Int) = X) ∧ Hid (-9223372036854775808 ≤ sy ∧ sy ≤ 9223372036854775807 ∧ sat (sy.natAbs : Int) = Y) := by
  have b1 := sat_bd (ax - bx)
  have b2 := sat_bd (ay - b')
  have b3 := sat_bd (vfar (cx - ax) (cy - ay))
  have b4 := sat_bd (vfar (bx - cx) (b' - cy))
  refine ⟨_, _, _, _, _, _, _, _, ⟨?_, ?_⟩, ?_, ?_, ?_, Lib.hid ⟨⟨hax, hay, hbx, hb⟩, rfl⟩, Lib.hid ⟨⟨hbx, hb, hax, hay⟩, ?_⟩, Lib.hid ⟨⟨hax, hay, hax, hay⟩, ?_⟩, Lib.hid ⟨⟨hax, hay, hcx, hcy⟩, rfl⟩, Lib.hid ⟨⟨hcx, hcy, hbx, hb⟩, rfl⟩, Lib.hid ⟨⟨b3, b4⟩, rfl⟩, Lib.hid ⟨⟨hax, hbx⟩, rfl⟩, Lib.hid ⟨⟨hay, hb⟩, rfl⟩, Lib.hid ⟨b1.1, b1.2, rfl⟩, Lib.hid ⟨b2.1, b2.2, rfl⟩⟩
  · exact (sat_pos _).1 (vfar_bd _ _).2.2.1
  · exact sat_tri _ _ _ (vfar_bd _ _).2.2.1 (vfar_bd _ _).2.2.1 (vfar_tri ax ay bx b' cx cy)
  · rintro ⟨rfl, rfl⟩; rw [Int.sub_self, Int.sub_self]; rfl
  · intro h; refine (sat_pos _).2 ?_; unfold vfar; omega
  · rw [sat_abs, sat_abs, sat_max]; unfold vfar; congr 1; omega
  · unfold vfar; congr 1; omega
  · rw [Int.sub_self, Int.sub_self]; rfl

set_option maxRecDepth 100000 in
set_option maxHeartbeats 8000000 in
theorem walk_VecTriangle (a0 a1 a2 a3 a4 a5 : Int) (w0 : (Lit.int .i64 a0).wf = true) (w1 : (Lit.int .i64 a1).wf = true) (w2 : (Lit.int .i64 a2).wf = true) (w3 : (Lit.int .i64 a3).wf = true) (w4 : (Lit.int .i64 a4).wf = true) (w5 : (Lit.int .i64 a5).wf = true) (w : World) :
    Calls Try.prog 17 #[V a0 a1, V a2 a3, V a4 a5] w fun e w' => e = .returned (.bool true) ∧ Below w.heap.size w w' := by
  have w0 := bounds_i64 w0
  have w1 := bounds_i64 w1
  have w2 := bounds_i64 w2
  have w3 := bounds_i64 w3
  have w4 := bounds_i64 w4
  have w5 := bounds_i64 w5
  obtain ⟨d, d1, d2, d3, sx, sy, X, Y, ⟨hd, hd3⟩, he, hne, hm, D0, D1, D2, D3, D4, D5, D6, D7, D8, D9⟩ := triangle_facts a0 a1 a2 a3 a4 a5 w0 w1 w2 w3 w4 w5
  clear w0 w1 w2 w3 w4 w5
  by_cases hE : a0 = a2 ∧ a1 = a3
  · skip
    have eqV := eqlv_V a0 a1 a2 a3 true (by rw [decide_eq_true_iff]; exact hE)
    have h0 := he hE
    subst h0
    clear he hne hE
    have HM := Lib.hid hm
    clear hm
    go_enter Try.func17, Try.ntmps17
    go_wp2_with fail
    with_reducible refine (vdist_is _ _ _ _ _ D0.out _).mono ?_
    rintro e W1 ⟨rfl, hb⟩
    have o_a : w.heap.size ≤ w.heap.size := Nat.le_add_right _ 0
    have o_b : w.heap.size ≤ w.heap.size + 1 := Nat.le_add_right _ 1
    have o_c : w.heap.size ≤ w.heap.size + 1 + 1 := Nat.le_add_right _ 2
    have B'_a : Bk W1 (w.heap.size) #[.int .i64 a0, .int .i64 a1] 55 := Bk.below (by (repeat (first | with_reducible assumption | ((with_reducible refine Bk.at_ ?_); first | rfl | (simp; done)) | with_reducible apply Bk.alloc))) hb
    have B'_b : Bk W1 (w.heap.size + 1) #[.int .i64 a2, .int .i64 a3] 55 := Bk.below (by (repeat (first | with_reducible assumption | ((with_reducible refine Bk.at_ ?_); first | rfl | (simp; done)) | with_reducible apply Bk.alloc))) hb
    have B'_c : Bk W1 (w.heap.size + 1 + 1) #[.int .i64 a4, .int .i64 a5] 55 := Bk.below (by (repeat (first | with_reducible assumption | ((with_reducible refine Bk.at_ ?_); first | rfl | (simp; done)) | with_reducible apply Bk.alloc))) hb
    obtain ⟨hB', hS'⟩ := below_c (w := w) hb (by (first | (go_grown; done) | (repeat (first | assumption | (refine Below.setCell ?_ (by first | assumption | (simp; omega) | omega) _) | (refine Below.alloc ?_ (by assumption) _)))))
    clear hb
    have B_a := B'_a
    have B_b := B'_b
    have B_c := B'_c
    have hB := hB'; have hS := hS'; clear hB' hS' B'_a B'_b B'_c
    go_wp2_with fail
    have k_a_0 := cell_regrown (B_a.cell (v := .int .i64 a0) 0 rfl)
    have k_a_1 := cell_regrown (B_a.cell (v := .int .i64 a1) 1 rfl)
    have k_b_0 := cell_regrown (B_b.cell (v := .int .i64 a2) 0 rfl)
    have k_b_1 := cell_regrown (B_b.cell (v := .int .i64 a3) 1 rfl)
    have k_c_0 := cell_regrown (B_c.cell (v := .int .i64 a4) 0 rfl)
    have k_c_1 := cell_regrown (B_c.cell (v := .int .i64 a5) 1 rfl)
    refine wp_region_low 33 (by kernel_rfl) (by kernel_rfl) ?_
    simp only [List.take, List.drop]
    iterate 33 (refine low_step (fun K hK => ?_); go_simp; first | (refine hK _ ?_; clear hK K) | (apply Exists.intro; refine ⟨fun p => ?_, hK _ ?_⟩; (first | with_reducible exact vdist_is _ _ _ _ _ D1.out _ | with_reducible exact vdist_is _ _ _ _ _ D2.out _ | with_reducible exact vdist_is _ _ _ _ _ D3.out _ | with_reducible exact vdist_is _ _ _ _ _ D4.out _ | with_reducible exact fadd_is _ _ _ D5.out _); clear hK K))
    refine low_nil ?_
    intro W2 hC
    have hb := hC.1
    clear k_a_0 k_a_1 k_b_0 k_b_1 k_c_0 k_c_1
    replace B_a := B_a.below hb
    replace B_b := B_b.below hb
    replace B_c := B_c.below hb
    obtain ⟨hB', hS'⟩ := below_c (w := w) hb hB
    clear hC hb hB hS
    have hB := hB'; have hS := hS'; clear hB' hS'
    go_wp2_with fail
    have k_a_0 := cell_regrown (B_a.cell (v := .int .i64 a0) 0 rfl)
    have k_a_1 := cell_regrown (B_a.cell (v := .int .i64 a1) 1 rfl)
    have k_b_0 := cell_regrown (B_b.cell (v := .int .i64 a2) 0 rfl)
    have k_b_1 := cell_regrown (B_b.cell (v := .int .i64 a3) 1 rfl)
    have k_c_0 := cell_regrown (B_c.cell (v := .int .i64 a4) 0 rfl)
    have k_c_1 := cell_regrown (B_c.cell (v := .int .i64 a5) 1 rfl)
    refine wp_region_low 12 (by kernel_rfl) (by kernel_rfl) ?_
    simp only [List.take, List.drop]
    iterate 12 (refine low_step (fun K hK => ?_); go_simp; first | (refine hK _ ?_; clear hK K) | (apply Exists.intro; refine ⟨fun p => ?_, hK _ ?_⟩; (first | with_reducible exact fsub_is _ _ _ D6.out _ | with_reducible exact fsub_is _ _ _ D7.out _ | with_reducible exact abs_is _ _ D8.out _ | with_reducible exact abs_is _ _ D9.out _); clear hK K))
    refine low_nil ?_
    intro W3 hC
    have hb := hC.1
    clear k_a_0 k_a_1 k_b_0 k_b_1 k_c_0 k_c_1
    replace B_a := B_a.below hb
    replace B_b := B_b.below hb
    replace B_c := B_c.below hb
    obtain ⟨hB', hS'⟩ := below_c (w := w) hb hB
    clear hC hb hB hS
    have hB := hB'; have hS := hS'; clear hB' hS'
    have hm := HM.out
    go_wp2_with (first | refine wpList_min2 _ rfl _ _ _ rfl _ _ _ rfl rfl ?_ | refine wpList_max2 _ rfl _ _ _ rfl _ _ _ rfl rfl ?_)
    with_reducible refine (awake02 _).mono ?_
    rintro e W4 ⟨rfl, hb⟩
    have B'_a : Bk W4 (w.heap.size) #[.int .i64 a0, .int .i64 a1] 55 := Bk.below (by (repeat (first | with_reducible assumption | ((with_reducible refine Bk.at_ ?_); first | rfl | (simp; done)) | with_reducible apply Bk.alloc))) hb
    have B'_b : Bk W4 (w.heap.size + 1) #[.int .i64 a2, .int .i64 a3] 55 := Bk.below (by (repeat (first | with_reducible assumption | ((with_reducible refine Bk.at_ ?_); first | rfl | (simp; done)) | with_reducible apply Bk.alloc))) hb
    have B'_c : Bk W4 (w.heap.size + 1 + 1) #[.int .i64 a4, .int .i64 a5] 55 := Bk.below (by (repeat (first | with_reducible assumption | ((with_reducible refine Bk.at_ ?_); first | rfl | (simp; done)) | with_reducible apply Bk.alloc))) hb
    obtain ⟨hB', hS'⟩ := below_c (w := w) hb (by (first | (go_grown; done) | (repeat (first | assumption | (refine Below.setCell ?_ (by first | assumption | (simp; omega) | omega) _) | (refine Below.alloc ?_ (by assumption) _)))))
    clear hb hB hS B_a B_b B_c
    have B_a := B'_a
    have B_b := B'_b
    have B_c := B'_c
    have hB := hB'; have hS := hS'; clear hB' hS' B'_a B'_b B'_c
    go_wp2
    go_returns
    exact ⟨rfl, by (first | (go_grown; done) | (repeat (first | assumption | (refine Below.setCell ?_ (by first | assumption | (simp; omega) | omega) _) | (refine Below.alloc ?_ (by assumption) _))))⟩
  · skip
    have eqV := eqlv_V a0 a1 a2 a3 false (by rw [decide_eq_false_iff_not]; exact hE)
    have h0 := hne hE
    have z1 : ¬ d = 0 := by omega
    have z2 : (d == 0) = false := by simpa using z1
    clear he hne hE
    have HM := Lib.hid hm
    clear hm
    go_enter Try.func17, Try.ntmps17
    go_wp2_with fail
    with_reducible refine (vdist_is _ _ _ _ _ D0.out _).mono ?_
    rintro e W1 ⟨rfl, hb⟩
    have o_a : w.heap.size ≤ w.heap.size := Nat.le_add_right _ 0
    have o_b : w.heap.size ≤ w.heap.size + 1 := Nat.le_add_right _ 1
    have o_c : w.heap.size ≤ w.heap.size + 1 + 1 := Nat.le_add_right _ 2
    have B'_a : Bk W1 (w.heap.size) #[.int .i64 a0, .int .i64 a1] 55 := Bk.below (by (repeat (first | with_reducible assumption | ((with_reducible refine Bk.at_ ?_); first | rfl | (simp; done)) | with_reducible apply Bk.alloc))) hb
    have B'_b : Bk W1 (w.heap.size + 1) #[.int .i64 a2, .int .i64 a3] 55 := Bk.below (by (repeat (first | with_reducible assumption | ((with_reducible refine Bk.at_ ?_); first | rfl | (simp; done)) | with_reducible apply Bk.alloc))) hb
    have B'_c : Bk W1 (w.heap.size + 1 + 1) #[.int .i64 a4, .int .i64 a5] 55 := Bk.below (by (repeat (first | with_reducible assumption | ((with_reducible refine Bk.at_ ?_); first | rfl | (simp; done)) | with_reducible apply Bk.alloc))) hb
    obtain ⟨hB', hS'⟩ := below_c (w := w) hb (by (first | (go_grown; done) | (repeat (first | assumption | (refine Below.setCell ?_ (by first | assumption | (simp; omega) | omega) _) | (refine Below.alloc ?_ (by assumption) _)))))
    clear hb
    have B_a := B'_a
    have B_b := B'_b
    have B_c := B'_c
    have hB := hB'; have hS := hS'; clear hB' hS' B'_a B'_b B'_c
    go_wp2_with fail
    have k_a_0 := cell_regrown (B_a.cell (v := .int .i64 a0) 0 rfl)
    have k_a_1 := cell_regrown (B_a.cell (v := .int .i64 a1) 1 rfl)
    have k_b_0 := cell_regrown (B_b.cell (v := .int .i64 a2) 0 rfl)
    have k_b_1 := cell_regrown (B_b.cell (v := .int .i64 a3) 1 rfl)
    have k_c_0 := cell_regrown (B_c.cell (v := .int .i64 a4) 0 rfl)
    have k_c_1 := cell_regrown (B_c.cell (v := .int .i64 a5) 1 rfl)
    refine wp_region_low 33 (by kernel_rfl) (by kernel_rfl) ?_
    simp only [List.take, List.drop]
    iterate 33 (refine low_step (fun K hK => ?_); go_simp; first | (refine hK _ ?_; clear hK K) | (apply Exists.intro; refine ⟨fun p => ?_, hK _ ?_⟩; (first | with_reducible exact vdist_is _ _ _ _ _ D1.out _ | with_reducible exact vdist_is _ _ _ _ _ D2.out _ | with_reducible exact vdist_is _ _ _ _ _ D3.out _ | with_reducible exact vdist_is _ _ _ _ _ D4.out _ | with_reducible exact fadd_is _ _ _ D5.out _); clear hK K))
    refine low_nil ?_
    intro W2 hC
    have hb := hC.1
    clear k_a_0 k_a_1 k_b_0 k_b_1 k_c_0 k_c_1
    replace B_a := B_a.below hb
    replace B_b := B_b.below hb
    replace B_c := B_c.below hb
    obtain ⟨hB', hS'⟩ := below_c (w := w) hb hB
    clear hC hb hB hS
    have hB := hB'; have hS := hS'; clear hB' hS'
    go_wp2_with fail
    have k_a_0 := cell_regrown (B_a.cell (v := .int .i64 a0) 0 rfl)
    have k_a_1 := cell_regrown (B_a.cell (v := .int .i64 a1) 1 rfl)
    have k_b_0 := cell_regrown (B_b.cell (v := .int .i64 a2) 0 rfl)
    have k_b_1 := cell_regrown (B_b.cell (v := .int .i64 a3) 1 rfl)
    have k_c_0 := cell_regrown (B_c.cell (v := .int .i64 a4) 0 rfl)
    have k_c_1 := cell_regrown (B_c.cell (v := .int .i64 a5) 1 rfl)
    refine wp_region_low 12 (by kernel_rfl) (by kernel_rfl) ?_
    simp only [List.take, List.drop]
    iterate 12 (refine low_step (fun K hK => ?_); go_simp; first | (refine hK _ ?_; clear hK K) | (apply Exists.intro; refine ⟨fun p => ?_, hK _ ?_⟩; (first | with_reducible exact fsub_is _ _ _ D6.out _ | with_reducible exact fsub_is _ _ _ D7.out _ | with_reducible exact abs_is _ _ D8.out _ | with_reducible exact abs_is _ _ D9.out _); clear hK K))
    refine low_nil ?_
    intro W3 hC
    have hb := hC.1
    clear k_a_0 k_a_1 k_b_0 k_b_1 k_c_0 k_c_1
    replace B_a := B_a.below hb
    replace B_b := B_b.below hb
    replace B_c := B_c.below hb
    obtain ⟨hB', hS'⟩ := below_c (w := w) hb hB
    clear hC hb hB hS
    have hB := hB'; have hS := hS'; clear hB' hS'
    have hm := HM.out
    go_wp2_with (first | refine wpList_min2 _ rfl _ _ _ rfl _ _ _ rfl rfl ?_ | refine wpList_max2 _ rfl _ _ _ rfl _ _ _ rfl rfl ?_)
    with_reducible refine (awake02 _).mono ?_
    rintro e W4 ⟨rfl, hb⟩
    have B'_a : Bk W4 (w.heap.size) #[.int .i64 a0, .int .i64 a1] 55 := Bk.below (by (repeat (first | with_reducible assumption | ((with_reducible refine Bk.at_ ?_); first | rfl | (simp; done)) | with_reducible apply Bk.alloc))) hb
    have B'_b : Bk W4 (w.heap.size + 1) #[.int .i64 a2, .int .i64 a3] 55 := Bk.below (by (repeat (first | with_reducible assumption | ((with_reducible refine Bk.at_ ?_); first | rfl | (simp; done)) | with_reducible apply Bk.alloc))) hb
    have B'_c : Bk W4 (w.heap.size + 1 + 1) #[.int .i64 a4, .int .i64 a5] 55 := Bk.below (by (repeat (first | with_reducible assumption | ((with_reducible refine Bk.at_ ?_); first | rfl | (simp; done)) | with_reducible apply Bk.alloc))) hb
    obtain ⟨hB', hS'⟩ := below_c (w := w) hb (by (first | (go_grown; done) | (repeat (first | assumption | (refine Below.setCell ?_ (by first | assumption | (simp; omega) | omega) _) | (refine Below.alloc ?_ (by assumption) _)))))
    clear hb hB hS B_a B_b B_c
    have B_a := B'_a
    have B_b := B'_b
    have B_c := B'_c
    have hB := hB'; have hS := hS'; clear hB' hS' B'_a B'_b B'_c
    go_wp2
    go_returns
    exact ⟨rfl, by (first | (go_grown; done) | (repeat (first | assumption | (refine Below.setCell ?_ (by first | assumption | (simp; omega) | omega) _) | (refine Below.alloc ?_ (by assumption) _))))⟩
end Go.Proofs.Ytolifgjkejhlhaa
