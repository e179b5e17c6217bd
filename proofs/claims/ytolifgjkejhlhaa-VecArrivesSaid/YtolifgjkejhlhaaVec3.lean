/- The walks of the laws' own functions over points: distances within the world; the examples of chapter 02. -/
import Derived.Test.YtolifgjkejhlhaaVec2
set_option linter.unusedVariables false
set_option linter.unusedSimpArgs false
namespace Go.Proofs.Ytolifgjkejhlhaa
open Go Go.RowKit Go.Sort
attribute [local go_sem] opLow opUpon

theorem low_max {P : Program} {ops : Array Oper} {w0 : World} {Lq : Made → Act → Prop} {k : Nat} {o : Oper} {rest : List Oper} {Γ : Made} {a : Act} (x y : Operand) (ats : Array TypeId) (hw : Region.wanted o (yielded ops a.tmps) = true)
    (hop : o.op = Op.call { callee := Callee.builtin Builtin.max, args := #[x, y], argTypes := ats }) (kd : IntKind) (m n : Int) (hx : a.eval x = .int kd m) (hy : a.eval y = .int kd n)
    (h : wpLow P ops w0 Lq (k + 1) rest Γ (a.put o.dst (.int kd (max m n)))) : wpLow P ops w0 Lq k (o :: rest) Γ a := by
  refine ⟨.quiet (.int kd (max m n)), .inl ⟨hw, fun w hC => ?_⟩, h⟩
  have e : (if m < n then n else m) = max m n := by split <;> omega
  simp [execOp, hop, resolve, invoke, builtin, hx, hy, Builtin.max_, Builtin.max2, Result.andThen, e, quietUpon]
theorem abs_is (n v : Int) (h : -9223372036854775808 ≤ n ∧ n ≤ 9223372036854775807 ∧ sat (n.natAbs : Int) = v) (w : World) :
    Calls Try.prog 34 #[.int .i64 n] w fun e w' => e = .returned (.int .i64 v) ∧ Below w.heap.size w w' := by
  obtain ⟨h1, h2, rfl⟩ := h
  exact abs_any n h1 h2 w
set_option maxRecDepth 100000 in
set_option maxHeartbeats 4000000 in
theorem far_any (ax ay bx b' : Int) (hax : -4194304 ≤ ax ∧ ax ≤ 4194304) (hay : -4194304 ≤ ay ∧ ay ≤ 4194304) (hbx : -4194304 ≤ bx ∧ bx ≤ 4194304) (hb : -4194304 ≤ b' ∧ b' ≤ 4194304) (w : World) :
    Calls Try.prog 57 #[V ax ay, V bx b'] w fun e w' => e = .returned (.int .i64 (vfar (ax - bx) (ay - b'))) ∧ Below w.heap.size w w' := by
  obtain ⟨l0, u0⟩ := hax
  obtain ⟨l1, u1⟩ := hay
  obtain ⟨l2, u2⟩ := hbx
  obtain ⟨l3, u3⟩ := hb
  have A1 := Lib.hid (show -9223372036854775808 ≤ ax - bx ∧ ax - bx ≤ 9223372036854775807 ∧ sat ((ax - bx).natAbs : Int) = ((ax - bx).natAbs : Int) from ⟨by omega, by omega, sat_in _ (by omega) (by omega)⟩)
  have A2 := Lib.hid (show -9223372036854775808 ≤ ay - b' ∧ ay - b' ≤ 9223372036854775807 ∧ sat ((ay - b').natAbs : Int) = ((ay - b').natAbs : Int) from ⟨by omega, by omega, sat_in _ (by omega) (by omega)⟩)
  have s1 : IntKind.i64.wrap (ax - bx) = ax - bx := by rw [IntKind.wrap_i64]; omega
  have s2 : IntKind.i64.wrap (ay - b') = ay - b' := by rw [IntKind.wrap_i64]; omega
  go_enter Try.func57, Try.ntmps57
  go_wp2
  have o_a : w.heap.size ≤ w.heap.size := Nat.le_add_right _ 0
  have o_b : w.heap.size ≤ w.heap.size + 1 := Nat.le_add_right _ 1
  refine wp_name (fun W => Below w.heap.size w W ∧ Bk W (w.heap.size) #[.int .i64 ax, .int .i64 ay] 55 ∧ Bk W (w.heap.size + 1) #[.int .i64 bx, .int .i64 b'] 55) ⟨by (first | (go_grown; done) | (repeat (first | assumption | (refine Below.setCell ?_ (by first | assumption | (simp; omega) | omega) _) | (refine Below.alloc ?_ (by assumption) _)))), by (repeat (first | with_reducible assumption | ((with_reducible refine Bk.at_ ?_); first | rfl | (simp; done)) | with_reducible apply Bk.alloc)), by (repeat (first | with_reducible assumption | ((with_reducible refine Bk.at_ ?_); first | rfl | (simp; done)) | with_reducible apply Bk.alloc))⟩ ?_
  rintro W1 ⟨hB, B_a, B_b⟩
  have hS := hB.size
  have k_a_0 := cell_regrown (B_a.cell (v := .int .i64 ax) 0 rfl)
  have k_a_1 := cell_regrown (B_a.cell (v := .int .i64 ay) 1 rfl)
  have k_b_0 := cell_regrown (B_b.cell (v := .int .i64 bx) 0 rfl)
  have k_b_1 := cell_regrown (B_b.cell (v := .int .i64 b') 1 rfl)
  refine wp_region_low 13 (by kernel_rfl) (by kernel_rfl) ?_
  simp only [List.take, List.drop]
  iterate 12 (refine low_step (fun K hK => ?_); go_simp; first | (refine hK _ ?_; clear hK K) | (apply Exists.intro; refine ⟨fun p => ?_, hK _ ?_⟩; (first | with_reducible exact abs_is _ _ A1.out _ | with_reducible exact abs_is _ _ A2.out _); clear hK K))
  refine low_max (.tmp 10) (.tmp 16) _ (by rfl) rfl .i64 ((ax - bx).natAbs : Int) ((ay - b').natAbs : Int) rfl rfl ?_
  refine low_nil ?_
  intro W2 hC
  have hb := hC.1
  clear k_a_0 k_a_1 k_b_0 k_b_1
  replace B_a := B_a.below hb
  replace B_b := B_b.below hb
  obtain ⟨hB', hS'⟩ := below_c (w := w) hb hB
  clear hC hb hB hS
  have hB := hB'; have hS := hS'; clear hB' hS'
  go_wp2
  go_returns
  exact ⟨rfl, by (first | (go_grown; done) | (repeat (first | assumption | (refine Below.setCell ?_ (by first | assumption | (simp; omega) | omega) _) | (refine Below.alloc ?_ (by assumption) _))))⟩
theorem vdot_is (ax ay bx b' v : Int) (h : (I64 ax ∧ I64 ay ∧ I64 bx ∧ I64 b') ∧ sat (ax * bx + ay * b') = v) (w : World) :
    Calls Try.prog 59 #[V ax ay, V bx b'] w fun e w' => e = .returned (.int .i64 v) ∧ Below w.heap.size w w' := by
  obtain ⟨⟨h1, h2, h3, h4⟩, rfl⟩ := h; exact vdot_any ax ay bx b' h1 h2 h3 h4 w
theorem vcross_is (ax ay bx b' v : Int) (h : (I64 ax ∧ I64 ay ∧ I64 bx ∧ I64 b') ∧ sat (ax * b' + -(ay * bx)) = v) (w : World) :
    Calls Try.prog 50 #[V ax ay, V bx b'] w fun e w' => e = .returned (.int .i64 v) ∧ Below w.heap.size w w' := by
  obtain ⟨⟨h1, h2, h3, h4⟩, rfl⟩ := h; exact vcross_any ax ay bx b' h1 h2 h3 h4 w
theorem vside_is (ax ay bx b' px py v : Int) (h : (I64 ax ∧ I64 ay ∧ I64 bx ∧ I64 b' ∧ I64 px ∧ I64 py) ∧ vside ax ay bx b' px py = v) (w : World) :
    Calls Try.prog 47 #[V ax ay, V bx b', V px py] w fun e w' => e = .returned (.int .i64 v) ∧ Below w.heap.size w w' := by
  obtain ⟨⟨h1, h2, h3, h4, h5, h6⟩, rfl⟩ := h; exact vside_any ax ay bx b' px py h1 h2 h3 h4 h5 h6 w
theorem vdist_is (ax ay bx b' v : Int) (h : (I64 ax ∧ I64 ay ∧ I64 bx ∧ I64 b') ∧ sat (vfar (bx - ax) (b' - ay)) = v) (w : World) :
    Calls Try.prog 54 #[V ax ay, V bx b'] w fun e w' => e = .returned (.int .i64 v) ∧ Below w.heap.size w w' := by
  obtain ⟨⟨h1, h2, h3, h4⟩, rfl⟩ := h; exact vdist_any ax ay bx b' h1 h2 h3 h4 w
theorem vscale_is (ax ay n d x y : Int) (h : (I64 ax ∧ I64 ay ∧ I64 n ∧ I64 d ∧ d ≠ 0) ∧ sat (tq (ax * n) d) = x ∧ sat (tq (ay * n) d) = y) (w : World) :
    Calls Try.prog 53 #[V ax ay, .int .i64 n, .int .i64 d] w fun e w' => e = .returned (.tuple #[V x y, .int .i64 0]) ∧ Below w.heap.size w w' := by
  obtain ⟨⟨h1, h2, h3, h4, h5⟩, rfl, rfl⟩ := h; exact vscale_any ax ay n d h1 h2 h3 h4 h5 w
theorem vlen_is (ax ay r v : Int) (h : (I64 ax ∧ I64 ay) ∧ 0 ≤ r ∧ r * r ≤ ax * ax + ay * ay ∧ ax * ax + ay * ay < (r + 1) * (r + 1) ∧ sat r = v) (w : World) :
    Calls Try.prog 60 #[V ax ay] w fun e w' => e = .returned (.int .i64 v) ∧ Below w.heap.size w w' := by
  obtain ⟨⟨h1, h2⟩, h3, h4, h5, rfl⟩ := h
  have h := vlen_any ax ay h1 h2 w
  rw [rt_unique _ r h3 h4 h5] at h
  exact h
instance (x : Int) : Decidable (I64 x) := inferInstanceAs (Decidable (_ ∧ _))
set_option maxRecDepth 100000 in
set_option maxHeartbeats 8000000 in
theorem awake02 (w : World) : Calls Try.prog 52 #[] w fun e w' => e = .returned (.bool true) ∧ Below w.heap.size w w' := by
  go_enter Try.func52, Try.ntmps52
  go_wp2_with fail
  with_reducible refine (at_any _ _ _).mono ?_
  rintro e W1 ⟨rfl, hb⟩
  obtain ⟨hB', hS'⟩ := below_c (w := w) hb (by (first | (go_grown; done) | (repeat (first | assumption | (refine Below.setCell ?_ (by first | assumption | (simp; omega) | omega) _) | (refine Below.alloc ?_ (by assumption) _)))))
  clear hb
  have hB := hB'; have hS := hS'; clear hB' hS' 
  go_wp2_with fail
  with_reducible refine (vscale_is (-7) 7 1 2 (-3) 3 (by decide +kernel) _).mono ?_
  rintro e W2 ⟨rfl, hb⟩
  obtain ⟨hB', hS'⟩ := below_c (w := w) hb (by (first | (go_grown; done) | (repeat (first | assumption | (refine Below.setCell ?_ (by first | assumption | (simp; omega) | omega) _) | (refine Below.alloc ?_ (by assumption) _)))))
  clear hb hB hS
  have hB := hB'; have hS := hS'; clear hB' hS' 
  go_wp2_with fail
  with_reducible refine (at_any _ _ _).mono ?_
  rintro e W3 ⟨rfl, hb⟩
  have B'_a : Bk W3 (W2.heap.size) #[.int .i64 (-3), .int .i64 3] 55 := Bk.below (by (repeat (first | with_reducible assumption | ((with_reducible refine Bk.at_ ?_); first | rfl | (simp; done)) | with_reducible apply Bk.alloc))) hb
  obtain ⟨hB', hS'⟩ := below_c (w := w) hb (by (first | (go_grown; done) | (repeat (first | assumption | (refine Below.setCell ?_ (by first | assumption | (simp; omega) | omega) _) | (refine Below.alloc ?_ (by assumption) _)))))
  clear hb hB hS
  have B_a := B'_a
  have hB := hB'; have hS := hS'; clear hB' hS' B'_a
  go_wp2_with fail
  with_reducible refine (vscale_is 3 4 (-5) 2 (-7) (-10) (by decide +kernel) _).mono ?_
  rintro e W4 ⟨rfl, hb⟩
  have B'_a : Bk W4 (W2.heap.size) #[.int .i64 (-3), .int .i64 3] 55 := Bk.below (by (repeat (first | with_reducible assumption | ((with_reducible refine Bk.at_ ?_); first | rfl | (simp; done)) | with_reducible apply Bk.alloc))) hb
  obtain ⟨hB', hS'⟩ := below_c (w := w) hb (by (first | (go_grown; done) | (repeat (first | assumption | (refine Below.setCell ?_ (by first | assumption | (simp; omega) | omega) _) | (refine Below.alloc ?_ (by assumption) _)))))
  clear hb hB hS B_a
  have B_a := B'_a
  have hB := hB'; have hS := hS'; clear hB' hS' B'_a
  go_wp2_with fail
  refine wp_name (fun W => Below w.heap.size w W ∧ Bk W (W2.heap.size) #[.int .i64 (-3), .int .i64 3] 55 ∧ Bk W (W4.heap.size) #[.int .i64 (-7), .int .i64 (-10)] 55) ⟨by (first | (go_grown; done) | (repeat (first | assumption | (refine Below.setCell ?_ (by first | assumption | (simp; omega) | omega) _) | (refine Below.alloc ?_ (by assumption) _)))), by (repeat (first | with_reducible assumption | ((with_reducible refine Bk.at_ ?_); first | rfl | (simp; done)) | with_reducible apply Bk.alloc)), by (repeat (first | with_reducible assumption | ((with_reducible refine Bk.at_ ?_); first | rfl | (simp; done)) | with_reducible apply Bk.alloc))⟩ ?_
  clear hB hS B_a
  rintro W5 ⟨hB, B_a, B_b⟩
  have hS := hB.size
  have k_a_0 := cell_regrown (B_a.cell (v := .int .i64 (-3)) 0 rfl)
  have k_a_1 := cell_regrown (B_a.cell (v := .int .i64 3) 1 rfl)
  have k_b_0 := cell_regrown (B_b.cell (v := .int .i64 (-7)) 0 rfl)
  have k_b_1 := cell_regrown (B_b.cell (v := .int .i64 (-10)) 1 rfl)
  refine wp_region_low 27 (by kernel_rfl) (by kernel_rfl) ?_
  simp only [List.take, List.drop]
  iterate 27 (refine low_step (fun K hK => ?_); go_simp; first | (refine hK _ ?_; clear hK K) | (apply Exists.intro; refine ⟨fun p => ?_, hK _ ?_⟩; (first | with_reducible exact at_any _ _ _ | with_reducible exact vdot_is 3 4 (-2) 5 14 (by decide +kernel) _ | with_reducible exact vcross_is 3 4 (-2) 5 23 (by decide +kernel) _); clear hK K))
  refine low_nil ?_
  intro W6 hC
  have hb := hC.1
  clear k_a_0 k_a_1 k_b_0 k_b_1
  replace B_a := B_a.below hb
  replace B_b := B_b.below hb
  obtain ⟨hB', hS'⟩ := below_c (w := w) hb hB
  clear hC hb hB hS
  have hB := hB'; have hS := hS'; clear hB' hS'
  go_wp2_with fail
  with_reducible refine (at_any _ _ _).mono ?_
  rintro e W7 ⟨rfl, hb⟩
  obtain ⟨hB', hS'⟩ := below_c (w := w) hb (by (first | (go_grown; done) | (repeat (first | assumption | (refine Below.setCell ?_ (by first | assumption | (simp; omega) | omega) _) | (refine Below.alloc ?_ (by assumption) _)))))
  clear hb hB hS
  have hB := hB'; have hS := hS'; clear hB' hS' 
  go_wp2_with fail
  with_reducible refine (at_any _ _ _).mono ?_
  rintro e W8 ⟨rfl, hb⟩
  obtain ⟨hB', hS'⟩ := below_c (w := w) hb (by (first | (go_grown; done) | (repeat (first | assumption | (refine Below.setCell ?_ (by first | assumption | (simp; omega) | omega) _) | (refine Below.alloc ?_ (by assumption) _)))))
  clear hb hB hS
  have hB := hB'; have hS := hS'; clear hB' hS' 
  go_wp2_with fail
  refine wp_name (fun W => Below w.heap.size w W ∧ Bk W (W8.heap.size) #[.int .i64 0, .int .i64 0] 55 ∧ Bk W (W8.heap.size + 1) #[.int .i64 10, .int .i64 0] 55) ⟨by (first | (go_grown; done) | (repeat (first | assumption | (refine Below.setCell ?_ (by first | assumption | (simp; omega) | omega) _) | (refine Below.alloc ?_ (by assumption) _)))), by (repeat (first | with_reducible assumption | ((with_reducible refine Bk.at_ ?_); first | rfl | (simp; done)) | with_reducible apply Bk.alloc)), by (repeat (first | with_reducible assumption | ((with_reducible refine Bk.at_ ?_); first | rfl | (simp; done)) | with_reducible apply Bk.alloc))⟩ ?_
  clear hB hS 
  rintro W9 ⟨hB, B_o, B_x⟩
  have hS := hB.size
  have k_o_0 := cell_regrown (B_o.cell (v := .int .i64 0) 0 rfl)
  have k_o_1 := cell_regrown (B_o.cell (v := .int .i64 0) 1 rfl)
  have k_x_0 := cell_regrown (B_x.cell (v := .int .i64 10) 0 rfl)
  have k_x_1 := cell_regrown (B_x.cell (v := .int .i64 0) 1 rfl)
  refine wp_region_low 35 (by kernel_rfl) (by kernel_rfl) ?_
  simp only [List.take, List.drop]
  iterate 35 (refine low_step (fun K hK => ?_); go_simp; first | (refine hK _ ?_; clear hK K) | (apply Exists.intro; refine ⟨fun p => ?_, hK _ ?_⟩; (first | with_reducible exact at_any _ _ _ | with_reducible exact vside_is 0 0 10 0 5 1 1 (by decide +kernel) _ | with_reducible exact vside_is 0 0 10 0 5 (-1) (-1) (by decide +kernel) _ | with_reducible exact vside_is (-9223372036854775808) (-9223372036854775808) 9223372036854775807 9223372036854775807 0 0 0 (by decide +kernel) _ | with_reducible exact vdist_is 1 2 (-4) 4 5 (by decide +kernel) _ | with_reducible exact vlen_is (-3) 4 5 5 (by decide +kernel) _ | with_reducible exact vdist_is (-9223372036854775808) 0 9223372036854775807 0 9223372036854775807 (by decide +kernel) _); clear hK K))
  refine low_nil ?_
  intro W10 hC
  have hb := hC.1
  clear k_o_0 k_o_1 k_x_0 k_x_1
  replace B_o := B_o.below hb
  replace B_x := B_x.below hb
  obtain ⟨hB', hS'⟩ := below_c (w := w) hb hB
  clear hC hb hB hS
  have hB := hB'; have hS := hS'; clear hB' hS'
  go_wp2_with fail
  with_reducible refine (at_any _ _ _).mono ?_
  rintro e W11 ⟨rfl, hb⟩
  have B'_o : Bk W11 (W8.heap.size) #[.int .i64 0, .int .i64 0] 55 := Bk.below (by (repeat (first | with_reducible assumption | ((with_reducible refine Bk.at_ ?_); first | rfl | (simp; done)) | with_reducible apply Bk.alloc))) hb
  obtain ⟨hB', hS'⟩ := below_c (w := w) hb (by (first | (go_grown; done) | (repeat (first | assumption | (refine Below.setCell ?_ (by first | assumption | (simp; omega) | omega) _) | (refine Below.alloc ?_ (by assumption) _)))))
  clear hb hB hS B_o
  have B_o := B'_o
  have hB := hB'; have hS := hS'; clear hB' hS' B'_o
  go_wp2_with fail
  refine wp_name (fun W => Below w.heap.size w W ∧ Bk W (W8.heap.size) #[.int .i64 0, .int .i64 0] 55 ∧ Bk W (W11.heap.size) #[.int .i64 10, .int .i64 (-4)] 55) ⟨by (first | (go_grown; done) | (repeat (first | assumption | (refine Below.setCell ?_ (by first | assumption | (simp; omega) | omega) _) | (refine Below.alloc ?_ (by assumption) _)))), by (repeat (first | with_reducible assumption | ((with_reducible refine Bk.at_ ?_); first | rfl | (simp; done)) | with_reducible apply Bk.alloc)), by (repeat (first | with_reducible assumption | ((with_reducible refine Bk.at_ ?_); first | rfl | (simp; done)) | with_reducible apply Bk.alloc))⟩ ?_
  clear hB hS B_o
  rintro W12 ⟨hB, B_o, B_y⟩
  have hS := hB.size
  have k_o_0 := cell_regrown (B_o.cell (v := .int .i64 0) 0 rfl)
  have k_o_1 := cell_regrown (B_o.cell (v := .int .i64 0) 1 rfl)
  have k_y_0 := cell_regrown (B_y.cell (v := .int .i64 10) 0 rfl)
  have k_y_1 := cell_regrown (B_y.cell (v := .int .i64 (-4)) 1 rfl)
  refine wp_region_low 26 (by kernel_rfl) (by kernel_rfl) ?_
  simp only [List.take, List.drop]
  iterate 26 (refine low_step (fun K hK => ?_); go_simp; first | (refine hK _ ?_; clear hK K) | (apply Exists.intro; refine ⟨fun p => ?_, hK _ ?_⟩; (first | with_reducible exact at_any _ _ _ | with_reducible exact vtoward_is 0 0 10 (-4) 5 5 (-2) (by decide +kernel) _ | with_reducible exact vtoward_is 0 0 10 (-4) 10 10 (-4) (by decide +kernel) _ | with_reducible exact vtoward_is 0 0 10 (-4) 0 0 0 (by decide +kernel) _ | with_reducible exact vtoward_is 0 0 3 (-2) 2 2 (-1) (by decide +kernel) _); clear hK K))
  refine low_nil ?_
  intro W13 hC
  have hb := hC.1
  clear k_o_0 k_o_1 k_y_0 k_y_1
  replace B_o := B_o.below hb
  replace B_y := B_y.below hb
  obtain ⟨hB', hS'⟩ := below_c (w := w) hb hB
  clear hC hb hB hS
  have hB := hB'; have hS := hS'; clear hB' hS'
  go_wp2
  go_returns
  exact ⟨rfl, by (first | (go_grown; done) | (repeat (first | assumption | (refine Below.setCell ?_ (by first | assumption | (simp; omega) | omega) _) | (refine Below.alloc ?_ (by assumption) _))))⟩
end Go.Proofs.Ytolifgjkejhlhaa
