/- The walks of package vec, the rest: ways, distances, steps. -/
import Derived.Test.YtolifgjkejhlhaaVec
import Derived.Test.YtolifgjkejhlhaaMinMax
set_option linter.unusedVariables false
set_option linter.unusedSimpArgs false
namespace Go.Proofs.Ytolifgjkejhlhaa
open Go Go.RowKit Go.Sort
attribute [local go_sem] opLow opUpon

theorem eql_V (a b c d : Int) (w : World) : (binOp .eql 55 (V a b) (V c d)).run Try.prog w = .ok (.bool (decide (a = c ∧ b = d))) w := by
  by_cases h1 : a = c
  · by_cases h2 : b = d
    · subst h1; subst h2; simp [go_sem]
    · simp [go_sem, h1, h2]
  · simp [go_sem, h1]
theorem neq_V (a b c d : Int) (w : World) : (binOp .neq 55 (V a b) (V c d)).run Try.prog w = .ok (.bool (decide (¬ (a = c ∧ b = d)))) w := by
  by_cases h1 : a = c
  · by_cases h2 : b = d
    · subst h1; subst h2; simp [go_sem]
    · simp [go_sem, h1, h2]
  · simp [go_sem, h1]
theorem eqlv_V (a b c d : Int) (t : Bool) (h : decide (a = c ∧ b = d) = t) (w : World) : (binOp .eql 55 (V a b) (V c d)).run Try.prog w = .ok (.bool t) w := by rw [eql_V, h]
theorem neqv_V (a b c d : Int) (t : Bool) (h : decide (¬ (a = c ∧ b = d)) = t) (w : World) : (binOp .neq 55 (V a b) (V c d)).run Try.prog w = .ok (.bool t) w := by rw [neq_V, h]
theorem i64_mk {x : Int} (h1 : -9223372036854775808 ≤ x) (h2 : x ≤ 9223372036854775807) : I64 x := ⟨h1, h2⟩
theorem hiw_abs (x : Int) : hiw (x.natAbs : Int) = hiw x ∧ low (x.natAbs : Int) = low x ∧ ngw (x.natAbs : Int) = false := by
  unfold hiw low ngw
  refine ⟨by simp, by simp, by simp⟩
theorem tq_le (x y : Int) (hy : y ≠ 0) : ((tq x y).natAbs : Int) ≤ (x.natAbs : Int) := by
  have h : (x.natAbs : Int) / (y.natAbs : Int) ≤ (x.natAbs : Int) := Int.ediv_le_self _ (by omega)
  have h0 : 0 ≤ (x.natAbs : Int) / (y.natAbs : Int) := Int.ediv_nonneg (by omega) (by omega)
  unfold tq; split <;> omega
set_option maxRecDepth 100000 in
set_option maxHeartbeats 4000000 in
theorem vlen_any (ax ay : Int) (hax : I64 ax) (hay : I64 ay) (w : World) :
    Calls Try.prog 60 #[V ax ay] w fun e w' => e = .returned (.int .i64 (sat (rt (ax * ax + ay * ay)))) ∧ Below w.heap.size w w' := by
  obtain ⟨l0, u0⟩ := hax
  obtain ⟨l1, u1⟩ := hay
  go_enter Try.func60, Try.ntmps60
  go_wp2_with fail
  with_reducible refine (hyp_any _ _ (by assumption) (by assumption) (by assumption) (by assumption) _).mono ?_
  rintro e W1 ⟨rfl, hb⟩
  obtain ⟨hB', hS'⟩ := below_c (w := w) hb (by (first | (go_grown; done) | (repeat (first | assumption | (refine Below.setCell ?_ (by first | assumption | (simp; omega) | omega) _) | (refine Below.alloc ?_ (by assumption) _)))))
  clear hb
  have hB := hB'; have hS := hS'; clear hB' hS' 
  go_wp2
  go_returns
  exact ⟨rfl, by (first | (go_grown; done) | (repeat (first | assumption | (refine Below.setCell ?_ (by first | assumption | (simp; omega) | omega) _) | (refine Below.alloc ?_ (by assumption) _))))⟩
set_option maxRecDepth 100000 in
set_option maxHeartbeats 4000000 in
theorem vclamp_any (ax ay bx b' cx cy : Int) (w : World) :
    Calls Try.prog 58 #[V ax ay, V bx b', V cx cy] w fun e w' => e = .returned (V (min cx (max ax bx)) (min cy (max ay b'))) ∧ Below w.heap.size w w' := by
  go_enter Try.func58, Try.ntmps58
  go_wp2
  have o_a : w.heap.size ≤ w.heap.size := Nat.le_add_right _ 0
  have o_b : w.heap.size ≤ w.heap.size + 1 := Nat.le_add_right _ 1
  have o_c : w.heap.size ≤ w.heap.size + 1 + 1 := Nat.le_add_right _ 2
  have o_r : w.heap.size ≤ w.heap.size + 1 + 1 + 1 := Nat.le_add_right _ 3
  refine wp_name (fun W => Below w.heap.size w W ∧ Bk W (w.heap.size) #[.int .i64 ax, .int .i64 ay] 55 ∧ Bk W (w.heap.size + 1) #[.int .i64 bx, .int .i64 b'] 55 ∧ Bk W (w.heap.size + 1 + 1) #[.int .i64 cx, .int .i64 cy] 55 ∧ Bk W (w.heap.size + 1 + 1 + 1) #[.int .i64 0, .int .i64 0] 55) ⟨by (first | (go_grown; done) | (repeat (first | assumption | (refine Below.setCell ?_ (by first | assumption | (simp; omega) | omega) _) | (refine Below.alloc ?_ (by assumption) _)))), by (repeat (first | with_reducible assumption | ((with_reducible refine Bk.at_ ?_); first | rfl | (simp; done)) | with_reducible apply Bk.alloc)), by (repeat (first | with_reducible assumption | ((with_reducible refine Bk.at_ ?_); first | rfl | (simp; done)) | with_reducible apply Bk.alloc)), by (repeat (first | with_reducible assumption | ((with_reducible refine Bk.at_ ?_); first | rfl | (simp; done)) | with_reducible apply Bk.alloc)), by (repeat (first | with_reducible assumption | ((with_reducible refine Bk.at_ ?_); first | rfl | (simp; done)) | with_reducible apply Bk.alloc))⟩ ?_
  rintro W1 ⟨hB, B_a, B_b, B_c, B_r⟩
  have hS := hB.size
  have k_a_0 := cell_regrown (B_a.cell (v := .int .i64 ax) 0 rfl)
  have k_a_1 := cell_regrown (B_a.cell (v := .int .i64 ay) 1 rfl)
  have k_b_0 := cell_regrown (B_b.cell (v := .int .i64 bx) 0 rfl)
  have k_b_1 := cell_regrown (B_b.cell (v := .int .i64 b') 1 rfl)
  have k_c_0 := cell_regrown (B_c.cell (v := .int .i64 cx) 0 rfl)
  have k_c_1 := cell_regrown (B_c.cell (v := .int .i64 cy) 1 rfl)
  have k_r_0 := cell_regrown (B_r.cell (v := .int .i64 0) 0 rfl)
  have k_r_1 := cell_regrown (B_r.cell (v := .int .i64 0) 1 rfl)
  refine wp_region_low 15 (by kernel_rfl) (by kernel_rfl) ?_
  simp only [List.take, List.drop]
  iterate 15 (refine low_step (fun K hK => ?_); go_simp; first | (refine hK _ ?_; clear hK K) | (apply Exists.intro; refine ⟨fun p => ?_, hK _ ?_⟩; (first | with_reducible exact clamp_any _ _ _ _); clear hK K))
  refine low_nil ?_
  intro W2 hC
  have hb := hC.1
  clear k_a_0 k_a_1 k_b_0 k_b_1 k_c_0 k_c_1 k_r_0 k_r_1
  replace B_a := B_a.below hb
  replace B_b := B_b.below hb
  replace B_c := B_c.below hb
  replace B_r := B_r.below hb
  obtain ⟨hB', hS'⟩ := below_c (w := w) hb hB
  clear hC hb hB hS
  have hB := hB'; have hS := hS'; clear hB' hS'
  have c_r_0 := B_r.cell (v := .int .i64 0) 0 rfl
  have c_r_1 := B_r.cell (v := .int .i64 0) 1 rfl
  have lt_r := B_r.lt
  have f_r_0 := B_r.free 0
  have f_r_1 := B_r.free 1
  go_wp2
  refine post_name (fun W => Below w.heap.size w W ∧ Bk W (w.heap.size + 1 + 1 + 1) #[.int .i64 (min cx (max ax bx)), .int .i64 (min cy (max ay b'))] 55) ⟨(Below.setCell (p := ⟨w.heap.size + 1 + 1 + 1, 1, none⟩) (Below.setCell (p := ⟨w.heap.size + 1 + 1 + 1, 0, none⟩) hB o_r _) o_r _), (Bk.put (Bk.put B_r 0 _) 1 _)⟩ ?_
  clear c_r_0 c_r_1 lt_r f_r_0 f_r_1
  clear hB hS B_r
  rintro W3 ⟨hB, B_r⟩
  have hS := hB.size
  have c_r_0 := B_r.cell (v := .int .i64 (min cx (max ax bx))) 0 rfl
  have c_r_1 := B_r.cell (v := .int .i64 (min cy (max ay b'))) 1 rfl
  have lt_r := B_r.lt
  refine bodyPost_ret (v := V (min cx (max ax bx)) (min cy (max ay b'))) (by simp [results, Try.results58, go_sem, c_r_0, c_r_1]; try rfl) rfl ⟨rfl, by (first | (go_grown; done) | (repeat (first | assumption | (refine Below.setCell ?_ (by first | assumption | (simp; omega) | omega) _) | (refine Below.alloc ?_ (by assumption) _))))⟩
set_option maxRecDepth 100000 in
set_option maxHeartbeats 4000000 in
theorem vscale_zero (ax ay n : Int) (w : World) :
    Calls Try.prog 53 #[V ax ay, .int .i64 n, .int .i64 0] w fun e w' => e = .returned (.tuple #[V 0 0, .int .i64 10]) ∧ Below w.heap.size w w' := by
  go_enter Try.func53, Try.ntmps53
  go_wp2
  refine bodyPost_ret (v := .tuple #[V 0 0, .int .i64 10]) (by simp [results, Try.results53, go_sem]; try rfl) rfl ⟨rfl, by (first | (go_grown; done) | (repeat (first | assumption | (refine Below.setCell ?_ (by first | assumption | (simp; omega) | omega) _) | (refine Below.alloc ?_ (by assumption) _))))⟩
set_option maxRecDepth 100000 in
set_option maxHeartbeats 4000000 in
theorem vscale_any (ax ay n d : Int) (hax : I64 ax) (hay : I64 ay) (hn : I64 n) (hd : I64 d) (hnz : d ≠ 0) (w : World) :
    Calls Try.prog 53 #[V ax ay, .int .i64 n, .int .i64 d] w fun e w' => e = .returned (.tuple #[V (sat (tq (ax * n) d)) (sat (tq (ay * n) d)), .int .i64 0]) ∧ Below w.heap.size w w' := by
  obtain ⟨l0, u0⟩ := hax
  obtain ⟨l1, u1⟩ := hay
  obtain ⟨l2, u2⟩ := hn
  obtain ⟨l3, u3⟩ := hd
  have hp1 := natAbs_mul_lt ax n 9223372036854775808 9223372036854775808 (by omega) (by omega)
  have hp2 := natAbs_mul_lt ay n 9223372036854775808 9223372036854775808 (by omega) (by omega)
  have hd0 : (d == 0) = false := by simpa using hnz
  have hq1 := tq_le (ax * n) d hnz
  have hq2 := tq_le (ay * n) d hnz
  go_enter Try.func53, Try.ntmps53
  go_wp2_with fail
  with_reducible refine (of_any _ (by assumption) (by assumption) _).mono ?_
  rintro e W1 ⟨rfl, hb⟩
  have o_a : w.heap.size ≤ w.heap.size := Nat.le_add_right _ 0
  have o_r : w.heap.size ≤ w.heap.size + 1 := Nat.le_add_right _ 1
  have B'_a : Bk W1 (w.heap.size) #[.int .i64 ax, .int .i64 ay] 55 := Bk.below (by (repeat (first | with_reducible assumption | ((with_reducible refine Bk.at_ ?_); first | rfl | (simp; done)) | with_reducible apply Bk.alloc))) hb
  have B'_r : Bk W1 (w.heap.size + 1) #[.int .i64 0, .int .i64 0] 55 := Bk.below (by (repeat (first | with_reducible assumption | ((with_reducible refine Bk.at_ ?_); first | rfl | (simp; done)) | with_reducible apply Bk.alloc))) hb
  obtain ⟨hB', hS'⟩ := below_c (w := w) hb (by (first | (go_grown; done) | (repeat (first | assumption | (refine Below.setCell ?_ (by first | assumption | (simp; omega) | omega) _) | (refine Below.alloc ?_ (by assumption) _)))))
  clear hb
  have B_a := B'_a
  have B_r := B'_r
  have hB := hB'; have hS := hS'; clear hB' hS' B'_a B'_r
  go_wp2_with fail
  with_reducible refine (of_any _ (by assumption) (by assumption) _).mono ?_
  rintro e W2 ⟨rfl, hb⟩
  have B'_a : Bk W2 (w.heap.size) #[.int .i64 ax, .int .i64 ay] 55 := Bk.below (by (repeat (first | with_reducible assumption | ((with_reducible refine Bk.at_ ?_); first | rfl | (simp; done)) | with_reducible apply Bk.alloc))) hb
  have B'_r : Bk W2 (w.heap.size + 1) #[.int .i64 0, .int .i64 0] 55 := Bk.below (by (repeat (first | with_reducible assumption | ((with_reducible refine Bk.at_ ?_); first | rfl | (simp; done)) | with_reducible apply Bk.alloc))) hb
  obtain ⟨hB', hS'⟩ := below_c (w := w) hb (by (first | (go_grown; done) | (repeat (first | assumption | (refine Below.setCell ?_ (by first | assumption | (simp; omega) | omega) _) | (refine Below.alloc ?_ (by assumption) _)))))
  clear hb hB hS B_a B_r
  have B_a := B'_a
  have B_r := B'_r
  have hB := hB'; have hS := hS'; clear hB' hS' B'_a B'_r
  go_wp2_with fail
  refine wp_name (fun W => Below w.heap.size w W ∧ Bk W (w.heap.size) #[.int .i64 ax, .int .i64 ay] 55 ∧ Bk W (w.heap.size + 1) #[.int .i64 0, .int .i64 0] 55 ∧ Bk W (W2.heap.size) #[.int .u64 (hiw (n)), .int .u64 (low (n)), .bool (ngw (n))] 99 ∧ Bk W (W2.heap.size + 1) #[.int .u64 (hiw (d)), .int .u64 (low (d)), .bool (ngw (d))] 99) ⟨by (first | (go_grown; done) | (repeat (first | assumption | (refine Below.setCell ?_ (by first | assumption | (simp; omega) | omega) _) | (refine Below.alloc ?_ (by assumption) _)))), by (repeat (first | with_reducible assumption | ((with_reducible refine Bk.at_ ?_); first | rfl | (simp; done)) | with_reducible apply Bk.alloc)), by (repeat (first | with_reducible assumption | ((with_reducible refine Bk.at_ ?_); first | rfl | (simp; done)) | with_reducible apply Bk.alloc)), by (repeat (first | with_reducible assumption | ((with_reducible refine Bk.at_ ?_); first | rfl | (simp; done)) | with_reducible apply Bk.alloc)), by (repeat (first | with_reducible assumption | ((with_reducible refine Bk.at_ ?_); first | rfl | (simp; done)) | with_reducible apply Bk.alloc))⟩ ?_
  clear hB hS B_a B_r
  rintro W3 ⟨hB, B_a, B_r, B_n, B_d⟩
  have hS := hB.size
  have k_a_0 := cell_regrown (B_a.cell (v := .int .i64 ax) 0 rfl)
  have k_a_1 := cell_regrown (B_a.cell (v := .int .i64 ay) 1 rfl)
  have k_r_0 := cell_regrown (B_r.cell (v := .int .i64 0) 0 rfl)
  have k_r_1 := cell_regrown (B_r.cell (v := .int .i64 0) 1 rfl)
  have k_n_0 := cell_regrown (B_n.cell (v := .int .u64 (hiw (n))) 0 rfl)
  have k_n_1 := cell_regrown (B_n.cell (v := .int .u64 (low (n))) 1 rfl)
  have k_n_2 := cell_regrown (B_n.cell (v := .bool (ngw (n))) 2 rfl)
  have k_d_0 := cell_regrown (B_d.cell (v := .int .u64 (hiw (d))) 0 rfl)
  have k_d_1 := cell_regrown (B_d.cell (v := .int .u64 (low (d))) 1 rfl)
  have k_d_2 := cell_regrown (B_d.cell (v := .bool (ngw (d))) 2 rfl)
  refine wp_region_low 8 (by kernel_rfl) (by kernel_rfl) ?_
  simp only [List.take, List.drop]
  iterate 7 (refine low_step (fun K hK => ?_); go_simp; first | (refine hK _ ?_; clear hK K) | (apply Exists.intro; refine ⟨fun p => ?_, hK _ ?_⟩; (first | with_reducible exact of_any _ (by assumption) (by assumption) _ | with_reducible exact mul_W _ _ (by omega) (by omega) (by omega) (by omega) _ | with_reducible exact trunc_any _ _ (by omega) (by omega) hnz (by omega) (by omega) _); clear hK K))
  refine low_new (.cells #[.int .u64 0, .int .u64 0, .bool false] 99) (by rfl) (fun w => by go_simp) ?_
  intro g_x
  refine low_nil ?_
  intro W4 hC
  have hb := hC.1
  clear k_a_0 k_a_1 k_r_0 k_r_1 k_n_0 k_n_1 k_n_2 k_d_0 k_d_1 k_d_2
  have lu_a := B_a.lt
  have lu_r := B_r.lt
  have lu_n := B_n.lt
  have lu_d := B_d.lt
  replace B_a := B_a.below hb
  replace B_r := B_r.below hb
  replace B_n := B_n.below hb
  replace B_d := B_d.below hb
  obtain ⟨B_x, z_x⟩ := cls_bk (i := 7) hC rfl
  obtain ⟨hB', hS'⟩ := below_c (w := w) hb hB
  have o_x : w.heap.size ≤ g_x := Nat.le_trans hS z_x
  have n_a_x : w.heap.size ≠ g_x := by omega
  have n_r_x : w.heap.size + 1 ≠ g_x := by omega
  have n_n_x : W2.heap.size ≠ g_x := by omega
  have n_d_x : W2.heap.size + 1 ≠ g_x := by omega
  clear lu_a lu_r lu_n lu_d
  clear hC hb hB hS
  have hB := hB'; have hS := hS'; clear hB' hS'
  have c_x_0 := B_x.cell (v := .int .u64 0) 0 rfl
  have c_x_1 := B_x.cell (v := .int .u64 0) 1 rfl
  have c_x_2 := B_x.cell (v := .bool false) 2 rfl
  have lt_x := B_x.lt
  have f_x_0 := B_x.free 0
  have f_x_1 := B_x.free 1
  have f_x_2 := B_x.free 2
  go_wp2
  refine wp_name (fun W => Below w.heap.size w W ∧ Bk W (w.heap.size) #[.int .i64 ax, .int .i64 ay] 55 ∧ Bk W (w.heap.size + 1) #[.int .i64 0, .int .i64 0] 55 ∧ Bk W (W2.heap.size) #[.int .u64 (hiw (n)), .int .u64 (low (n)), .bool (ngw (n))] 99 ∧ Bk W (W2.heap.size + 1) #[.int .u64 (hiw (d)), .int .u64 (low (d)), .bool (ngw (d))] 99 ∧ Bk W (g_x) #[.int .u64 (hiw (tq (ax * n) d)), .int .u64 (low (tq (ax * n) d)), .bool (ngw (tq (ax * n) d))] 99) ⟨(Below.setCell (p := ⟨g_x, 2, none⟩) (Below.setCell (p := ⟨g_x, 1, none⟩) (Below.setCell (p := ⟨g_x, 0, none⟩) hB o_x _) o_x _) o_x _), (Bk.far (Bk.far (Bk.far B_a (by first | assumption | (simp; done) | (exact Ne.symm (by assumption)) | (simp; omega)) _) (by first | assumption | (simp; done) | (exact Ne.symm (by assumption)) | (simp; omega)) _) (by first | assumption | (simp; done) | (exact Ne.symm (by assumption)) | (simp; omega)) _), (Bk.far (Bk.far (Bk.far B_r (by first | assumption | (simp; done) | (exact Ne.symm (by assumption)) | (simp; omega)) _) (by first | assumption | (simp; done) | (exact Ne.symm (by assumption)) | (simp; omega)) _) (by first | assumption | (simp; done) | (exact Ne.symm (by assumption)) | (simp; omega)) _), (Bk.far (Bk.far (Bk.far B_n (by first | assumption | (simp; done) | (exact Ne.symm (by assumption)) | (simp; omega)) _) (by first | assumption | (simp; done) | (exact Ne.symm (by assumption)) | (simp; omega)) _) (by first | assumption | (simp; done) | (exact Ne.symm (by assumption)) | (simp; omega)) _), (Bk.far (Bk.far (Bk.far B_d (by first | assumption | (simp; done) | (exact Ne.symm (by assumption)) | (simp; omega)) _) (by first | assumption | (simp; done) | (exact Ne.symm (by assumption)) | (simp; omega)) _) (by first | assumption | (simp; done) | (exact Ne.symm (by assumption)) | (simp; omega)) _), (Bk.put (Bk.put (Bk.put B_x 0 _) 1 _) 2 _)⟩ ?_
  clear c_x_0 c_x_1 c_x_2 lt_x f_x_0 f_x_1 f_x_2
  clear hB hS B_a B_r B_n B_d B_x
  rintro W5 ⟨hB, B_a, B_r, B_n, B_d, B_x⟩
  have hS := hB.size
  have k_a_0 := cell_regrown (B_a.cell (v := .int .i64 ax) 0 rfl)
  have k_a_1 := cell_regrown (B_a.cell (v := .int .i64 ay) 1 rfl)
  have k_r_0 := cell_regrown (B_r.cell (v := .int .i64 0) 0 rfl)
  have k_r_1 := cell_regrown (B_r.cell (v := .int .i64 0) 1 rfl)
  have k_n_0 := cell_regrown (B_n.cell (v := .int .u64 (hiw (n))) 0 rfl)
  have k_n_1 := cell_regrown (B_n.cell (v := .int .u64 (low (n))) 1 rfl)
  have k_n_2 := cell_regrown (B_n.cell (v := .bool (ngw (n))) 2 rfl)
  have k_d_0 := cell_regrown (B_d.cell (v := .int .u64 (hiw (d))) 0 rfl)
  have k_d_1 := cell_regrown (B_d.cell (v := .int .u64 (low (d))) 1 rfl)
  have k_d_2 := cell_regrown (B_d.cell (v := .bool (ngw (d))) 2 rfl)
  have k_x_0 := cell_regrown (B_x.cell (v := .int .u64 (hiw (tq (ax * n) d))) 0 rfl)
  have k_x_1 := cell_regrown (B_x.cell (v := .int .u64 (low (tq (ax * n) d))) 1 rfl)
  have k_x_2 := cell_regrown (B_x.cell (v := .bool (ngw (tq (ax * n) d))) 2 rfl)
  refine wp_region_low 8 (by kernel_rfl) (by kernel_rfl) ?_
  simp only [List.take, List.drop]
  iterate 7 (refine low_step (fun K hK => ?_); go_simp; first | (refine hK _ ?_; clear hK K) | (apply Exists.intro; refine ⟨fun p => ?_, hK _ ?_⟩; (first | with_reducible exact of_any _ (by assumption) (by assumption) _ | with_reducible exact mul_W _ _ (by omega) (by omega) (by omega) (by omega) _ | with_reducible exact trunc_any _ _ (by omega) (by omega) hnz (by omega) (by omega) _); clear hK K))
  refine low_new (.cells #[.int .u64 0, .int .u64 0, .bool false] 99) (by rfl) (fun w => by go_simp) ?_
  intro g_y
  refine low_nil ?_
  intro W6 hC
  have hb := hC.1
  clear k_a_0 k_a_1 k_r_0 k_r_1 k_n_0 k_n_1 k_n_2 k_d_0 k_d_1 k_d_2 k_x_0 k_x_1 k_x_2
  have lu_a := B_a.lt
  have lu_r := B_r.lt
  have lu_n := B_n.lt
  have lu_d := B_d.lt
  have lu_x := B_x.lt
  replace B_a := B_a.below hb
  replace B_r := B_r.below hb
  replace B_n := B_n.below hb
  replace B_d := B_d.below hb
  replace B_x := B_x.below hb
  obtain ⟨B_y, z_y⟩ := cls_bk (i := 7) hC rfl
  obtain ⟨hB', hS'⟩ := below_c (w := w) hb hB
  have o_y : w.heap.size ≤ g_y := Nat.le_trans hS z_y
  have n_a_y : w.heap.size ≠ g_y := by omega
  have n_r_y : w.heap.size + 1 ≠ g_y := by omega
  have n_n_y : W2.heap.size ≠ g_y := by omega
  have n_d_y : W2.heap.size + 1 ≠ g_y := by omega
  have n_x_y : g_x ≠ g_y := by omega
  clear lu_a lu_r lu_n lu_d lu_x
  clear hC hb hB hS
  have hB := hB'; have hS := hS'; clear hB' hS'
  have c_y_0 := B_y.cell (v := .int .u64 0) 0 rfl
  have c_y_1 := B_y.cell (v := .int .u64 0) 1 rfl
  have c_y_2 := B_y.cell (v := .bool false) 2 rfl
  have lt_y := B_y.lt
  have f_y_0 := B_y.free 0
  have f_y_1 := B_y.free 1
  have f_y_2 := B_y.free 2
  go_wp2
  refine wp_name (fun W => Below w.heap.size w W ∧ Bk W (w.heap.size + 1) #[.int .i64 0, .int .i64 0] 55 ∧ Bk W (g_x) #[.int .u64 (hiw (tq (ax * n) d)), .int .u64 (low (tq (ax * n) d)), .bool (ngw (tq (ax * n) d))] 99 ∧ Bk W (g_y) #[.int .u64 (hiw (tq (ay * n) d)), .int .u64 (low (tq (ay * n) d)), .bool (ngw (tq (ay * n) d))] 99) ⟨(Below.setCell (p := ⟨g_y, 2, none⟩) (Below.setCell (p := ⟨g_y, 1, none⟩) (Below.setCell (p := ⟨g_y, 0, none⟩) hB o_y _) o_y _) o_y _), (Bk.far (Bk.far (Bk.far B_r (by first | assumption | (simp; done) | (exact Ne.symm (by assumption)) | (simp; omega)) _) (by first | assumption | (simp; done) | (exact Ne.symm (by assumption)) | (simp; omega)) _) (by first | assumption | (simp; done) | (exact Ne.symm (by assumption)) | (simp; omega)) _), (Bk.far (Bk.far (Bk.far B_x (by first | assumption | (simp; done) | (exact Ne.symm (by assumption)) | (simp; omega)) _) (by first | assumption | (simp; done) | (exact Ne.symm (by assumption)) | (simp; omega)) _) (by first | assumption | (simp; done) | (exact Ne.symm (by assumption)) | (simp; omega)) _), (Bk.put (Bk.put (Bk.put B_y 0 _) 1 _) 2 _)⟩ ?_
  clear c_y_0 c_y_1 c_y_2 lt_y f_y_0 f_y_1 f_y_2
  clear hB hS B_r B_x B_y
  rintro W7 ⟨hB, B_r, B_x, B_y⟩
  have hS := hB.size
  have k_r_0 := cell_regrown (B_r.cell (v := .int .i64 0) 0 rfl)
  have k_r_1 := cell_regrown (B_r.cell (v := .int .i64 0) 1 rfl)
  have k_x_0 := cell_regrown (B_x.cell (v := .int .u64 (hiw (tq (ax * n) d))) 0 rfl)
  have k_x_1 := cell_regrown (B_x.cell (v := .int .u64 (low (tq (ax * n) d))) 1 rfl)
  have k_x_2 := cell_regrown (B_x.cell (v := .bool (ngw (tq (ax * n) d))) 2 rfl)
  have k_y_0 := cell_regrown (B_y.cell (v := .int .u64 (hiw (tq (ay * n) d))) 0 rfl)
  have k_y_1 := cell_regrown (B_y.cell (v := .int .u64 (low (tq (ay * n) d))) 1 rfl)
  have k_y_2 := cell_regrown (B_y.cell (v := .bool (ngw (tq (ay * n) d))) 2 rfl)
  refine wp_region_low 5 (by kernel_rfl) (by kernel_rfl) ?_
  simp only [List.take, List.drop]
  iterate 5 (refine low_step (fun K hK => ?_); go_simp; first | (refine hK _ ?_; clear hK K) | (apply Exists.intro; refine ⟨fun p => ?_, hK _ ?_⟩; (first | with_reducible exact sat_any _ (by omega) (by omega) _); clear hK K))
  refine low_nil ?_
  intro W8 hC
  have hb := hC.1
  clear k_r_0 k_r_1 k_x_0 k_x_1 k_x_2 k_y_0 k_y_1 k_y_2
  replace B_r := B_r.below hb
  replace B_x := B_x.below hb
  replace B_y := B_y.below hb
  obtain ⟨hB', hS'⟩ := below_c (w := w) hb hB
  clear hC hb hB hS
  have hB := hB'; have hS := hS'; clear hB' hS'
  have c_r_0 := B_r.cell (v := .int .i64 0) 0 rfl
  have c_r_1 := B_r.cell (v := .int .i64 0) 1 rfl
  have lt_r := B_r.lt
  have f_r_0 := B_r.free 0
  have f_r_1 := B_r.free 1
  go_wp2
  refine post_name (fun W => Below w.heap.size w W ∧ Bk W (w.heap.size + 1) #[.int .i64 (sat (tq (ax * n) d)), .int .i64 (sat (tq (ay * n) d))] 55) ⟨(Below.setCell (p := ⟨w.heap.size + 1, 1, none⟩) (Below.setCell (p := ⟨w.heap.size + 1, 0, none⟩) hB o_r _) o_r _), (Bk.put (Bk.put B_r 0 _) 1 _)⟩ ?_
  clear c_r_0 c_r_1 lt_r f_r_0 f_r_1
  clear hB hS B_r
  rintro W9 ⟨hB, B_r⟩
  have hS := hB.size
  have c_r_0 := B_r.cell (v := .int .i64 (sat (tq (ax * n) d))) 0 rfl
  have c_r_1 := B_r.cell (v := .int .i64 (sat (tq (ay * n) d))) 1 rfl
  have lt_r := B_r.lt
  refine bodyPost_ret (v := .tuple #[V (sat (tq (ax * n) d)) (sat (tq (ay * n) d)), .int .i64 0]) (by simp [results, Try.results53, go_sem, c_r_0, c_r_1]; try rfl) rfl ⟨rfl, by (first | (go_grown; done) | (repeat (first | assumption | (refine Below.setCell ?_ (by first | assumption | (simp; omega) | omega) _) | (refine Below.alloc ?_ (by assumption) _))))⟩
set_option maxRecDepth 100000 in
set_option maxHeartbeats 4000000 in
theorem vway_any (ax ay bx b' : Int) (hax : I64 ax) (hay : I64 ay) (hbx : I64 bx) (hb : I64 b') (w : World) :
    Calls Try.prog 83 #[V ax ay, V bx b'] w fun e w' => e = .returned (.tuple #[W (bx - ax), W (b' - ay), W (vfar (bx - ax) (b' - ay))]) ∧ Below w.heap.size w w' := by
  obtain ⟨l0, u0⟩ := hax
  obtain ⟨l1, u1⟩ := hay
  obtain ⟨l2, u2⟩ := hbx
  obtain ⟨l3, u3⟩ := hb
  by_cases hl : ((bx - ax).natAbs : Int) < ((b' - ay).natAbs : Int)
  · have HF := Lib.hid (show W (vfar (bx - ax) (b' - ay)) = .agg #[.int .u64 (hiw (b' - ay)), .int .u64 (low (b' - ay)), .bool false] by
      rw [show vfar (bx - ax) (b' - ay) = ((b' - ay).natAbs : Int) by unfold vfar; omega]
      show Value.agg #[_, _, _] = _
      rw [(hiw_abs (b' - ay)).1, (hiw_abs (b' - ay)).2.1, (hiw_abs (b' - ay)).2.2])
    have hlt := decide_eq_true hl
    replace hlt := Lib.hid hlt
    clear hl
    go_enter Try.func83, Try.ntmps83
    go_wp2
    have o_a : w.heap.size ≤ w.heap.size := Nat.le_add_right _ 0
    have o_b : w.heap.size ≤ w.heap.size + 1 := Nat.le_add_right _ 1
    have o_x : w.heap.size ≤ w.heap.size + 1 + 1 := Nat.le_add_right _ 2
    have o_y : w.heap.size ≤ w.heap.size + 1 + 1 + 1 := Nat.le_add_right _ 3
    have o_f : w.heap.size ≤ w.heap.size + 1 + 1 + 1 + 1 := Nat.le_add_right _ 4
    refine wp_name (fun W => Below w.heap.size w W ∧ Bk W (w.heap.size) #[.int .i64 ax, .int .i64 ay] 55 ∧ Bk W (w.heap.size + 1) #[.int .i64 bx, .int .i64 b'] 55 ∧ Bk W (w.heap.size + 1 + 1) #[.int .u64 0, .int .u64 0, .bool false] 99 ∧ Bk W (w.heap.size + 1 + 1 + 1) #[.int .u64 0, .int .u64 0, .bool false] 99 ∧ Bk W (w.heap.size + 1 + 1 + 1 + 1) #[.int .u64 0, .int .u64 0, .bool false] 99) ⟨by (first | (go_grown; done) | (repeat (first | assumption | (refine Below.setCell ?_ (by first | assumption | (simp; omega) | omega) _) | (refine Below.alloc ?_ (by assumption) _)))), by (repeat (first | with_reducible assumption | ((with_reducible refine Bk.at_ ?_); first | rfl | (simp; done)) | with_reducible apply Bk.alloc)), by (repeat (first | with_reducible assumption | ((with_reducible refine Bk.at_ ?_); first | rfl | (simp; done)) | with_reducible apply Bk.alloc)), by (repeat (first | with_reducible assumption | ((with_reducible refine Bk.at_ ?_); first | rfl | (simp; done)) | with_reducible apply Bk.alloc)), by (repeat (first | with_reducible assumption | ((with_reducible refine Bk.at_ ?_); first | rfl | (simp; done)) | with_reducible apply Bk.alloc)), by (repeat (first | with_reducible assumption | ((with_reducible refine Bk.at_ ?_); first | rfl | (simp; done)) | with_reducible apply Bk.alloc))⟩ ?_
    rintro W1 ⟨hB, B_a, B_b, B_x, B_y, B_f⟩
    have hS := hB.size
    have k_a_0 := cell_regrown (B_a.cell (v := .int .i64 ax) 0 rfl)
    have k_a_1 := cell_regrown (B_a.cell (v := .int .i64 ay) 1 rfl)
    have k_b_0 := cell_regrown (B_b.cell (v := .int .i64 bx) 0 rfl)
    have k_b_1 := cell_regrown (B_b.cell (v := .int .i64 b') 1 rfl)
    have k_x_0 := cell_regrown (B_x.cell (v := .int .u64 0) 0 rfl)
    have k_x_1 := cell_regrown (B_x.cell (v := .int .u64 0) 1 rfl)
    have k_x_2 := cell_regrown (B_x.cell (v := .bool false) 2 rfl)
    have k_y_0 := cell_regrown (B_y.cell (v := .int .u64 0) 0 rfl)
    have k_y_1 := cell_regrown (B_y.cell (v := .int .u64 0) 1 rfl)
    have k_y_2 := cell_regrown (B_y.cell (v := .bool false) 2 rfl)
    have k_f_0 := cell_regrown (B_f.cell (v := .int .u64 0) 0 rfl)
    have k_f_1 := cell_regrown (B_f.cell (v := .int .u64 0) 1 rfl)
    have k_f_2 := cell_regrown (B_f.cell (v := .bool false) 2 rfl)
    refine wp_region_low 10 (by kernel_rfl) (by kernel_rfl) ?_
    simp only [List.take, List.drop]
    iterate 10 (refine low_step (fun K hK => ?_); go_simp; first | (refine hK _ ?_; clear hK K) | (apply Exists.intro; refine ⟨fun p => ?_, hK _ ?_⟩; (first | with_reducible exact diff_any _ _ (by assumption) (by assumption) (by assumption) (by assumption) _); clear hK K))
    refine low_nil ?_
    intro W2 hC
    have hb := hC.1
    clear k_a_0 k_a_1 k_b_0 k_b_1 k_x_0 k_x_1 k_x_2 k_y_0 k_y_1 k_y_2 k_f_0 k_f_1 k_f_2
    replace B_a := B_a.below hb
    replace B_b := B_b.below hb
    replace B_x := B_x.below hb
    replace B_y := B_y.below hb
    replace B_f := B_f.below hb
    obtain ⟨hB', hS'⟩ := below_c (w := w) hb hB
    clear hC hb hB hS
    have hB := hB'; have hS := hS'; clear hB' hS'
    have c_x_0 := B_x.cell (v := .int .u64 0) 0 rfl
    have c_x_1 := B_x.cell (v := .int .u64 0) 1 rfl
    have c_x_2 := B_x.cell (v := .bool false) 2 rfl
    have lt_x := B_x.lt
    have f_x_0 := B_x.free 0
    have f_x_1 := B_x.free 1
    have f_x_2 := B_x.free 2
    have c_y_0 := B_y.cell (v := .int .u64 0) 0 rfl
    have c_y_1 := B_y.cell (v := .int .u64 0) 1 rfl
    have c_y_2 := B_y.cell (v := .bool false) 2 rfl
    have lt_y := B_y.lt
    have f_y_0 := B_y.free 0
    have f_y_1 := B_y.free 1
    have f_y_2 := B_y.free 2
    have c_f_0 := B_f.cell (v := .int .u64 0) 0 rfl
    have c_f_1 := B_f.cell (v := .int .u64 0) 1 rfl
    have c_f_2 := B_f.cell (v := .bool false) 2 rfl
    have lt_f := B_f.lt
    have f_f_0 := B_f.free 0
    have f_f_1 := B_f.free 1
    have f_f_2 := B_f.free 2
    go_wp2_with fail
    with_reducible refine (lesw_is (bx - ax) (b' - ay) _ hlt.out _).mono ?_
    rintro e W3 ⟨rfl, hb⟩
    clear c_x_0 c_x_1 c_x_2 lt_x f_x_0 f_x_1 f_x_2 c_y_0 c_y_1 c_y_2 lt_y f_y_0 f_y_1 f_y_2 c_f_0 c_f_1 c_f_2 lt_f f_f_0 f_f_1 f_f_2
    have o_x : w.heap.size ≤ w.heap.size + 1 + 1 := Nat.le_add_right _ 2
    have o_y : w.heap.size ≤ w.heap.size + 1 + 1 + 1 := Nat.le_add_right _ 3
    have o_f : w.heap.size ≤ w.heap.size + 1 + 1 + 1 + 1 := Nat.le_add_right _ 4
    have B'_x : Bk W3 (w.heap.size + 1 + 1) #[.int .u64 (hiw (bx - ax)), .int .u64 (low (bx - ax)), .bool (ngw (bx - ax))] 99 := Bk.below ((Bk.far (Bk.far (Bk.far (Bk.far (Bk.far (Bk.far (Bk.put (Bk.put (Bk.put B_x 0 _) 1 _) 2 _) (by first | assumption | (simp; done) | (exact Ne.symm (by assumption)) | (simp; omega)) _) (by first | assumption | (simp; done) | (exact Ne.symm (by assumption)) | (simp; omega)) _) (by first | assumption | (simp; done) | (exact Ne.symm (by assumption)) | (simp; omega)) _) (by first | assumption | (simp; done) | (exact Ne.symm (by assumption)) | (simp; omega)) _) (by first | assumption | (simp; done) | (exact Ne.symm (by assumption)) | (simp; omega)) _) (by first | assumption | (simp; done) | (exact Ne.symm (by assumption)) | (simp; omega)) _)) hb
    have B'_y : Bk W3 (w.heap.size + 1 + 1 + 1) #[.int .u64 (hiw (b' - ay)), .int .u64 (low (b' - ay)), .bool (ngw (b' - ay))] 99 := Bk.below ((Bk.far (Bk.far (Bk.far (Bk.put (Bk.put (Bk.put (Bk.far (Bk.far (Bk.far B_y (by first | assumption | (simp; done) | (exact Ne.symm (by assumption)) | (simp; omega)) _) (by first | assumption | (simp; done) | (exact Ne.symm (by assumption)) | (simp; omega)) _) (by first | assumption | (simp; done) | (exact Ne.symm (by assumption)) | (simp; omega)) _) 0 _) 1 _) 2 _) (by first | assumption | (simp; done) | (exact Ne.symm (by assumption)) | (simp; omega)) _) (by first | assumption | (simp; done) | (exact Ne.symm (by assumption)) | (simp; omega)) _) (by first | assumption | (simp; done) | (exact Ne.symm (by assumption)) | (simp; omega)) _)) hb
    have B'_f : Bk W3 (w.heap.size + 1 + 1 + 1 + 1) #[.int .u64 (hiw (bx - ax)), .int .u64 (low (bx - ax)), .bool false] 99 := Bk.below ((Bk.put (Bk.put (Bk.put (Bk.far (Bk.far (Bk.far (Bk.far (Bk.far (Bk.far B_f (by first | assumption | (simp; done) | (exact Ne.symm (by assumption)) | (simp; omega)) _) (by first | assumption | (simp; done) | (exact Ne.symm (by assumption)) | (simp; omega)) _) (by first | assumption | (simp; done) | (exact Ne.symm (by assumption)) | (simp; omega)) _) (by first | assumption | (simp; done) | (exact Ne.symm (by assumption)) | (simp; omega)) _) (by first | assumption | (simp; done) | (exact Ne.symm (by assumption)) | (simp; omega)) _) (by first | assumption | (simp; done) | (exact Ne.symm (by assumption)) | (simp; omega)) _) 0 _) 1 _) 2 _)) hb
    obtain ⟨hB', hS'⟩ := below_c (w := w) hb ((Below.setCell (p := ⟨w.heap.size + 1 + 1 + 1 + 1, 2, none⟩) (Below.setCell (p := ⟨w.heap.size + 1 + 1 + 1 + 1, 1, none⟩) (Below.setCell (p := ⟨w.heap.size + 1 + 1 + 1 + 1, 0, none⟩) (Below.setCell (p := ⟨w.heap.size + 1 + 1 + 1, 2, none⟩) (Below.setCell (p := ⟨w.heap.size + 1 + 1 + 1, 1, none⟩) (Below.setCell (p := ⟨w.heap.size + 1 + 1 + 1, 0, none⟩) (Below.setCell (p := ⟨w.heap.size + 1 + 1, 2, none⟩) (Below.setCell (p := ⟨w.heap.size + 1 + 1, 1, none⟩) (Below.setCell (p := ⟨w.heap.size + 1 + 1, 0, none⟩) hB o_x _) o_x _) o_x _) o_y _) o_y _) o_y _) o_f _) o_f _) o_f _))
    clear hb hB hS
    have B_x := B'_x
    have B_y := B'_y
    have B_f := B'_f
    have hB := hB'; have hS := hS'; clear hB' hS' B'_x B'_y B'_f
    have c_x_0 := B_x.cell (v := .int .u64 (hiw (bx - ax))) 0 rfl
    have c_x_1 := B_x.cell (v := .int .u64 (low (bx - ax))) 1 rfl
    have c_x_2 := B_x.cell (v := .bool (ngw (bx - ax))) 2 rfl
    have lt_x := B_x.lt
    have f_x_0 := B_x.free 0
    have f_x_1 := B_x.free 1
    have f_x_2 := B_x.free 2
    have c_y_0 := B_y.cell (v := .int .u64 (hiw (b' - ay))) 0 rfl
    have c_y_1 := B_y.cell (v := .int .u64 (low (b' - ay))) 1 rfl
    have c_y_2 := B_y.cell (v := .bool (ngw (b' - ay))) 2 rfl
    have lt_y := B_y.lt
    have f_y_0 := B_y.free 0
    have f_y_1 := B_y.free 1
    have f_y_2 := B_y.free 2
    have c_f_0 := B_f.cell (v := .int .u64 (hiw (bx - ax))) 0 rfl
    have c_f_1 := B_f.cell (v := .int .u64 (low (bx - ax))) 1 rfl
    have c_f_2 := B_f.cell (v := .bool false) 2 rfl
    have lt_f := B_f.lt
    have f_f_0 := B_f.free 0
    have f_f_1 := B_f.free 1
    have f_f_2 := B_f.free 2
    go_wp2
    refine wp_name (fun W => Below w.heap.size w W ∧ Bk W (w.heap.size + 1 + 1) #[.int .u64 (hiw (bx - ax)), .int .u64 (low (bx - ax)), .bool (ngw (bx - ax))] 99 ∧ Bk W (w.heap.size + 1 + 1 + 1) #[.int .u64 (hiw (b' - ay)), .int .u64 (low (b' - ay)), .bool (ngw (b' - ay))] 99 ∧ Bk W (w.heap.size + 1 + 1 + 1 + 1) #[.int .u64 (hiw (b' - ay)), .int .u64 (low (b' - ay)), .bool false] 99) ⟨(Below.setCell (p := ⟨w.heap.size + 1 + 1 + 1 + 1, 1, none⟩) (Below.setCell (p := ⟨w.heap.size + 1 + 1 + 1 + 1, 0, none⟩) hB o_f _) o_f _), (Bk.far (Bk.far B_x (by first | assumption | (simp; done) | (exact Ne.symm (by assumption)) | (simp; omega)) _) (by first | assumption | (simp; done) | (exact Ne.symm (by assumption)) | (simp; omega)) _), (Bk.far (Bk.far B_y (by first | assumption | (simp; done) | (exact Ne.symm (by assumption)) | (simp; omega)) _) (by first | assumption | (simp; done) | (exact Ne.symm (by assumption)) | (simp; omega)) _), (Bk.put (Bk.put B_f 0 _) 1 _)⟩ ?_
    clear c_x_0 c_x_1 c_x_2 lt_x f_x_0 f_x_1 f_x_2 c_y_0 c_y_1 c_y_2 lt_y f_y_0 f_y_1 f_y_2 c_f_0 c_f_1 c_f_2 lt_f f_f_0 f_f_1 f_f_2
    clear hB hS B_x B_y B_f
    rintro W4 ⟨hB, B_x, B_y, B_f⟩
    have hS := hB.size
    have c_x_0 := B_x.cell (v := .int .u64 (hiw (bx - ax))) 0 rfl
    have c_x_1 := B_x.cell (v := .int .u64 (low (bx - ax))) 1 rfl
    have c_x_2 := B_x.cell (v := .bool (ngw (bx - ax))) 2 rfl
    have lt_x := B_x.lt
    have f_x_0 := B_x.free 0
    have f_x_1 := B_x.free 1
    have f_x_2 := B_x.free 2
    have c_y_0 := B_y.cell (v := .int .u64 (hiw (b' - ay))) 0 rfl
    have c_y_1 := B_y.cell (v := .int .u64 (low (b' - ay))) 1 rfl
    have c_y_2 := B_y.cell (v := .bool (ngw (b' - ay))) 2 rfl
    have lt_y := B_y.lt
    have f_y_0 := B_y.free 0
    have f_y_1 := B_y.free 1
    have f_y_2 := B_y.free 2
    have c_f_0 := B_f.cell (v := .int .u64 (hiw (b' - ay))) 0 rfl
    have c_f_1 := B_f.cell (v := .int .u64 (low (b' - ay))) 1 rfl
    have c_f_2 := B_f.cell (v := .bool false) 2 rfl
    have lt_f := B_f.lt
    have f_f_0 := B_f.free 0
    have f_f_1 := B_f.free 1
    have f_f_2 := B_f.free 2
    go_region
    all_goals go_wp2
    all_goals
      refine bodyPost_ret (v := .tuple #[W (bx - ax), W (b' - ay), .agg #[.int .u64 (hiw (b' - ay)), .int .u64 (low (b' - ay)), .bool false]]) (by simp [results, Try.results83, go_sem, c_x_0, c_x_1, c_x_2, c_y_0, c_y_1, c_y_2, c_f_0, c_f_1, c_f_2]; try rfl) rfl ⟨by rw [HF.out], by (first | (go_grown; done) | (repeat (first | assumption | (refine Below.setCell ?_ (by first | assumption | (simp; omega) | omega) _) | (refine Below.alloc ?_ (by assumption) _))))⟩
  · have HF := Lib.hid (show W (vfar (bx - ax) (b' - ay)) = .agg #[.int .u64 (hiw (bx - ax)), .int .u64 (low (bx - ax)), .bool false] by
      rw [show vfar (bx - ax) (b' - ay) = ((bx - ax).natAbs : Int) by unfold vfar; omega]
      show Value.agg #[_, _, _] = _
      rw [(hiw_abs (bx - ax)).1, (hiw_abs (bx - ax)).2.1, (hiw_abs (bx - ax)).2.2])
    have hlt := decide_eq_false hl
    replace hlt := Lib.hid hlt
    clear hl
    go_enter Try.func83, Try.ntmps83
    go_wp2
    have o_a : w.heap.size ≤ w.heap.size := Nat.le_add_right _ 0
    have o_b : w.heap.size ≤ w.heap.size + 1 := Nat.le_add_right _ 1
    have o_x : w.heap.size ≤ w.heap.size + 1 + 1 := Nat.le_add_right _ 2
    have o_y : w.heap.size ≤ w.heap.size + 1 + 1 + 1 := Nat.le_add_right _ 3
    have o_f : w.heap.size ≤ w.heap.size + 1 + 1 + 1 + 1 := Nat.le_add_right _ 4
    refine wp_name (fun W => Below w.heap.size w W ∧ Bk W (w.heap.size) #[.int .i64 ax, .int .i64 ay] 55 ∧ Bk W (w.heap.size + 1) #[.int .i64 bx, .int .i64 b'] 55 ∧ Bk W (w.heap.size + 1 + 1) #[.int .u64 0, .int .u64 0, .bool false] 99 ∧ Bk W (w.heap.size + 1 + 1 + 1) #[.int .u64 0, .int .u64 0, .bool false] 99 ∧ Bk W (w.heap.size + 1 + 1 + 1 + 1) #[.int .u64 0, .int .u64 0, .bool false] 99) ⟨by (first | (go_grown; done) | (repeat (first | assumption | (refine Below.setCell ?_ (by first | assumption | (simp; omega) | omega) _) | (refine Below.alloc ?_ (by assumption) _)))), by (repeat (first | with_reducible assumption | ((with_reducible refine Bk.at_ ?_); first | rfl | (simp; done)) | with_reducible apply Bk.alloc)), by (repeat (first | with_reducible assumption | ((with_reducible refine Bk.at_ ?_); first | rfl | (simp; done)) | with_reducible apply Bk.alloc)), by (repeat (first | with_reducible assumption | ((with_reducible refine Bk.at_ ?_); first | rfl | (simp; done)) | with_reducible apply Bk.alloc)), by (repeat (first | with_reducible assumption | ((with_reducible refine Bk.at_ ?_); first | rfl | (simp; done)) | with_reducible apply Bk.alloc)), by (repeat (first | with_reducible assumption | ((with_reducible refine Bk.at_ ?_); first | rfl | (simp; done)) | with_reducible apply Bk.alloc))⟩ ?_
    rintro W1 ⟨hB, B_a, B_b, B_x, B_y, B_f⟩
    have hS := hB.size
    have k_a_0 := cell_regrown (B_a.cell (v := .int .i64 ax) 0 rfl)
    have k_a_1 := cell_regrown (B_a.cell (v := .int .i64 ay) 1 rfl)
    have k_b_0 := cell_regrown (B_b.cell (v := .int .i64 bx) 0 rfl)
    have k_b_1 := cell_regrown (B_b.cell (v := .int .i64 b') 1 rfl)
    have k_x_0 := cell_regrown (B_x.cell (v := .int .u64 0) 0 rfl)
    have k_x_1 := cell_regrown (B_x.cell (v := .int .u64 0) 1 rfl)
    have k_x_2 := cell_regrown (B_x.cell (v := .bool false) 2 rfl)
    have k_y_0 := cell_regrown (B_y.cell (v := .int .u64 0) 0 rfl)
    have k_y_1 := cell_regrown (B_y.cell (v := .int .u64 0) 1 rfl)
    have k_y_2 := cell_regrown (B_y.cell (v := .bool false) 2 rfl)
    have k_f_0 := cell_regrown (B_f.cell (v := .int .u64 0) 0 rfl)
    have k_f_1 := cell_regrown (B_f.cell (v := .int .u64 0) 1 rfl)
    have k_f_2 := cell_regrown (B_f.cell (v := .bool false) 2 rfl)
    refine wp_region_low 10 (by kernel_rfl) (by kernel_rfl) ?_
    simp only [List.take, List.drop]
    iterate 10 (refine low_step (fun K hK => ?_); go_simp; first | (refine hK _ ?_; clear hK K) | (apply Exists.intro; refine ⟨fun p => ?_, hK _ ?_⟩; (first | with_reducible exact diff_any _ _ (by assumption) (by assumption) (by assumption) (by assumption) _); clear hK K))
    refine low_nil ?_
    intro W2 hC
    have hb := hC.1
    clear k_a_0 k_a_1 k_b_0 k_b_1 k_x_0 k_x_1 k_x_2 k_y_0 k_y_1 k_y_2 k_f_0 k_f_1 k_f_2
    replace B_a := B_a.below hb
    replace B_b := B_b.below hb
    replace B_x := B_x.below hb
    replace B_y := B_y.below hb
    replace B_f := B_f.below hb
    obtain ⟨hB', hS'⟩ := below_c (w := w) hb hB
    clear hC hb hB hS
    have hB := hB'; have hS := hS'; clear hB' hS'
    have c_x_0 := B_x.cell (v := .int .u64 0) 0 rfl
    have c_x_1 := B_x.cell (v := .int .u64 0) 1 rfl
    have c_x_2 := B_x.cell (v := .bool false) 2 rfl
    have lt_x := B_x.lt
    have f_x_0 := B_x.free 0
    have f_x_1 := B_x.free 1
    have f_x_2 := B_x.free 2
    have c_y_0 := B_y.cell (v := .int .u64 0) 0 rfl
    have c_y_1 := B_y.cell (v := .int .u64 0) 1 rfl
    have c_y_2 := B_y.cell (v := .bool false) 2 rfl
    have lt_y := B_y.lt
    have f_y_0 := B_y.free 0
    have f_y_1 := B_y.free 1
    have f_y_2 := B_y.free 2
    have c_f_0 := B_f.cell (v := .int .u64 0) 0 rfl
    have c_f_1 := B_f.cell (v := .int .u64 0) 1 rfl
    have c_f_2 := B_f.cell (v := .bool false) 2 rfl
    have lt_f := B_f.lt
    have f_f_0 := B_f.free 0
    have f_f_1 := B_f.free 1
    have f_f_2 := B_f.free 2
    go_wp2_with fail
    with_reducible refine (lesw_is (bx - ax) (b' - ay) _ hlt.out _).mono ?_
    rintro e W3 ⟨rfl, hb⟩
    clear c_x_0 c_x_1 c_x_2 lt_x f_x_0 f_x_1 f_x_2 c_y_0 c_y_1 c_y_2 lt_y f_y_0 f_y_1 f_y_2 c_f_0 c_f_1 c_f_2 lt_f f_f_0 f_f_1 f_f_2
    have o_x : w.heap.size ≤ w.heap.size + 1 + 1 := Nat.le_add_right _ 2
    have o_y : w.heap.size ≤ w.heap.size + 1 + 1 + 1 := Nat.le_add_right _ 3
    have o_f : w.heap.size ≤ w.heap.size + 1 + 1 + 1 + 1 := Nat.le_add_right _ 4
    have B'_x : Bk W3 (w.heap.size + 1 + 1) #[.int .u64 (hiw (bx - ax)), .int .u64 (low (bx - ax)), .bool (ngw (bx - ax))] 99 := Bk.below ((Bk.far (Bk.far (Bk.far (Bk.far (Bk.far (Bk.far (Bk.put (Bk.put (Bk.put B_x 0 _) 1 _) 2 _) (by first | assumption | (simp; done) | (exact Ne.symm (by assumption)) | (simp; omega)) _) (by first | assumption | (simp; done) | (exact Ne.symm (by assumption)) | (simp; omega)) _) (by first | assumption | (simp; done) | (exact Ne.symm (by assumption)) | (simp; omega)) _) (by first | assumption | (simp; done) | (exact Ne.symm (by assumption)) | (simp; omega)) _) (by first | assumption | (simp; done) | (exact Ne.symm (by assumption)) | (simp; omega)) _) (by first | assumption | (simp; done) | (exact Ne.symm (by assumption)) | (simp; omega)) _)) hb
    have B'_y : Bk W3 (w.heap.size + 1 + 1 + 1) #[.int .u64 (hiw (b' - ay)), .int .u64 (low (b' - ay)), .bool (ngw (b' - ay))] 99 := Bk.below ((Bk.far (Bk.far (Bk.far (Bk.put (Bk.put (Bk.put (Bk.far (Bk.far (Bk.far B_y (by first | assumption | (simp; done) | (exact Ne.symm (by assumption)) | (simp; omega)) _) (by first | assumption | (simp; done) | (exact Ne.symm (by assumption)) | (simp; omega)) _) (by first | assumption | (simp; done) | (exact Ne.symm (by assumption)) | (simp; omega)) _) 0 _) 1 _) 2 _) (by first | assumption | (simp; done) | (exact Ne.symm (by assumption)) | (simp; omega)) _) (by first | assumption | (simp; done) | (exact Ne.symm (by assumption)) | (simp; omega)) _) (by first | assumption | (simp; done) | (exact Ne.symm (by assumption)) | (simp; omega)) _)) hb
    have B'_f : Bk W3 (w.heap.size + 1 + 1 + 1 + 1) #[.int .u64 (hiw (bx - ax)), .int .u64 (low (bx - ax)), .bool false] 99 := Bk.below ((Bk.put (Bk.put (Bk.put (Bk.far (Bk.far (Bk.far (Bk.far (Bk.far (Bk.far B_f (by first | assumption | (simp; done) | (exact Ne.symm (by assumption)) | (simp; omega)) _) (by first | assumption | (simp; done) | (exact Ne.symm (by assumption)) | (simp; omega)) _) (by first | assumption | (simp; done) | (exact Ne.symm (by assumption)) | (simp; omega)) _) (by first | assumption | (simp; done) | (exact Ne.symm (by assumption)) | (simp; omega)) _) (by first | assumption | (simp; done) | (exact Ne.symm (by assumption)) | (simp; omega)) _) (by first | assumption | (simp; done) | (exact Ne.symm (by assumption)) | (simp; omega)) _) 0 _) 1 _) 2 _)) hb
    obtain ⟨hB', hS'⟩ := below_c (w := w) hb ((Below.setCell (p := ⟨w.heap.size + 1 + 1 + 1 + 1, 2, none⟩) (Below.setCell (p := ⟨w.heap.size + 1 + 1 + 1 + 1, 1, none⟩) (Below.setCell (p := ⟨w.heap.size + 1 + 1 + 1 + 1, 0, none⟩) (Below.setCell (p := ⟨w.heap.size + 1 + 1 + 1, 2, none⟩) (Below.setCell (p := ⟨w.heap.size + 1 + 1 + 1, 1, none⟩) (Below.setCell (p := ⟨w.heap.size + 1 + 1 + 1, 0, none⟩) (Below.setCell (p := ⟨w.heap.size + 1 + 1, 2, none⟩) (Below.setCell (p := ⟨w.heap.size + 1 + 1, 1, none⟩) (Below.setCell (p := ⟨w.heap.size + 1 + 1, 0, none⟩) hB o_x _) o_x _) o_x _) o_y _) o_y _) o_y _) o_f _) o_f _) o_f _))
    clear hb hB hS
    have B_x := B'_x
    have B_y := B'_y
    have B_f := B'_f
    have hB := hB'; have hS := hS'; clear hB' hS' B'_x B'_y B'_f
    have c_x_0 := B_x.cell (v := .int .u64 (hiw (bx - ax))) 0 rfl
    have c_x_1 := B_x.cell (v := .int .u64 (low (bx - ax))) 1 rfl
    have c_x_2 := B_x.cell (v := .bool (ngw (bx - ax))) 2 rfl
    have lt_x := B_x.lt
    have f_x_0 := B_x.free 0
    have f_x_1 := B_x.free 1
    have f_x_2 := B_x.free 2
    have c_y_0 := B_y.cell (v := .int .u64 (hiw (b' - ay))) 0 rfl
    have c_y_1 := B_y.cell (v := .int .u64 (low (b' - ay))) 1 rfl
    have c_y_2 := B_y.cell (v := .bool (ngw (b' - ay))) 2 rfl
    have lt_y := B_y.lt
    have f_y_0 := B_y.free 0
    have f_y_1 := B_y.free 1
    have f_y_2 := B_y.free 2
    have c_f_0 := B_f.cell (v := .int .u64 (hiw (bx - ax))) 0 rfl
    have c_f_1 := B_f.cell (v := .int .u64 (low (bx - ax))) 1 rfl
    have c_f_2 := B_f.cell (v := .bool false) 2 rfl
    have lt_f := B_f.lt
    have f_f_0 := B_f.free 0
    have f_f_1 := B_f.free 1
    have f_f_2 := B_f.free 2
    go_wp2
    have f_x_0 := B_x.free 0
    have f_x_1 := B_x.free 1
    have f_x_2 := B_x.free 2
    have f_y_0 := B_y.free 0
    have f_y_1 := B_y.free 1
    have f_y_2 := B_y.free 2
    have f_f_0 := B_f.free 0
    have f_f_1 := B_f.free 1
    have f_f_2 := B_f.free 2
    go_region
    all_goals go_wp2
    all_goals
      refine bodyPost_ret (v := .tuple #[W (bx - ax), W (b' - ay), .agg #[.int .u64 (hiw (bx - ax)), .int .u64 (low (bx - ax)), .bool false]]) (by simp [results, Try.results83, go_sem, c_x_0, c_x_1, c_x_2, c_y_0, c_y_1, c_y_2, c_f_0, c_f_1, c_f_2]; try rfl) rfl ⟨by rw [HF.out], by (first | (go_grown; done) | (repeat (first | assumption | (refine Below.setCell ?_ (by first | assumption | (simp; omega) | omega) _) | (refine Below.alloc ?_ (by assumption) _))))⟩
theorem vway_f (ax ay bx b' f : Int) (hf : vfar (bx - ax) (b' - ay) = f) (hax : I64 ax) (hay : I64 ay) (hbx : I64 bx) (hb : I64 b') (w : World) :
    Calls Try.prog 83 #[V ax ay, V bx b'] w fun e w' => e = .returned (.tuple #[W (bx - ax), W (b' - ay), W f]) ∧ Below w.heap.size w w' := by
  subst hf; exact vway_any ax ay bx b' hax hay hbx hb w
set_option maxRecDepth 100000 in
set_option maxHeartbeats 4000000 in
theorem vdist_any (ax ay bx b' : Int) (hax : I64 ax) (hay : I64 ay) (hbx : I64 bx) (hb : I64 b') (w : World) :
    Calls Try.prog 54 #[V ax ay, V bx b'] w fun e w' => e = .returned (.int .i64 (sat (vfar (bx - ax) (b' - ay)))) ∧ Below w.heap.size w w' := by
  obtain ⟨l0, u0⟩ := hax
  obtain ⟨l1, u1⟩ := hay
  obtain ⟨l2, u2⟩ := hbx
  obtain ⟨l3, u3⟩ := hb
  have hv := vfar_bd (bx - ax) (b' - ay)
  obtain ⟨f, hf⟩ : ∃ f, vfar (bx - ax) (b' - ay) = f := ⟨_, rfl⟩
  rw [hf] at hv
  have f1 : 0 ≤ f ∧ f ≤ 18446744073709551615 := by omega
  obtain ⟨f1, f2⟩ := f1
  have HF := Lib.hid hf
  clear hv hf
  go_enter Try.func54, Try.ntmps54
  go_wp2_with fail
  with_reducible refine (vway_f _ _ _ _ f HF.out (i64_mk l0 u0) (i64_mk l1 u1) (i64_mk l2 u2) (i64_mk l3 u3) _).mono ?_
  rintro e W1 ⟨rfl, hb⟩
  obtain ⟨hB', hS'⟩ := below_c (w := w) hb (by (first | (go_grown; done) | (repeat (first | assumption | (refine Below.setCell ?_ (by first | assumption | (simp; omega) | omega) _) | (refine Below.alloc ?_ (by assumption) _)))))
  clear hb
  have hB := hB'; have hS := hS'; clear hB' hS' 
  go_wp2_with fail
  with_reducible refine (sat_any _ (by omega) (by omega) _).mono ?_
  rintro e W2 ⟨rfl, hb⟩
  obtain ⟨hB', hS'⟩ := below_c (w := w) hb (by (first | (go_grown; done) | (repeat (first | assumption | (refine Below.setCell ?_ (by first | assumption | (simp; omega) | omega) _) | (refine Below.alloc ?_ (by assumption) _)))))
  clear hb hB hS
  have hB := hB'; have hS := hS'; clear hB' hS' 
  go_wp2
  go_returns
  exact ⟨ret_int (by rw [HF.out]), by (first | (go_grown; done) | (repeat (first | assumption | (refine Below.setCell ?_ (by first | assumption | (simp; omega) | omega) _) | (refine Below.alloc ?_ (by assumption) _))))⟩
set_option maxRecDepth 100000 in
set_option maxHeartbeats 4000000 in
theorem vtoward_any (ax ay bx b' m : Int) (hax : I64 ax) (hay : I64 ay) (hbx : I64 bx) (hb : I64 b') (hm : I64 m) (w : World) :
    Calls Try.prog 55 #[V ax ay, V bx b', .int .i64 m] w fun e w' => e = .returned (V (ax + wst (bx - ax) (vfar (bx - ax) (b' - ay)) m) (ay + wst (b' - ay) (vfar (bx - ax) (b' - ay)) m)) ∧ Below w.heap.size w w' := by
  obtain ⟨l0, u0⟩ := hax
  obtain ⟨l1, u1⟩ := hay
  obtain ⟨l2, u2⟩ := hbx
  obtain ⟨l3, u3⟩ := hb
  obtain ⟨l4, u4⟩ := hm
  rcases (show m ≤ 0 ∨ (0 < m ∧ (ax = bx ∧ ay = b')) ∨ (0 < m ∧ ¬ (ax = bx ∧ ay = b') ∧ vfar (bx - ax) (b' - ay) ≤ m) ∨ (0 < m ∧ ¬ (ax = bx ∧ ay = b') ∧ m < vfar (bx - ax) (b' - ay)) by omega) with h1 | ⟨h1, h2⟩ | ⟨h1, h2, h3⟩ | ⟨h1, h2, h3⟩
  · skip
    have HV := Lib.hid (show ax + wst (bx - ax) (vfar (bx - ax) (b' - ay)) m = ax ∧ ay + wst (b' - ay) (vfar (bx - ax) (b' - ay)) m = ay by unfold wst; rw [if_pos h1, if_pos h1]; omega)
    go_enter Try.func55, Try.ntmps55
    go_wp2
    refine bodyPost_ret (v := V ax ay) (by simp [results, Try.results55, go_sem]; try rfl) rfl ⟨by rw [HV.out.1, HV.out.2], by (first | (go_grown; done) | (repeat (first | assumption | (refine Below.setCell ?_ (by first | assumption | (simp; omega) | omega) _) | (refine Below.alloc ?_ (by assumption) _))))⟩
  · skip
    obtain ⟨rfl, rfl⟩ := h2
    have HV := Lib.hid (show ax + wst (ax - ax) (vfar (ax - ax) (ay - ay)) m = ax ∧ ay + wst (ay - ay) (vfar (ax - ax) (ay - ay)) m = ay by rw [Int.sub_self, Int.sub_self, wst_zero]; omega)
    have eqV := eqlv_V ax ay ax ay true (by simp)
    go_enter Try.func55, Try.ntmps55
    go_wp2
    refine bodyPost_ret (v := V ax ay) (by simp [results, Try.results55, go_sem]; try rfl) rfl ⟨by rw [HV.out.1, HV.out.2], by (first | (go_grown; done) | (repeat (first | assumption | (refine Below.setCell ?_ (by first | assumption | (simp; omega) | omega) _) | (refine Below.alloc ?_ (by assumption) _))))⟩
  · skip
    have eqV := eqlv_V ax ay bx b' false (by rw [decide_eq_false_iff_not]; exact h2)
    clear h2
    have hv := vfar_bd (bx - ax) (b' - ay)
    have hx := wst_any (bx - ax) (vfar (bx - ax) (b' - ay)) m hv.1
    have hy := wst_any (b' - ay) (vfar (bx - ax) (b' - ay)) m hv.2.1
    obtain ⟨f, hf⟩ : ∃ f, vfar (bx - ax) (b' - ay) = f := ⟨_, rfl⟩
    rw [hf] at hv hx hy h3
    have f1 : 0 ≤ f ∧ f ≤ 18446744073709551615 := by omega
    obtain ⟨f1, f2⟩ := f1
    have HV := Lib.hid (show ax + wst (bx - ax) f m = bx ∧ ay + wst (b' - ay) f m = b' by unfold wst; rw [if_neg (by omega), if_pos (by omega), if_neg (by omega), if_pos (by omega)]; omega)
    have HL := Lib.hid (show decide ((m.natAbs : Int) < (f.natAbs : Int)) = false by rw [decide_eq_false_iff_not]; omega)
    have HF := Lib.hid hf
    clear hf hx hy hv
    go_enter Try.func55, Try.ntmps55
    go_wp2_with fail
    with_reducible refine (vway_f _ _ _ _ f HF.out (i64_mk l0 u0) (i64_mk l1 u1) (i64_mk l2 u2) (i64_mk l3 u3) _).mono ?_
    rintro e W1 ⟨rfl, hb⟩
    have o_a : w.heap.size ≤ w.heap.size := Nat.le_add_right _ 0
    have o_b : w.heap.size ≤ w.heap.size + 1 := Nat.le_add_right _ 1
    have o_r : w.heap.size ≤ w.heap.size + 1 + 1 := Nat.le_add_right _ 2
    have B'_a : Bk W1 (w.heap.size) #[.int .i64 ax, .int .i64 ay] 55 := Bk.below (by (repeat (first | with_reducible assumption | ((with_reducible refine Bk.at_ ?_); first | rfl | (simp; done)) | with_reducible apply Bk.alloc))) hb
    have B'_b : Bk W1 (w.heap.size + 1) #[.int .i64 bx, .int .i64 b'] 55 := Bk.below (by (repeat (first | with_reducible assumption | ((with_reducible refine Bk.at_ ?_); first | rfl | (simp; done)) | with_reducible apply Bk.alloc))) hb
    have B'_r : Bk W1 (w.heap.size + 1 + 1) #[.int .i64 0, .int .i64 0] 55 := Bk.below (by (repeat (first | with_reducible assumption | ((with_reducible refine Bk.at_ ?_); first | rfl | (simp; done)) | with_reducible apply Bk.alloc))) hb
    obtain ⟨hB', hS'⟩ := below_c (w := w) hb (by (first | (go_grown; done) | (repeat (first | assumption | (refine Below.setCell ?_ (by first | assumption | (simp; omega) | omega) _) | (refine Below.alloc ?_ (by assumption) _)))))
    clear hb
    have B_a := B'_a
    have B_b := B'_b
    have B_r := B'_r
    have hB := hB'; have hS := hS'; clear hB' hS' B'_a B'_b B'_r
    go_wp2_with fail
    with_reducible refine (of_any _ (by assumption) (by assumption) _).mono ?_
    rintro e W2 ⟨rfl, hb⟩
    have o_x : w.heap.size ≤ W1.heap.size := Nat.le_trans hS (Nat.le_add_right _ 0)
    have n_a_x : w.heap.size ≠ W1.heap.size := B_a.apart 0
    have n_b_x : w.heap.size + 1 ≠ W1.heap.size := B_b.apart 0
    have n_r_x : w.heap.size + 1 + 1 ≠ W1.heap.size := B_r.apart 0
    have o_y : w.heap.size ≤ W1.heap.size + 1 := Nat.le_trans hS (Nat.le_add_right _ 1)
    have n_a_y : w.heap.size ≠ W1.heap.size + 1 := B_a.apart 1
    have n_b_y : w.heap.size + 1 ≠ W1.heap.size + 1 := B_b.apart 1
    have n_r_y : w.heap.size + 1 + 1 ≠ W1.heap.size + 1 := B_r.apart 1
    have B'_a : Bk W2 (w.heap.size) #[.int .i64 ax, .int .i64 ay] 55 := Bk.below (by (repeat (first | with_reducible assumption | ((with_reducible refine Bk.at_ ?_); first | rfl | (simp; done)) | with_reducible apply Bk.alloc))) hb
    have B'_b : Bk W2 (w.heap.size + 1) #[.int .i64 bx, .int .i64 b'] 55 := Bk.below (by (repeat (first | with_reducible assumption | ((with_reducible refine Bk.at_ ?_); first | rfl | (simp; done)) | with_reducible apply Bk.alloc))) hb
    have B'_r : Bk W2 (w.heap.size + 1 + 1) #[.int .i64 0, .int .i64 0] 55 := Bk.below (by (repeat (first | with_reducible assumption | ((with_reducible refine Bk.at_ ?_); first | rfl | (simp; done)) | with_reducible apply Bk.alloc))) hb
    have B'_x : Bk W2 (W1.heap.size) #[.int .u64 (hiw (bx - ax)), .int .u64 (low (bx - ax)), .bool (ngw (bx - ax))] 99 := Bk.below (by (repeat (first | with_reducible assumption | ((with_reducible refine Bk.at_ ?_); first | rfl | (simp; done)) | with_reducible apply Bk.alloc))) hb
    have B'_y : Bk W2 (W1.heap.size + 1) #[.int .u64 (hiw (b' - ay)), .int .u64 (low (b' - ay)), .bool (ngw (b' - ay))] 99 := Bk.below (by (repeat (first | with_reducible assumption | ((with_reducible refine Bk.at_ ?_); first | rfl | (simp; done)) | with_reducible apply Bk.alloc))) hb
    have B'_f : Bk W2 (W1.heap.size + 1 + 1) #[.int .u64 (hiw (f)), .int .u64 (low (f)), .bool (ngw (f))] 99 := Bk.below (by (repeat (first | with_reducible assumption | ((with_reducible refine Bk.at_ ?_); first | rfl | (simp; done)) | with_reducible apply Bk.alloc))) hb
    obtain ⟨hB', hS'⟩ := below_c (w := w) hb (by (first | (go_grown; done) | (repeat (first | assumption | (refine Below.setCell ?_ (by first | assumption | (simp; omega) | omega) _) | (refine Below.alloc ?_ (by assumption) _)))))
    clear hb hB hS B_a B_b B_r
    have B_a := B'_a
    have B_b := B'_b
    have B_r := B'_r
    have B_x := B'_x
    have B_y := B'_y
    have B_f := B'_f
    have hB := hB'; have hS := hS'; clear hB' hS' B'_a B'_b B'_r B'_x B'_y B'_f
    have c_f_0 := B_f.cell (v := .int .u64 (hiw (f))) 0 rfl
    have c_f_1 := B_f.cell (v := .int .u64 (low (f))) 1 rfl
    have c_f_2 := B_f.cell (v := .bool (ngw (f))) 2 rfl
    have lt_f := B_f.lt
    go_wp2_with fail
    with_reducible refine (lesw_is m f _ HL.out _).mono ?_
    rintro e W3 ⟨rfl, hb⟩
    clear c_f_0 c_f_1 c_f_2 lt_f
    have n_x_s : W1.heap.size ≠ W2.heap.size := B_x.apart 0
    have n_y_s : W1.heap.size + 1 ≠ W2.heap.size := B_y.apart 0
    have B'_a : Bk W3 (w.heap.size) #[.int .i64 ax, .int .i64 ay] 55 := Bk.below (by (repeat (first | with_reducible assumption | ((with_reducible refine Bk.at_ ?_); first | rfl | (simp; done)) | with_reducible apply Bk.alloc))) hb
    have B'_b : Bk W3 (w.heap.size + 1) #[.int .i64 bx, .int .i64 b'] 55 := Bk.below (by (repeat (first | with_reducible assumption | ((with_reducible refine Bk.at_ ?_); first | rfl | (simp; done)) | with_reducible apply Bk.alloc))) hb
    have B'_r : Bk W3 (w.heap.size + 1 + 1) #[.int .i64 0, .int .i64 0] 55 := Bk.below (by (repeat (first | with_reducible assumption | ((with_reducible refine Bk.at_ ?_); first | rfl | (simp; done)) | with_reducible apply Bk.alloc))) hb
    have B'_x : Bk W3 (W1.heap.size) #[.int .u64 (hiw (bx - ax)), .int .u64 (low (bx - ax)), .bool (ngw (bx - ax))] 99 := Bk.below (by (repeat (first | with_reducible assumption | ((with_reducible refine Bk.at_ ?_); first | rfl | (simp; done)) | with_reducible apply Bk.alloc))) hb
    have B'_y : Bk W3 (W1.heap.size + 1) #[.int .u64 (hiw (b' - ay)), .int .u64 (low (b' - ay)), .bool (ngw (b' - ay))] 99 := Bk.below (by (repeat (first | with_reducible assumption | ((with_reducible refine Bk.at_ ?_); first | rfl | (simp; done)) | with_reducible apply Bk.alloc))) hb
    have B'_f : Bk W3 (W1.heap.size + 1 + 1) #[.int .u64 (hiw (f)), .int .u64 (low (f)), .bool (ngw (f))] 99 := Bk.below (by (repeat (first | with_reducible assumption | ((with_reducible refine Bk.at_ ?_); first | rfl | (simp; done)) | with_reducible apply Bk.alloc))) hb
    have B'_s : Bk W3 (W2.heap.size) #[.int .u64 (hiw (m)), .int .u64 (low (m)), .bool (ngw (m))] 99 := Bk.below (by (repeat (first | with_reducible assumption | ((with_reducible refine Bk.at_ ?_); first | rfl | (simp; done)) | with_reducible apply Bk.alloc))) hb
    obtain ⟨hB', hS'⟩ := below_c (w := w) hb (by (first | (go_grown; done) | (repeat (first | assumption | (refine Below.setCell ?_ (by first | assumption | (simp; omega) | omega) _) | (refine Below.alloc ?_ (by assumption) _)))))
    clear hb hB hS B_a B_b B_r B_x B_y B_f
    have B_a := B'_a
    have B_b := B'_b
    have B_r := B'_r
    have B_x := B'_x
    have B_y := B'_y
    have B_f := B'_f
    have B_s := B'_s
    have hB := hB'; have hS := hS'; clear hB' hS' B'_a B'_b B'_r B'_x B'_y B'_f B'_s
    have c_b_0 := B_b.cell (v := .int .i64 bx) 0 rfl
    have c_b_1 := B_b.cell (v := .int .i64 b') 1 rfl
    have lt_b := B_b.lt
    have c_r_0 := B_r.cell (v := .int .i64 0) 0 rfl
    have c_r_1 := B_r.cell (v := .int .i64 0) 1 rfl
    have lt_r := B_r.lt
    have f_r_0 := B_r.free 0
    have f_r_1 := B_r.free 1
    go_wp2
    refine post_name (fun W => Below w.heap.size w W ∧ Bk W (w.heap.size + 1 + 1) #[.int .i64 bx, .int .i64 b'] 55) ⟨(Below.setCell (p := ⟨w.heap.size + 1 + 1, 1, none⟩) (Below.setCell (p := ⟨w.heap.size + 1 + 1, 0, none⟩) hB o_r _) o_r _), (Bk.put (Bk.put B_r 0 _) 1 _)⟩ ?_
    clear c_b_0 c_b_1 lt_b c_r_0 c_r_1 lt_r f_r_0 f_r_1
    clear hB hS B_r
    rintro W4 ⟨hB, B_r⟩
    have hS := hB.size
    have c_r_0 := B_r.cell (v := .int .i64 bx) 0 rfl
    have c_r_1 := B_r.cell (v := .int .i64 b') 1 rfl
    have lt_r := B_r.lt
    refine bodyPost_ret (v := V bx b') (by simp [results, Try.results55, go_sem, c_r_0, c_r_1]; try rfl) rfl ⟨by rw [HF.out, HV.out.1, HV.out.2], by (first | (go_grown; done) | (repeat (first | assumption | (refine Below.setCell ?_ (by first | assumption | (simp; omega) | omega) _) | (refine Below.alloc ?_ (by assumption) _))))⟩
  · skip
    have eqV := eqlv_V ax ay bx b' false (by rw [decide_eq_false_iff_not]; exact h2)
    clear h2
    have hv := vfar_bd (bx - ax) (b' - ay)
    have hx := wst_any (bx - ax) (vfar (bx - ax) (b' - ay)) m hv.1
    have hy := wst_any (b' - ay) (vfar (bx - ax) (b' - ay)) m hv.2.1
    obtain ⟨f, hf⟩ : ∃ f, vfar (bx - ax) (b' - ay) = f := ⟨_, rfl⟩
    rw [hf] at hv hx hy h3
    have f1 : 0 ≤ f ∧ f ≤ 18446744073709551615 := by omega
    obtain ⟨f1, f2⟩ := f1
    have e1 : wst (bx - ax) f m = tq ((bx - ax) * m) f := by unfold wst; rw [if_neg (by omega), if_neg (by omega)]
    have e2 : wst (b' - ay) f m = tq ((b' - ay) * m) f := by unfold wst; rw [if_neg (by omega), if_neg (by omega)]
    rw [e1] at hx
    rw [e2] at hy
    have HL := Lib.hid (show decide ((m.natAbs : Int) < (f.natAbs : Int)) = true by rw [decide_eq_true_iff]; omega)
    have hp1 := natAbs_mul_lt (bx - ax) m 18446744073709551615 9223372036854775808 (by omega) (by omega)
    have hp2 := natAbs_mul_lt (b' - ay) m 18446744073709551615 9223372036854775808 (by omega) (by omega)
    have hnz : f ≠ 0 := by omega
    have hb1 : -9223372036854775808 ≤ ax + tq ((bx - ax) * m) f ∧ ax + tq ((bx - ax) * m) f ≤ 9223372036854775807 := by omega
    have hb2 : -9223372036854775808 ≤ ay + tq ((b' - ay) * m) f ∧ ay + tq ((b' - ay) * m) f ≤ 9223372036854775807 := by omega
    have hq1 : (tq ((bx - ax) * m) f).natAbs < 170141183460469231731687303715884105728 ∧ (tq ((b' - ay) * m) f).natAbs < 170141183460469231731687303715884105728 := by omega
    have HV := Lib.hid (show sat (ax + tq ((bx - ax) * m) f) = ax + wst (bx - ax) f m ∧ sat (ay + tq ((b' - ay) * m) f) = ay + wst (b' - ay) f m by rw [sat_in _ hb1.1 hb1.2, sat_in _ hb2.1 hb2.2, e1, e2]; exact ⟨rfl, rfl⟩)
    clear e1 e2
    have HF := Lib.hid hf
    clear hf hx hy hv
    go_enter Try.func55, Try.ntmps55
    go_wp2_with fail
    with_reducible refine (vway_f _ _ _ _ f HF.out (i64_mk l0 u0) (i64_mk l1 u1) (i64_mk l2 u2) (i64_mk l3 u3) _).mono ?_
    rintro e W1 ⟨rfl, hb⟩
    have o_a : w.heap.size ≤ w.heap.size := Nat.le_add_right _ 0
    have o_b : w.heap.size ≤ w.heap.size + 1 := Nat.le_add_right _ 1
    have o_r : w.heap.size ≤ w.heap.size + 1 + 1 := Nat.le_add_right _ 2
    have B'_a : Bk W1 (w.heap.size) #[.int .i64 ax, .int .i64 ay] 55 := Bk.below (by (repeat (first | with_reducible assumption | ((with_reducible refine Bk.at_ ?_); first | rfl | (simp; done)) | with_reducible apply Bk.alloc))) hb
    have B'_b : Bk W1 (w.heap.size + 1) #[.int .i64 bx, .int .i64 b'] 55 := Bk.below (by (repeat (first | with_reducible assumption | ((with_reducible refine Bk.at_ ?_); first | rfl | (simp; done)) | with_reducible apply Bk.alloc))) hb
    have B'_r : Bk W1 (w.heap.size + 1 + 1) #[.int .i64 0, .int .i64 0] 55 := Bk.below (by (repeat (first | with_reducible assumption | ((with_reducible refine Bk.at_ ?_); first | rfl | (simp; done)) | with_reducible apply Bk.alloc))) hb
    obtain ⟨hB', hS'⟩ := below_c (w := w) hb (by (first | (go_grown; done) | (repeat (first | assumption | (refine Below.setCell ?_ (by first | assumption | (simp; omega) | omega) _) | (refine Below.alloc ?_ (by assumption) _)))))
    clear hb
    have B_a := B'_a
    have B_b := B'_b
    have B_r := B'_r
    have hB := hB'; have hS := hS'; clear hB' hS' B'_a B'_b B'_r
    go_wp2_with fail
    with_reducible refine (of_any _ (by assumption) (by assumption) _).mono ?_
    rintro e W2 ⟨rfl, hb⟩
    have o_x : w.heap.size ≤ W1.heap.size := Nat.le_trans hS (Nat.le_add_right _ 0)
    have n_a_x : w.heap.size ≠ W1.heap.size := B_a.apart 0
    have n_b_x : w.heap.size + 1 ≠ W1.heap.size := B_b.apart 0
    have n_r_x : w.heap.size + 1 + 1 ≠ W1.heap.size := B_r.apart 0
    have o_y : w.heap.size ≤ W1.heap.size + 1 := Nat.le_trans hS (Nat.le_add_right _ 1)
    have n_a_y : w.heap.size ≠ W1.heap.size + 1 := B_a.apart 1
    have n_b_y : w.heap.size + 1 ≠ W1.heap.size + 1 := B_b.apart 1
    have n_r_y : w.heap.size + 1 + 1 ≠ W1.heap.size + 1 := B_r.apart 1
    have B'_a : Bk W2 (w.heap.size) #[.int .i64 ax, .int .i64 ay] 55 := Bk.below (by (repeat (first | with_reducible assumption | ((with_reducible refine Bk.at_ ?_); first | rfl | (simp; done)) | with_reducible apply Bk.alloc))) hb
    have B'_b : Bk W2 (w.heap.size + 1) #[.int .i64 bx, .int .i64 b'] 55 := Bk.below (by (repeat (first | with_reducible assumption | ((with_reducible refine Bk.at_ ?_); first | rfl | (simp; done)) | with_reducible apply Bk.alloc))) hb
    have B'_r : Bk W2 (w.heap.size + 1 + 1) #[.int .i64 0, .int .i64 0] 55 := Bk.below (by (repeat (first | with_reducible assumption | ((with_reducible refine Bk.at_ ?_); first | rfl | (simp; done)) | with_reducible apply Bk.alloc))) hb
    have B'_x : Bk W2 (W1.heap.size) #[.int .u64 (hiw (bx - ax)), .int .u64 (low (bx - ax)), .bool (ngw (bx - ax))] 99 := Bk.below (by (repeat (first | with_reducible assumption | ((with_reducible refine Bk.at_ ?_); first | rfl | (simp; done)) | with_reducible apply Bk.alloc))) hb
    have B'_y : Bk W2 (W1.heap.size + 1) #[.int .u64 (hiw (b' - ay)), .int .u64 (low (b' - ay)), .bool (ngw (b' - ay))] 99 := Bk.below (by (repeat (first | with_reducible assumption | ((with_reducible refine Bk.at_ ?_); first | rfl | (simp; done)) | with_reducible apply Bk.alloc))) hb
    have B'_f : Bk W2 (W1.heap.size + 1 + 1) #[.int .u64 (hiw (f)), .int .u64 (low (f)), .bool (ngw (f))] 99 := Bk.below (by (repeat (first | with_reducible assumption | ((with_reducible refine Bk.at_ ?_); first | rfl | (simp; done)) | with_reducible apply Bk.alloc))) hb
    obtain ⟨hB', hS'⟩ := below_c (w := w) hb (by (first | (go_grown; done) | (repeat (first | assumption | (refine Below.setCell ?_ (by first | assumption | (simp; omega) | omega) _) | (refine Below.alloc ?_ (by assumption) _)))))
    clear hb hB hS B_a B_b B_r
    have B_a := B'_a
    have B_b := B'_b
    have B_r := B'_r
    have B_x := B'_x
    have B_y := B'_y
    have B_f := B'_f
    have hB := hB'; have hS := hS'; clear hB' hS' B'_a B'_b B'_r B'_x B'_y B'_f
    have c_f_0 := B_f.cell (v := .int .u64 (hiw (f))) 0 rfl
    have c_f_1 := B_f.cell (v := .int .u64 (low (f))) 1 rfl
    have c_f_2 := B_f.cell (v := .bool (ngw (f))) 2 rfl
    have lt_f := B_f.lt
    go_wp2_with fail
    with_reducible refine (lesw_is m f _ HL.out _).mono ?_
    rintro e W3 ⟨rfl, hb⟩
    clear c_f_0 c_f_1 c_f_2 lt_f
    have n_x_s : W1.heap.size ≠ W2.heap.size := B_x.apart 0
    have n_y_s : W1.heap.size + 1 ≠ W2.heap.size := B_y.apart 0
    have B'_a : Bk W3 (w.heap.size) #[.int .i64 ax, .int .i64 ay] 55 := Bk.below (by (repeat (first | with_reducible assumption | ((with_reducible refine Bk.at_ ?_); first | rfl | (simp; done)) | with_reducible apply Bk.alloc))) hb
    have B'_b : Bk W3 (w.heap.size + 1) #[.int .i64 bx, .int .i64 b'] 55 := Bk.below (by (repeat (first | with_reducible assumption | ((with_reducible refine Bk.at_ ?_); first | rfl | (simp; done)) | with_reducible apply Bk.alloc))) hb
    have B'_r : Bk W3 (w.heap.size + 1 + 1) #[.int .i64 0, .int .i64 0] 55 := Bk.below (by (repeat (first | with_reducible assumption | ((with_reducible refine Bk.at_ ?_); first | rfl | (simp; done)) | with_reducible apply Bk.alloc))) hb
    have B'_x : Bk W3 (W1.heap.size) #[.int .u64 (hiw (bx - ax)), .int .u64 (low (bx - ax)), .bool (ngw (bx - ax))] 99 := Bk.below (by (repeat (first | with_reducible assumption | ((with_reducible refine Bk.at_ ?_); first | rfl | (simp; done)) | with_reducible apply Bk.alloc))) hb
    have B'_y : Bk W3 (W1.heap.size + 1) #[.int .u64 (hiw (b' - ay)), .int .u64 (low (b' - ay)), .bool (ngw (b' - ay))] 99 := Bk.below (by (repeat (first | with_reducible assumption | ((with_reducible refine Bk.at_ ?_); first | rfl | (simp; done)) | with_reducible apply Bk.alloc))) hb
    have B'_f : Bk W3 (W1.heap.size + 1 + 1) #[.int .u64 (hiw (f)), .int .u64 (low (f)), .bool (ngw (f))] 99 := Bk.below (by (repeat (first | with_reducible assumption | ((with_reducible refine Bk.at_ ?_); first | rfl | (simp; done)) | with_reducible apply Bk.alloc))) hb
    have B'_s : Bk W3 (W2.heap.size) #[.int .u64 (hiw (m)), .int .u64 (low (m)), .bool (ngw (m))] 99 := Bk.below (by (repeat (first | with_reducible assumption | ((with_reducible refine Bk.at_ ?_); first | rfl | (simp; done)) | with_reducible apply Bk.alloc))) hb
    obtain ⟨hB', hS'⟩ := below_c (w := w) hb (by (first | (go_grown; done) | (repeat (first | assumption | (refine Below.setCell ?_ (by first | assumption | (simp; omega) | omega) _) | (refine Below.alloc ?_ (by assumption) _)))))
    clear hb hB hS B_a B_b B_r B_x B_y B_f
    have B_a := B'_a
    have B_b := B'_b
    have B_r := B'_r
    have B_x := B'_x
    have B_y := B'_y
    have B_f := B'_f
    have B_s := B'_s
    have hB := hB'; have hS := hS'; clear hB' hS' B'_a B'_b B'_r B'_x B'_y B'_f B'_s
    go_wp2_with fail
    have k_a_0 := cell_regrown (B_a.cell (v := .int .i64 ax) 0 rfl)
    have k_a_1 := cell_regrown (B_a.cell (v := .int .i64 ay) 1 rfl)
    have k_b_0 := cell_regrown (B_b.cell (v := .int .i64 bx) 0 rfl)
    have k_b_1 := cell_regrown (B_b.cell (v := .int .i64 b') 1 rfl)
    have k_r_0 := cell_regrown (B_r.cell (v := .int .i64 0) 0 rfl)
    have k_r_1 := cell_regrown (B_r.cell (v := .int .i64 0) 1 rfl)
    have k_x_0 := cell_regrown (B_x.cell (v := .int .u64 (hiw (bx - ax))) 0 rfl)
    have k_x_1 := cell_regrown (B_x.cell (v := .int .u64 (low (bx - ax))) 1 rfl)
    have k_x_2 := cell_regrown (B_x.cell (v := .bool (ngw (bx - ax))) 2 rfl)
    have k_y_0 := cell_regrown (B_y.cell (v := .int .u64 (hiw (b' - ay))) 0 rfl)
    have k_y_1 := cell_regrown (B_y.cell (v := .int .u64 (low (b' - ay))) 1 rfl)
    have k_y_2 := cell_regrown (B_y.cell (v := .bool (ngw (b' - ay))) 2 rfl)
    have k_f_0 := cell_regrown (B_f.cell (v := .int .u64 (hiw (f))) 0 rfl)
    have k_f_1 := cell_regrown (B_f.cell (v := .int .u64 (low (f))) 1 rfl)
    have k_f_2 := cell_regrown (B_f.cell (v := .bool (ngw (f))) 2 rfl)
    have k_s_0 := cell_regrown (B_s.cell (v := .int .u64 (hiw (m))) 0 rfl)
    have k_s_1 := cell_regrown (B_s.cell (v := .int .u64 (low (m))) 1 rfl)
    have k_s_2 := cell_regrown (B_s.cell (v := .bool (ngw (m))) 2 rfl)
    refine wp_region_low 10 (by kernel_rfl) (by kernel_rfl) ?_
    simp only [List.take, List.drop]
    iterate 10 (refine low_step (fun K hK => ?_); go_simp; first | (refine hK _ ?_; clear hK K) | (apply Exists.intro; refine ⟨fun p => ?_, hK _ ?_⟩; (first | with_reducible exact mul_W _ _ (by omega) (by omega) (by omega) (by omega) _ | with_reducible exact trunc_any _ _ (by omega) (by omega) hnz (by omega) (by omega) _); clear hK K))
    refine low_nil ?_
    intro W4 hC
    have hb := hC.1
    clear k_a_0 k_a_1 k_b_0 k_b_1 k_r_0 k_r_1 k_x_0 k_x_1 k_x_2 k_y_0 k_y_1 k_y_2 k_f_0 k_f_1 k_f_2 k_s_0 k_s_1 k_s_2
    replace B_a := B_a.below hb
    replace B_b := B_b.below hb
    replace B_r := B_r.below hb
    replace B_x := B_x.below hb
    replace B_y := B_y.below hb
    replace B_f := B_f.below hb
    replace B_s := B_s.below hb
    obtain ⟨hB', hS'⟩ := below_c (w := w) hb hB
    clear hC hb hB hS
    have hB := hB'; have hS := hS'; clear hB' hS'
    have c_x_0 := B_x.cell (v := .int .u64 (hiw (bx - ax))) 0 rfl
    have c_x_1 := B_x.cell (v := .int .u64 (low (bx - ax))) 1 rfl
    have c_x_2 := B_x.cell (v := .bool (ngw (bx - ax))) 2 rfl
    have lt_x := B_x.lt
    have f_x_0 := B_x.free 0
    have f_x_1 := B_x.free 1
    have f_x_2 := B_x.free 2
    have c_y_0 := B_y.cell (v := .int .u64 (hiw (b' - ay))) 0 rfl
    have c_y_1 := B_y.cell (v := .int .u64 (low (b' - ay))) 1 rfl
    have c_y_2 := B_y.cell (v := .bool (ngw (b' - ay))) 2 rfl
    have lt_y := B_y.lt
    have f_y_0 := B_y.free 0
    have f_y_1 := B_y.free 1
    have f_y_2 := B_y.free 2
    go_wp2_with fail
    refine wp_name (fun W => Below w.heap.size w W ∧ Bk W (w.heap.size) #[.int .i64 ax, .int .i64 ay] 55 ∧ Bk W (w.heap.size + 1 + 1) #[.int .i64 0, .int .i64 0] 55 ∧ Bk W (W1.heap.size) #[.int .u64 (hiw (tq ((bx - ax) * m) f)), .int .u64 (low (tq ((bx - ax) * m) f)), .bool (ngw (tq ((bx - ax) * m) f))] 99 ∧ Bk W (W1.heap.size + 1) #[.int .u64 (hiw (tq ((b' - ay) * m) f)), .int .u64 (low (tq ((b' - ay) * m) f)), .bool (ngw (tq ((b' - ay) * m) f))] 99) ⟨(Below.setCell (p := ⟨W1.heap.size + 1, 2, none⟩) (Below.setCell (p := ⟨W1.heap.size + 1, 1, none⟩) (Below.setCell (p := ⟨W1.heap.size + 1, 0, none⟩) (Below.setCell (p := ⟨W1.heap.size, 2, none⟩) (Below.setCell (p := ⟨W1.heap.size, 1, none⟩) (Below.setCell (p := ⟨W1.heap.size, 0, none⟩) hB o_x _) o_x _) o_x _) o_y _) o_y _) o_y _), (Bk.far (Bk.far (Bk.far (Bk.far (Bk.far (Bk.far B_a (by first | assumption | (simp; done) | (exact Ne.symm (by assumption)) | (simp; omega)) _) (by first | assumption | (simp; done) | (exact Ne.symm (by assumption)) | (simp; omega)) _) (by first | assumption | (simp; done) | (exact Ne.symm (by assumption)) | (simp; omega)) _) (by first | assumption | (simp; done) | (exact Ne.symm (by assumption)) | (simp; omega)) _) (by first | assumption | (simp; done) | (exact Ne.symm (by assumption)) | (simp; omega)) _) (by first | assumption | (simp; done) | (exact Ne.symm (by assumption)) | (simp; omega)) _), (Bk.far (Bk.far (Bk.far (Bk.far (Bk.far (Bk.far B_r (by first | assumption | (simp; done) | (exact Ne.symm (by assumption)) | (simp; omega)) _) (by first | assumption | (simp; done) | (exact Ne.symm (by assumption)) | (simp; omega)) _) (by first | assumption | (simp; done) | (exact Ne.symm (by assumption)) | (simp; omega)) _) (by first | assumption | (simp; done) | (exact Ne.symm (by assumption)) | (simp; omega)) _) (by first | assumption | (simp; done) | (exact Ne.symm (by assumption)) | (simp; omega)) _) (by first | assumption | (simp; done) | (exact Ne.symm (by assumption)) | (simp; omega)) _), (Bk.far (Bk.far (Bk.far (Bk.put (Bk.put (Bk.put B_x 0 _) 1 _) 2 _) (by first | assumption | (simp; done) | (exact Ne.symm (by assumption)) | (simp; omega)) _) (by first | assumption | (simp; done) | (exact Ne.symm (by assumption)) | (simp; omega)) _) (by first | assumption | (simp; done) | (exact Ne.symm (by assumption)) | (simp; omega)) _), (Bk.put (Bk.put (Bk.put (Bk.far (Bk.far (Bk.far B_y (by first | assumption | (simp; done) | (exact Ne.symm (by assumption)) | (simp; omega)) _) (by first | assumption | (simp; done) | (exact Ne.symm (by assumption)) | (simp; omega)) _) (by first | assumption | (simp; done) | (exact Ne.symm (by assumption)) | (simp; omega)) _) 0 _) 1 _) 2 _)⟩ ?_
    clear c_x_0 c_x_1 c_x_2 lt_x f_x_0 f_x_1 f_x_2 c_y_0 c_y_1 c_y_2 lt_y f_y_0 f_y_1 f_y_2
    clear hB hS B_a B_r B_x B_y
    rintro W5 ⟨hB, B_a, B_r, B_x, B_y⟩
    have hS := hB.size
    have k_a_0 := cell_regrown (B_a.cell (v := .int .i64 ax) 0 rfl)
    have k_a_1 := cell_regrown (B_a.cell (v := .int .i64 ay) 1 rfl)
    have k_r_0 := cell_regrown (B_r.cell (v := .int .i64 0) 0 rfl)
    have k_r_1 := cell_regrown (B_r.cell (v := .int .i64 0) 1 rfl)
    have k_x_0 := cell_regrown (B_x.cell (v := .int .u64 (hiw (tq ((bx - ax) * m) f))) 0 rfl)
    have k_x_1 := cell_regrown (B_x.cell (v := .int .u64 (low (tq ((bx - ax) * m) f))) 1 rfl)
    have k_x_2 := cell_regrown (B_x.cell (v := .bool (ngw (tq ((bx - ax) * m) f))) 2 rfl)
    have k_y_0 := cell_regrown (B_y.cell (v := .int .u64 (hiw (tq ((b' - ay) * m) f))) 0 rfl)
    have k_y_1 := cell_regrown (B_y.cell (v := .int .u64 (low (tq ((b' - ay) * m) f))) 1 rfl)
    have k_y_2 := cell_regrown (B_y.cell (v := .bool (ngw (tq ((b' - ay) * m) f))) 2 rfl)
    refine wp_region_low 15 (by kernel_rfl) (by kernel_rfl) ?_
    simp only [List.take, List.drop]
    iterate 4 (refine low_step (fun K hK => ?_); go_simp; first | (refine hK _ ?_; clear hK K) | (apply Exists.intro; refine ⟨fun p => ?_, hK _ ?_⟩; (first | with_reducible exact of_any _ (by assumption) (by assumption) _ | with_reducible exact sat_any _ (by omega) (by omega) _); clear hK K))
    refine low_slice 2 2 (.cells #[.int .u64 (hiw (ax)), .int .u64 (low (ax)), .bool (ngw (ax)), .int .u64 (hiw (tq ((bx - ax) * m) f)), .int .u64 (low (tq ((bx - ax) * m) f)), .bool (ngw (tq ((bx - ax) * m) f))] 99) (by rfl) (fun w => by go_simp) ?_
    intro g_s1
    refine low_call 4 g_s1 _ _ (by rfl) (fun w => by go_simp; exact ⟨rfl, rfl⟩) (by kernel_rfl) ⟨⟨4, .data⟩, by simp, rfl, rfl⟩ rfl (fun W hW hg hk => by
      have B : Bk W g_s1 #[.int .u64 (hiw (ax)), .int .u64 (low (ax)), .bool (ngw (ax)), .int .u64 (hiw (tq ((bx - ax) * m) f)), .int .u64 (low (tq ((bx - ax) * m) f)), .bool (ngw (tq ((bx - ax) * m) f))] 99 := hk
      exact sum2_any (ax) (tq ((bx - ax) * m) f) _ (by omega) (by omega) _ B.lt (B.cell 0 rfl) (B.cell 1 rfl) (B.cell 2 rfl) (B.cell 3 rfl) (B.cell 4 rfl) (B.cell 5 rfl)) ?_
    iterate 5 (refine low_step (fun K hK => ?_); go_simp; first | (refine hK _ ?_; clear hK K) | (apply Exists.intro; refine ⟨fun p => ?_, hK _ ?_⟩; (first | with_reducible exact of_any _ (by assumption) (by assumption) _ | with_reducible exact sat_any _ (by omega) (by omega) _); clear hK K))
    refine low_slice 2 2 (.cells #[.int .u64 (hiw (ay)), .int .u64 (low (ay)), .bool (ngw (ay)), .int .u64 (hiw (tq ((b' - ay) * m) f)), .int .u64 (low (tq ((b' - ay) * m) f)), .bool (ngw (tq ((b' - ay) * m) f))] 99) (by rfl) (fun w => by go_simp) ?_
    intro g_s2
    refine low_call 11 g_s2 _ _ (by rfl) (fun w => by go_simp; exact ⟨rfl, rfl⟩) (by kernel_rfl) ⟨⟨11, .data⟩, by simp, rfl, rfl⟩ rfl (fun W hW hg hk => by
      have B : Bk W g_s2 #[.int .u64 (hiw (ay)), .int .u64 (low (ay)), .bool (ngw (ay)), .int .u64 (hiw (tq ((b' - ay) * m) f)), .int .u64 (low (tq ((b' - ay) * m) f)), .bool (ngw (tq ((b' - ay) * m) f))] 99 := hk
      exact sum2_any (ay) (tq ((b' - ay) * m) f) _ (by omega) (by omega) _ B.lt (B.cell 0 rfl) (B.cell 1 rfl) (B.cell 2 rfl) (B.cell 3 rfl) (B.cell 4 rfl) (B.cell 5 rfl)) ?_
    iterate 2 (refine low_step (fun K hK => ?_); go_simp; first | (refine hK _ ?_; clear hK K) | (apply Exists.intro; refine ⟨fun p => ?_, hK _ ?_⟩; (first | with_reducible exact of_any _ (by assumption) (by assumption) _ | with_reducible exact sat_any _ (by omega) (by omega) _); clear hK K))
    refine low_nil ?_
    intro W6 hC
    have hb := hC.1
    clear k_a_0 k_a_1 k_r_0 k_r_1 k_x_0 k_x_1 k_x_2 k_y_0 k_y_1 k_y_2
    replace B_a := B_a.below hb
    replace B_r := B_r.below hb
    replace B_x := B_x.below hb
    replace B_y := B_y.below hb
    obtain ⟨hB', hS'⟩ := below_c (w := w) hb hB
    clear hC hb hB hS
    have hB := hB'; have hS := hS'; clear hB' hS'
    have c_r_0 := B_r.cell (v := .int .i64 0) 0 rfl
    have c_r_1 := B_r.cell (v := .int .i64 0) 1 rfl
    have lt_r := B_r.lt
    have f_r_0 := B_r.free 0
    have f_r_1 := B_r.free 1
    go_wp2
    refine post_name (fun W => Below w.heap.size w W ∧ Bk W (w.heap.size + 1 + 1) #[.int .i64 (sat (ax + tq ((bx - ax) * m) f)), .int .i64 (sat (ay + tq ((b' - ay) * m) f))] 55) ⟨(Below.setCell (p := ⟨w.heap.size + 1 + 1, 1, none⟩) (Below.setCell (p := ⟨w.heap.size + 1 + 1, 0, none⟩) hB o_r _) o_r _), (Bk.put (Bk.put B_r 0 _) 1 _)⟩ ?_
    clear c_r_0 c_r_1 lt_r f_r_0 f_r_1
    clear hB hS B_r
    rintro W7 ⟨hB, B_r⟩
    have hS := hB.size
    have c_r_0 := B_r.cell (v := .int .i64 (sat (ax + tq ((bx - ax) * m) f))) 0 rfl
    have c_r_1 := B_r.cell (v := .int .i64 (sat (ay + tq ((b' - ay) * m) f))) 1 rfl
    have lt_r := B_r.lt
    refine bodyPost_ret (v := V (sat (ax + tq ((bx - ax) * m) f)) (sat (ay + tq ((b' - ay) * m) f))) (by simp [results, Try.results55, go_sem, c_r_0, c_r_1]; try rfl) rfl ⟨by rw [HF.out, HV.out.1, HV.out.2], by (first | (go_grown; done) | (repeat (first | assumption | (refine Below.setCell ?_ (by first | assumption | (simp; omega) | omega) _) | (refine Below.alloc ?_ (by assumption) _))))⟩
theorem vtoward_is (ax ay bx b' m x y : Int) (h : (I64 ax ∧ I64 ay ∧ I64 bx ∧ I64 b' ∧ I64 m) ∧ ax + wst (bx - ax) (vfar (bx - ax) (b' - ay)) m = x ∧ ay + wst (b' - ay) (vfar (bx - ax) (b' - ay)) m = y) (w : World) :
    Calls Try.prog 55 #[V ax ay, V bx b', .int .i64 m] w fun e w' => e = .returned (V x y) ∧ Below w.heap.size w w' := by
  obtain ⟨⟨h1, h2, h3, h4, h5⟩, rfl, rfl⟩ := h
  exact vtoward_any ax ay bx b' m h1 h2 h3 h4 h5 w
set_option maxRecDepth 100000 in
set_option maxHeartbeats 4000000 in
theorem vlimit_any (ax ay m : Int) (hax : I64 ax) (hay : I64 ay) (hm : I64 m) (w : World) :
    Calls Try.prog 56 #[V ax ay, .int .i64 m] w fun e w' => e = .returned (V (wst ax (vfar ax ay) m) (wst ay (vfar ax ay) m)) ∧ Below w.heap.size w w' := by
  obtain ⟨l0, u0⟩ := hax
  obtain ⟨l1, u1⟩ := hay
  obtain ⟨l2, u2⟩ := hm
  have HT := Lib.hid (show (I64 0 ∧ I64 0 ∧ I64 ax ∧ I64 ay ∧ I64 m) ∧ 0 + wst (ax - 0) (vfar (ax - 0) (ay - 0)) m = wst ax (vfar ax ay) m ∧ 0 + wst (ay - 0) (vfar (ax - 0) (ay - 0)) m = wst ay (vfar ax ay) m from ⟨⟨⟨by decide, by decide⟩, ⟨by decide, by decide⟩, ⟨l0, u0⟩, ⟨l1, u1⟩, l2, u2⟩, by rw [Int.sub_zero, Int.sub_zero, Int.zero_add], by rw [Int.sub_zero, Int.sub_zero, Int.zero_add]⟩)
  go_enter Try.func56, Try.ntmps56
  go_wp2_with fail
  with_reducible refine (vtoward_is _ _ _ _ _ _ _ HT.out _).mono ?_
  rintro e W1 ⟨rfl, hb⟩
  have o_a : w.heap.size ≤ w.heap.size := Nat.le_add_right _ 0
  have o_r : w.heap.size ≤ w.heap.size + 1 := Nat.le_add_right _ 1
  have B'_a : Bk W1 (w.heap.size) #[.int .i64 ax, .int .i64 ay] 55 := Bk.below (by (repeat (first | with_reducible assumption | ((with_reducible refine Bk.at_ ?_); first | rfl | (simp; done)) | with_reducible apply Bk.alloc))) hb
  have B'_r : Bk W1 (w.heap.size + 1) #[.int .i64 0, .int .i64 0] 55 := Bk.below (by (repeat (first | with_reducible assumption | ((with_reducible refine Bk.at_ ?_); first | rfl | (simp; done)) | with_reducible apply Bk.alloc))) hb
  obtain ⟨hB', hS'⟩ := below_c (w := w) hb (by (first | (go_grown; done) | (repeat (first | assumption | (refine Below.setCell ?_ (by first | assumption | (simp; omega) | omega) _) | (refine Below.alloc ?_ (by assumption) _)))))
  clear hb
  have B_a := B'_a
  have B_r := B'_r
  have hB := hB'; have hS := hS'; clear hB' hS' B'_a B'_r
  have c_r_0 := B_r.cell (v := .int .i64 0) 0 rfl
  have c_r_1 := B_r.cell (v := .int .i64 0) 1 rfl
  have lt_r := B_r.lt
  have f_r_0 := B_r.free 0
  have f_r_1 := B_r.free 1
  go_wp2
  refine post_name (fun W => Below w.heap.size w W ∧ Bk W (w.heap.size + 1) #[.int .i64 (wst ax (vfar ax ay) m), .int .i64 (wst ay (vfar ax ay) m)] 55) ⟨(Below.setCell (p := ⟨w.heap.size + 1, 1, none⟩) (Below.setCell (p := ⟨w.heap.size + 1, 0, none⟩) hB o_r _) o_r _), (Bk.put (Bk.put B_r 0 _) 1 _)⟩ ?_
  clear c_r_0 c_r_1 lt_r f_r_0 f_r_1
  clear hB hS B_r
  rintro W2 ⟨hB, B_r⟩
  have hS := hB.size
  have c_r_0 := B_r.cell (v := .int .i64 (wst ax (vfar ax ay) m)) 0 rfl
  have c_r_1 := B_r.cell (v := .int .i64 (wst ay (vfar ax ay) m)) 1 rfl
  have lt_r := B_r.lt
  refine bodyPost_ret (v := V (wst ax (vfar ax ay) m) (wst ay (vfar ax ay) m)) (by simp [results, Try.results56, go_sem, c_r_0, c_r_1]; try rfl) rfl ⟨rfl, by (first | (go_grown; done) | (repeat (first | assumption | (refine Below.setCell ?_ (by first | assumption | (simp; omega) | omega) _) | (refine Below.alloc ?_ (by assumption) _))))⟩
/-- a number within the world -/
def wco (x : Int) : Int := x.tmod 1048577
theorem wco_bd (x : Int) : -1048576 ≤ wco x ∧ wco x ≤ 1048576 := by
  unfold wco
  have h1 := Int.lt_tmod_of_pos x (show (0 : Int) < 1048577 by decide)
  have h2 := Int.tmod_lt_of_pos x (show (0 : Int) < 1048577 by decide)
  omega
set_option maxHeartbeats 1000000 in
theorem world_any (x y : Int) (hx : -2147483648 ≤ x ∧ x ≤ 2147483647) (hy : -2147483648 ≤ y ∧ y ≤ 2147483647) (w : World) :
    Calls Try.prog 46 #[.int .i32 x, .int .i32 y] w fun e w' => e = .returned (V (wco x) (wco y)) ∧ Below w.heap.size w w' := by
  obtain ⟨p, hp⟩ : ∃ p, wco x = p := ⟨_, rfl⟩
  obtain ⟨q, hq⟩ : ∃ q, wco y = q := ⟨_, rfl⟩
  have HP := Lib.hid hp
  have HQ := Lib.hid hq
  rw [HP.out, HQ.out]
  have b1 := wco_bd x
  have b2 := wco_bd y
  rw [hp] at b1
  rw [hq] at b2
  obtain ⟨b3, b4⟩ := b1
  obtain ⟨b5, b6⟩ := b2
  unfold wco at hp hq
  obtain ⟨x1, x2⟩ := hx
  obtain ⟨y1, y2⟩ := hy
  go_enter Try.func46, Try.ntmps46
  go_wp2_with fail
  with_reducible refine (at_any p q _).mono ?_
  rintro e W1 ⟨rfl, hb⟩
  have o_r : w.heap.size ≤ w.heap.size := Nat.le_add_right _ 0
  have B'_r : Bk W1 (w.heap.size) #[.int .i64 0, .int .i64 0] 55 := Bk.below (by (repeat (first | with_reducible assumption | ((with_reducible refine Bk.at_ ?_); first | rfl | (simp; done)) | with_reducible apply Bk.alloc))) hb
  obtain ⟨hB', hS'⟩ := below_c (w := w) hb (by (first | (go_grown; done) | (repeat (first | assumption | (refine Below.setCell ?_ (by first | assumption | (simp; omega) | omega) _) | (refine Below.alloc ?_ (by assumption) _)))))
  clear hb
  have B_r := B'_r
  have hB := hB'; have hS := hS'; clear hB' hS' B'_r
  have c_r_0 := B_r.cell (v := .int .i64 0) 0 rfl
  have c_r_1 := B_r.cell (v := .int .i64 0) 1 rfl
  have lt_r := B_r.lt
  have f_r_0 := B_r.free 0
  have f_r_1 := B_r.free 1
  go_wp2
  refine post_name (fun W => Below w.heap.size w W ∧ Bk W (w.heap.size) #[.int .i64 p, .int .i64 q] 55) ⟨(Below.setCell (p := ⟨w.heap.size, 1, none⟩) (Below.setCell (p := ⟨w.heap.size, 0, none⟩) hB o_r _) o_r _), (Bk.put (Bk.put B_r 0 _) 1 _)⟩ ?_
  clear c_r_0 c_r_1 lt_r f_r_0 f_r_1
  clear hB hS B_r
  rintro W2 ⟨hB, B_r⟩
  have hS := hB.size
  have c_r_0 := B_r.cell (v := .int .i64 p) 0 rfl
  have c_r_1 := B_r.cell (v := .int .i64 q) 1 rfl
  have lt_r := B_r.lt
  refine bodyPost_ret (v := V p q) (by simp [results, Try.results46, go_sem, c_r_0, c_r_1]; try rfl) rfl ⟨rfl, by (first | (go_grown; done) | (repeat (first | assumption | (refine Below.setCell ?_ (by first | assumption | (simp; omega) | omega) _) | (refine Below.alloc ?_ (by assumption) _))))⟩
end Go.Proofs.Ytolifgjkejhlhaa
