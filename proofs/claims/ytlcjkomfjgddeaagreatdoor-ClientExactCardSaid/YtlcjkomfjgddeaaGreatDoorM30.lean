/- The walks of package vec, the rest: ways, distances, steps. -/
import Derived.Test.YtlcjkomfjgddeaaGreatDoorM29
import Derived.Test.YtlcjkomfjgddeaaGreatDoorM11
set_option linter.unusedVariables false
set_option linter.unusedSimpArgs false
namespace Go.Proofs.YtlcjkomfjgddeaaGreatDoor
open Go Go.RowKit Go.Sort
attribute [local go_sem] opLow opUpon

theorem eql_V (a b c d : Int) (w : World) : (binOp .eql 23 (V a b) (V c d)).run Tryz.prog w = .ok (.bool (decide (a = c ∧ b = d))) w := by
  by_cases h1 : a = c
  · by_cases h2 : b = d
    · subst h1; subst h2; simp [go_sem]
    · simp [go_sem, h1, h2]
  · simp [go_sem, h1]
theorem neq_V (a b c d : Int) (w : World) : (binOp .neq 23 (V a b) (V c d)).run Tryz.prog w = .ok (.bool (decide (¬ (a = c ∧ b = d)))) w := by
  by_cases h1 : a = c
  · by_cases h2 : b = d
    · subst h1; subst h2; simp [go_sem]
    · simp [go_sem, h1, h2]
  · simp [go_sem, h1]
theorem eqlv_V (a b c d : Int) (t : Bool) (h : decide (a = c ∧ b = d) = t) (w : World) : (binOp .eql 23 (V a b) (V c d)).run Tryz.prog w = .ok (.bool t) w := by rw [eql_V, h]
theorem neqv_V (a b c d : Int) (t : Bool) (h : decide (¬ (a = c ∧ b = d)) = t) (w : World) : (binOp .neq 23 (V a b) (V c d)).run Tryz.prog w = .ok (.bool t) w := by rw [neq_V, h]
theorem i64_mk {x : Int} (h1 : -9223372036854775808 ≤ x) (h2 : x ≤ 9223372036854775807) : I64 x := ⟨h1, h2⟩
theorem hiw_abs (x : Int) : hiw (x.natAbs : Int) = hiw x ∧ low (x.natAbs : Int) = low x ∧ ngw (x.natAbs : Int) = false := by
  unfold hiw low ngw
  refine ⟨by simp, by simp, by simp⟩
theorem tq_le (x y : Int) (hy : y ≠ 0) : ((tq x y).natAbs : Int) ≤ (x.natAbs : Int) := by
  have h : (x.natAbs : Int) / (y.natAbs : Int) ≤ (x.natAbs : Int) := Int.ediv_le_self _ (by omega)
  have h0 : 0 ≤ (x.natAbs : Int) / (y.natAbs : Int) := Int.ediv_nonneg (by omega) (by omega)
  unfold tq; split <;> omega
set_option maxRecDepth 100000 in
set_option maxHeartbeats 4000000 in
theorem vway_any (ax ay bx b' : Int) (hax : I64 ax) (hay : I64 ay) (hbx : I64 bx) (hb : I64 b') (w : World) :
    Calls Tryz.prog 95 #[V ax ay, V bx b'] w fun e w' => e = .returned (.tuple #[W (bx - ax), W (b' - ay), W (vfar (bx - ax) (b' - ay))]) ∧ Below w.heap.size w w' := by
  obtain ⟨l0, u0⟩ := hax
  obtain ⟨l1, u1⟩ := hay
  obtain ⟨l2, u2⟩ := hbx
  obtain ⟨l3, u3⟩ := hb
  by_cases hl : ((bx - ax).natAbs : Int) < ((b' - ay).natAbs : Int)
  · have HF := Lib.hid (show W (vfar (bx - ax) (b' - ay)) = .agg #[.int .u64 (hiw (b' - ay)), .int .u64 (low (b' - ay)), .bool false] by
      rw [show vfar (bx - ax) (b' - ay) = ((b' - ay).natAbs : Int) by unfold vfar; omega]
      show Value.agg #[_, _, _] = _
      rw [(hiw_abs (b' - ay)).1, (hiw_abs (b' - ay)).2.1, (hiw_abs (b' - ay)).2.2])
    have hlt := decide_eq_true hl
    replace hlt := Lib.hid hlt
    clear hl
    go_enter Tryz.func95, Tryz.ntmps95
    go_wp2
    have o_a : w.heap.size ≤ w.heap.size := Nat.le_add_right _ 0
    have o_b : w.heap.size ≤ w.heap.size + 1 := Nat.le_add_right _ 1
    have o_x : w.heap.size ≤ w.heap.size + 1 + 1 := Nat.le_add_right _ 2
    have o_y : w.heap.size ≤ w.heap.size + 1 + 1 + 1 := Nat.le_add_right _ 3
    have o_f : w.heap.size ≤ w.heap.size + 1 + 1 + 1 + 1 := Nat.le_add_right _ 4
    refine wp_name (fun W => Below w.heap.size w W ∧ Bk W (w.heap.size) #[.int .i64 ax, .int .i64 ay] 23 ∧ Bk W (w.heap.size + 1) #[.int .i64 bx, .int .i64 b'] 23 ∧ Bk W (w.heap.size + 1 + 1) #[.int .u64 0, .int .u64 0, .bool false] 162 ∧ Bk W (w.heap.size + 1 + 1 + 1) #[.int .u64 0, .int .u64 0, .bool false] 162 ∧ Bk W (w.heap.size + 1 + 1 + 1 + 1) #[.int .u64 0, .int .u64 0, .bool false] 162) ⟨by (first | (go_grown; done) | (repeat (first | assumption | (refine Below.setCell ?_ (by first | assumption | (simp; omega) | omega) _) | (refine Below.alloc ?_ (by assumption) _)))), by (repeat (first | with_reducible assumption | ((with_reducible refine Bk.at_ ?_); first | rfl | (simp; done)) | with_reducible apply Bk.alloc)), by (repeat (first | with_reducible assumption | ((with_reducible refine Bk.at_ ?_); first | rfl | (simp; done)) | with_reducible apply Bk.alloc)), by (repeat (first | with_reducible assumption | ((with_reducible refine Bk.at_ ?_); first | rfl | (simp; done)) | with_reducible apply Bk.alloc)), by (repeat (first | with_reducible assumption | ((with_reducible refine Bk.at_ ?_); first | rfl | (simp; done)) | with_reducible apply Bk.alloc)), by (repeat (first | with_reducible assumption | ((with_reducible refine Bk.at_ ?_); first | rfl | (simp; done)) | with_reducible apply Bk.alloc))⟩ ?_
    rintro W1 ⟨hB, B_a, B_b, B_x, B_y, B_f⟩
    have hS := hB.size
    have k_a_0 := cell_regrown (B_a.cell (v := .int .i64 ax) 0 rfl)
    have k_a_1 := cell_regrown (B_a.cell (v := .int .i64 ay) 1 rfl)
    have k_b_0 := cell_regrown (B_b.cell (v := .int .i64 bx) 0 rfl)
    have k_b_1 := cell_regrown (B_b.cell (v := .int .i64 b') 1 rfl)
    have k_x_0 := cell_regrown (B_x.cell (v := .int .u64 0) 0 rfl)
    have k_x_1 := cell_regrown (B_x.cell (v := .int .u64 0) 1 rfl)
    have k_x_2 := cell_regrown (B_x.cell (v := .bool false) 2 rfl)
    have k_y_0 := cell_regrown (B_y.cell (v := .int .u64 0) 0 rfl)
    have k_y_1 := cell_regrown (B_y.cell (v := .int .u64 0) 1 rfl)
    have k_y_2 := cell_regrown (B_y.cell (v := .bool false) 2 rfl)
    have k_f_0 := cell_regrown (B_f.cell (v := .int .u64 0) 0 rfl)
    have k_f_1 := cell_regrown (B_f.cell (v := .int .u64 0) 1 rfl)
    have k_f_2 := cell_regrown (B_f.cell (v := .bool false) 2 rfl)
    refine wp_region_low 10 (by kernel_rfl) (by kernel_rfl) ?_
    simp only [List.take, List.drop]
    iterate 10 (refine low_step (fun K hK => ?_); go_simp; first | (refine hK _ ?_; clear hK K) | (apply Exists.intro; refine ⟨fun p => ?_, hK _ ?_⟩; (first | with_reducible exact diff_any _ _ (by assumption) (by assumption) (by assumption) (by assumption) _); clear hK K))
    refine low_nil ?_
    intro W2 hC
    have hb := hC.1
    clear k_a_0 k_a_1 k_b_0 k_b_1 k_x_0 k_x_1 k_x_2 k_y_0 k_y_1 k_y_2 k_f_0 k_f_1 k_f_2
    replace B_a := B_a.below hb
    replace B_b := B_b.below hb
    replace B_x := B_x.below hb
    replace B_y := B_y.below hb
    replace B_f := B_f.below hb
    obtain ⟨hB', hS'⟩ := below_c (w := w) hb hB
    clear hC hb hB hS
    have hB := hB'; have hS := hS'; clear hB' hS'
    have c_x_0 := B_x.cell (v := .int .u64 0) 0 rfl
    have c_x_1 := B_x.cell (v := .int .u64 0) 1 rfl
    have c_x_2 := B_x.cell (v := .bool false) 2 rfl
    have lt_x := B_x.lt
    have f_x_0 := B_x.free 0
    have f_x_1 := B_x.free 1
    have f_x_2 := B_x.free 2
    have c_y_0 := B_y.cell (v := .int .u64 0) 0 rfl
    have c_y_1 := B_y.cell (v := .int .u64 0) 1 rfl
    have c_y_2 := B_y.cell (v := .bool false) 2 rfl
    have lt_y := B_y.lt
    have f_y_0 := B_y.free 0
    have f_y_1 := B_y.free 1
    have f_y_2 := B_y.free 2
    have c_f_0 := B_f.cell (v := .int .u64 0) 0 rfl
    have c_f_1 := B_f.cell (v := .int .u64 0) 1 rfl
    have c_f_2 := B_f.cell (v := .bool false) 2 rfl
    have lt_f := B_f.lt
    have f_f_0 := B_f.free 0
    have f_f_1 := B_f.free 1
    have f_f_2 := B_f.free 2
    go_wp2_with fail
    with_reducible refine (lesw_is (bx - ax) (b' - ay) _ hlt.out _).mono ?_
    rintro e W3 ⟨rfl, hb⟩
    clear c_x_0 c_x_1 c_x_2 lt_x f_x_0 f_x_1 f_x_2 c_y_0 c_y_1 c_y_2 lt_y f_y_0 f_y_1 f_y_2 c_f_0 c_f_1 c_f_2 lt_f f_f_0 f_f_1 f_f_2
    have o_x : w.heap.size ≤ w.heap.size + 1 + 1 := Nat.le_add_right _ 2
    have o_y : w.heap.size ≤ w.heap.size + 1 + 1 + 1 := Nat.le_add_right _ 3
    have o_f : w.heap.size ≤ w.heap.size + 1 + 1 + 1 + 1 := Nat.le_add_right _ 4
    have B'_x : Bk W3 (w.heap.size + 1 + 1) #[.int .u64 (hiw (bx - ax)), .int .u64 (low (bx - ax)), .bool (ngw (bx - ax))] 162 := Bk.below ((Bk.far (Bk.far (Bk.far (Bk.far (Bk.far (Bk.far (Bk.put (Bk.put (Bk.put B_x 0 _) 1 _) 2 _) (by first | assumption | (simp; done) | (exact Ne.symm (by assumption)) | (simp; omega)) _) (by first | assumption | (simp; done) | (exact Ne.symm (by assumption)) | (simp; omega)) _) (by first | assumption | (simp; done) | (exact Ne.symm (by assumption)) | (simp; omega)) _) (by first | assumption | (simp; done) | (exact Ne.symm (by assumption)) | (simp; omega)) _) (by first | assumption | (simp; done) | (exact Ne.symm (by assumption)) | (simp; omega)) _) (by first | assumption | (simp; done) | (exact Ne.symm (by assumption)) | (simp; omega)) _)) hb
    have B'_y : Bk W3 (w.heap.size + 1 + 1 + 1) #[.int .u64 (hiw (b' - ay)), .int .u64 (low (b' - ay)), .bool (ngw (b' - ay))] 162 := Bk.below ((Bk.far (Bk.far (Bk.far (Bk.put (Bk.put (Bk.put (Bk.far (Bk.far (Bk.far B_y (by first | assumption | (simp; done) | (exact Ne.symm (by assumption)) | (simp; omega)) _) (by first | assumption | (simp; done) | (exact Ne.symm (by assumption)) | (simp; omega)) _) (by first | assumption | (simp; done) | (exact Ne.symm (by assumption)) | (simp; omega)) _) 0 _) 1 _) 2 _) (by first | assumption | (simp; done) | (exact Ne.symm (by assumption)) | (simp; omega)) _) (by first | assumption | (simp; done) | (exact Ne.symm (by assumption)) | (simp; omega)) _) (by first | assumption | (simp; done) | (exact Ne.symm (by assumption)) | (simp; omega)) _)) hb
    have B'_f : Bk W3 (w.heap.size + 1 + 1 + 1 + 1) #[.int .u64 (hiw (bx - ax)), .int .u64 (low (bx - ax)), .bool false] 162 := Bk.below ((Bk.put (Bk.put (Bk.put (Bk.far (Bk.far (Bk.far (Bk.far (Bk.far (Bk.far B_f (by first | assumption | (simp; done) | (exact Ne.symm (by assumption)) | (simp; omega)) _) (by first | assumption | (simp; done) | (exact Ne.symm (by assumption)) | (simp; omega)) _) (by first | assumption | (simp; done) | (exact Ne.symm (by assumption)) | (simp; omega)) _) (by first | assumption | (simp; done) | (exact Ne.symm (by assumption)) | (simp; omega)) _) (by first | assumption | (simp; done) | (exact Ne.symm (by assumption)) | (simp; omega)) _) (by first | assumption | (simp; done) | (exact Ne.symm (by assumption)) | (simp; omega)) _) 0 _) 1 _) 2 _)) hb
    obtain ⟨hB', hS'⟩ := below_c (w := w) hb ((Below.setCell (p := ⟨w.heap.size + 1 + 1 + 1 + 1, 2, none⟩) (Below.setCell (p := ⟨w.heap.size + 1 + 1 + 1 + 1, 1, none⟩) (Below.setCell (p := ⟨w.heap.size + 1 + 1 + 1 + 1, 0, none⟩) (Below.setCell (p := ⟨w.heap.size + 1 + 1 + 1, 2, none⟩) (Below.setCell (p := ⟨w.heap.size + 1 + 1 + 1, 1, none⟩) (Below.setCell (p := ⟨w.heap.size + 1 + 1 + 1, 0, none⟩) (Below.setCell (p := ⟨w.heap.size + 1 + 1, 2, none⟩) (Below.setCell (p := ⟨w.heap.size + 1 + 1, 1, none⟩) (Below.setCell (p := ⟨w.heap.size + 1 + 1, 0, none⟩) hB o_x _) o_x _) o_x _) o_y _) o_y _) o_y _) o_f _) o_f _) o_f _))
    clear hb hB hS
    have B_x := B'_x
    have B_y := B'_y
    have B_f := B'_f
    have hB := hB'; have hS := hS'; clear hB' hS' B'_x B'_y B'_f
    have c_x_0 := B_x.cell (v := .int .u64 (hiw (bx - ax))) 0 rfl
    have c_x_1 := B_x.cell (v := .int .u64 (low (bx - ax))) 1 rfl
    have c_x_2 := B_x.cell (v := .bool (ngw (bx - ax))) 2 rfl
    have lt_x := B_x.lt
    have f_x_0 := B_x.free 0
    have f_x_1 := B_x.free 1
    have f_x_2 := B_x.free 2
    have c_y_0 := B_y.cell (v := .int .u64 (hiw (b' - ay))) 0 rfl
    have c_y_1 := B_y.cell (v := .int .u64 (low (b' - ay))) 1 rfl
    have c_y_2 := B_y.cell (v := .bool (ngw (b' - ay))) 2 rfl
    have lt_y := B_y.lt
    have f_y_0 := B_y.free 0
    have f_y_1 := B_y.free 1
    have f_y_2 := B_y.free 2
    have c_f_0 := B_f.cell (v := .int .u64 (hiw (bx - ax))) 0 rfl
    have c_f_1 := B_f.cell (v := .int .u64 (low (bx - ax))) 1 rfl
    have c_f_2 := B_f.cell (v := .bool false) 2 rfl
    have lt_f := B_f.lt
    have f_f_0 := B_f.free 0
    have f_f_1 := B_f.free 1
    have f_f_2 := B_f.free 2
    go_wp2
    refine wp_name (fun W => Below w.heap.size w W ∧ Bk W (w.heap.size + 1 + 1) #[.int .u64 (hiw (bx - ax)), .int .u64 (low (bx - ax)), .bool (ngw (bx - ax))] 162 ∧ Bk W (w.heap.size + 1 + 1 + 1) #[.int .u64 (hiw (b' - ay)), .int .u64 (low (b' - ay)), .bool (ngw (b' - ay))] 162 ∧ Bk W (w.heap.size + 1 + 1 + 1 + 1) #[.int .u64 (hiw (b' - ay)), .int .u64 (low (b' - ay)), .bool false] 162) ⟨(Below.setCell (p := ⟨w.heap.size + 1 + 1 + 1 + 1, 1, none⟩) (Below.setCell (p := ⟨w.heap.size + 1 + 1 + 1 + 1, 0, none⟩) hB o_f _) o_f _), (Bk.far (Bk.far B_x (by first | assumption | (simp; done) | (exact Ne.symm (by assumption)) | (simp; omega)) _) (by first | assumption | (simp; done) | (exact Ne.symm (by assumption)) | (simp; omega)) _), (Bk.far (Bk.far B_y (by first | assumption | (simp; done) | (exact Ne.symm (by assumption)) | (simp; omega)) _) (by first | assumption | (simp; done) | (exact Ne.symm (by assumption)) | (simp; omega)) _), (Bk.put (Bk.put B_f 0 _) 1 _)⟩ ?_
    clear c_x_0 c_x_1 c_x_2 lt_x f_x_0 f_x_1 f_x_2 c_y_0 c_y_1 c_y_2 lt_y f_y_0 f_y_1 f_y_2 c_f_0 c_f_1 c_f_2 lt_f f_f_0 f_f_1 f_f_2
    clear hB hS B_x B_y B_f
    rintro W4 ⟨hB, B_x, B_y, B_f⟩
    have hS := hB.size
    have c_x_0 := B_x.cell (v := .int .u64 (hiw (bx - ax))) 0 rfl
    have c_x_1 := B_x.cell (v := .int .u64 (low (bx - ax))) 1 rfl
    have c_x_2 := B_x.cell (v := .bool (ngw (bx - ax))) 2 rfl
    have lt_x := B_x.lt
    have f_x_0 := B_x.free 0
    have f_x_1 := B_x.free 1
    have f_x_2 := B_x.free 2
    have c_y_0 := B_y.cell (v := .int .u64 (hiw (b' - ay))) 0 rfl
    have c_y_1 := B_y.cell (v := .int .u64 (low (b' - ay))) 1 rfl
    have c_y_2 := B_y.cell (v := .bool (ngw (b' - ay))) 2 rfl
    have lt_y := B_y.lt
    have f_y_0 := B_y.free 0
    have f_y_1 := B_y.free 1
    have f_y_2 := B_y.free 2
    have c_f_0 := B_f.cell (v := .int .u64 (hiw (b' - ay))) 0 rfl
    have c_f_1 := B_f.cell (v := .int .u64 (low (b' - ay))) 1 rfl
    have c_f_2 := B_f.cell (v := .bool false) 2 rfl
    have lt_f := B_f.lt
    have f_f_0 := B_f.free 0
    have f_f_1 := B_f.free 1
    have f_f_2 := B_f.free 2
    go_region
    all_goals go_wp2
    all_goals
      refine bodyPost_ret (v := .tuple #[W (bx - ax), W (b' - ay), .agg #[.int .u64 (hiw (b' - ay)), .int .u64 (low (b' - ay)), .bool false]]) (by simp [results, Tryz.results95, go_sem, c_x_0, c_x_1, c_x_2, c_y_0, c_y_1, c_y_2, c_f_0, c_f_1, c_f_2]; try rfl) rfl ⟨by rw [HF.out], by (first | (go_grown; done) | (repeat (first | assumption | (refine Below.setCell ?_ (by first | assumption | (simp; omega) | omega) _) | (refine Below.alloc ?_ (by assumption) _))))⟩
  · have HF := Lib.hid (show W (vfar (bx - ax) (b' - ay)) = .agg #[.int .u64 (hiw (bx - ax)), .int .u64 (low (bx - ax)), .bool false] by
      rw [show vfar (bx - ax) (b' - ay) = ((bx - ax).natAbs : Int) by unfold vfar; omega]
      show Value.agg #[_, _, _] = _
      rw [(hiw_abs (bx - ax)).1, (hiw_abs (bx - ax)).2.1, (hiw_abs (bx - ax)).2.2])
    have hlt := decide_eq_false hl
    replace hlt := Lib.hid hlt
    clear hl
    go_enter Tryz.func95, Tryz.ntmps95
    go_wp2
    have o_a : w.heap.size ≤ w.heap.size := Nat.le_add_right _ 0
    have o_b : w.heap.size ≤ w.heap.size + 1 := Nat.le_add_right _ 1
    have o_x : w.heap.size ≤ w.heap.size + 1 + 1 := Nat.le_add_right _ 2
    have o_y : w.heap.size ≤ w.heap.size + 1 + 1 + 1 := Nat.le_add_right _ 3
    have o_f : w.heap.size ≤ w.heap.size + 1 + 1 + 1 + 1 := Nat.le_add_right _ 4
    refine wp_name (fun W => Below w.heap.size w W ∧ Bk W (w.heap.size) #[.int .i64 ax, .int .i64 ay] 23 ∧ Bk W (w.heap.size + 1) #[.int .i64 bx, .int .i64 b'] 23 ∧ Bk W (w.heap.size + 1 + 1) #[.int .u64 0, .int .u64 0, .bool false] 162 ∧ Bk W (w.heap.size + 1 + 1 + 1) #[.int .u64 0, .int .u64 0, .bool false] 162 ∧ Bk W (w.heap.size + 1 + 1 + 1 + 1) #[.int .u64 0, .int .u64 0, .bool false] 162) ⟨by (first | (go_grown; done) | (repeat (first | assumption | (refine Below.setCell ?_ (by first | assumption | (simp; omega) | omega) _) | (refine Below.alloc ?_ (by assumption) _)))), by (repeat (first | with_reducible assumption | ((with_reducible refine Bk.at_ ?_); first | rfl | (simp; done)) | with_reducible apply Bk.alloc)), by (repeat (first | with_reducible assumption | ((with_reducible refine Bk.at_ ?_); first | rfl | (simp; done)) | with_reducible apply Bk.alloc)), by (repeat (first | with_reducible assumption | ((with_reducible refine Bk.at_ ?_); first | rfl | (simp; done)) | with_reducible apply Bk.alloc)), by (repeat (first | with_reducible assumption | ((with_reducible refine Bk.at_ ?_); first | rfl | (simp; done)) | with_reducible apply Bk.alloc)), by (repeat (first | with_reducible assumption | ((with_reducible refine Bk.at_ ?_); first | rfl | (simp; done)) | with_reducible apply Bk.alloc))⟩ ?_
    rintro W1 ⟨hB, B_a, B_b, B_x, B_y, B_f⟩
    have hS := hB.size
    have k_a_0 := cell_regrown (B_a.cell (v := .int .i64 ax) 0 rfl)
    have k_a_1 := cell_regrown (B_a.cell (v := .int .i64 ay) 1 rfl)
    have k_b_0 := cell_regrown (B_b.cell (v := .int .i64 bx) 0 rfl)
    have k_b_1 := cell_regrown (B_b.cell (v := .int .i64 b') 1 rfl)
    have k_x_0 := cell_regrown (B_x.cell (v := .int .u64 0) 0 rfl)
    have k_x_1 := cell_regrown (B_x.cell (v := .int .u64 0) 1 rfl)
    have k_x_2 := cell_regrown (B_x.cell (v := .bool false) 2 rfl)
    have k_y_0 := cell_regrown (B_y.cell (v := .int .u64 0) 0 rfl)
    have k_y_1 := cell_regrown (B_y.cell (v := .int .u64 0) 1 rfl)
    have k_y_2 := cell_regrown (B_y.cell (v := .bool false) 2 rfl)
    have k_f_0 := cell_regrown (B_f.cell (v := .int .u64 0) 0 rfl)
    have k_f_1 := cell_regrown (B_f.cell (v := .int .u64 0) 1 rfl)
    have k_f_2 := cell_regrown (B_f.cell (v := .bool false) 2 rfl)
    refine wp_region_low 10 (by kernel_rfl) (by kernel_rfl) ?_
    simp only [List.take, List.drop]
    iterate 10 (refine low_step (fun K hK => ?_); go_simp; first | (refine hK _ ?_; clear hK K) | (apply Exists.intro; refine ⟨fun p => ?_, hK _ ?_⟩; (first | with_reducible exact diff_any _ _ (by assumption) (by assumption) (by assumption) (by assumption) _); clear hK K))
    refine low_nil ?_
    intro W2 hC
    have hb := hC.1
    clear k_a_0 k_a_1 k_b_0 k_b_1 k_x_0 k_x_1 k_x_2 k_y_0 k_y_1 k_y_2 k_f_0 k_f_1 k_f_2
    replace B_a := B_a.below hb
    replace B_b := B_b.below hb
    replace B_x := B_x.below hb
    replace B_y := B_y.below hb
    replace B_f := B_f.below hb
    obtain ⟨hB', hS'⟩ := below_c (w := w) hb hB
    clear hC hb hB hS
    have hB := hB'; have hS := hS'; clear hB' hS'
    have c_x_0 := B_x.cell (v := .int .u64 0) 0 rfl
    have c_x_1 := B_x.cell (v := .int .u64 0) 1 rfl
    have c_x_2 := B_x.cell (v := .bool false) 2 rfl
    have lt_x := B_x.lt
    have f_x_0 := B_x.free 0
    have f_x_1 := B_x.free 1
    have f_x_2 := B_x.free 2
    have c_y_0 := B_y.cell (v := .int .u64 0) 0 rfl
    have c_y_1 := B_y.cell (v := .int .u64 0) 1 rfl
    have c_y_2 := B_y.cell (v := .bool false) 2 rfl
    have lt_y := B_y.lt
    have f_y_0 := B_y.free 0
    have f_y_1 := B_y.free 1
    have f_y_2 := B_y.free 2
    have c_f_0 := B_f.cell (v := .int .u64 0) 0 rfl
    have c_f_1 := B_f.cell (v := .int .u64 0) 1 rfl
    have c_f_2 := B_f.cell (v := .bool false) 2 rfl
    have lt_f := B_f.lt
    have f_f_0 := B_f.free 0
    have f_f_1 := B_f.free 1
    have f_f_2 := B_f.free 2
    go_wp2_with fail
    with_reducible refine (lesw_is (bx - ax) (b' - ay) _ hlt.out _).mono ?_
    rintro e W3 ⟨rfl, hb⟩
    clear c_x_0 c_x_1 c_x_2 lt_x f_x_0 f_x_1 f_x_2 c_y_0 c_y_1 c_y_2 lt_y f_y_0 f_y_1 f_y_2 c_f_0 c_f_1 c_f_2 lt_f f_f_0 f_f_1 f_f_2
    have o_x : w.heap.size ≤ w.heap.size + 1 + 1 := Nat.le_add_right _ 2
    have o_y : w.heap.size ≤ w.heap.size + 1 + 1 + 1 := Nat.le_add_right _ 3
    have o_f : w.heap.size ≤ w.heap.size + 1 + 1 + 1 + 1 := Nat.le_add_right _ 4
    have B'_x : Bk W3 (w.heap.size + 1 + 1) #[.int .u64 (hiw (bx - ax)), .int .u64 (low (bx - ax)), .bool (ngw (bx - ax))] 162 := Bk.below ((Bk.far (Bk.far (Bk.far (Bk.far (Bk.far (Bk.far (Bk.put (Bk.put (Bk.put B_x 0 _) 1 _) 2 _) (by first | assumption | (simp; done) | (exact Ne.symm (by assumption)) | (simp; omega)) _) (by first | assumption | (simp; done) | (exact Ne.symm (by assumption)) | (simp; omega)) _) (by first | assumption | (simp; done) | (exact Ne.symm (by assumption)) | (simp; omega)) _) (by first | assumption | (simp; done) | (exact Ne.symm (by assumption)) | (simp; omega)) _) (by first | assumption | (simp; done) | (exact Ne.symm (by assumption)) | (simp; omega)) _) (by first | assumption | (simp; done) | (exact Ne.symm (by assumption)) | (simp; omega)) _)) hb
    have B'_y : Bk W3 (w.heap.size + 1 + 1 + 1) #[.int .u64 (hiw (b' - ay)), .int .u64 (low (b' - ay)), .bool (ngw (b' - ay))] 162 := Bk.below ((Bk.far (Bk.far (Bk.far (Bk.put (Bk.put (Bk.put (Bk.far (Bk.far (Bk.far B_y (by first | assumption | (simp; done) | (exact Ne.symm (by assumption)) | (simp; omega)) _) (by first | assumption | (simp; done) | (exact Ne.symm (by assumption)) | (simp; omega)) _) (by first | assumption | (simp; done) | (exact Ne.symm (by assumption)) | (simp; omega)) _) 0 _) 1 _) 2 _) (by first | assumption | (simp; done) | (exact Ne.symm (by assumption)) | (simp; omega)) _) (by first | assumption | (simp; done) | (exact Ne.symm (by assumption)) | (simp; omega)) _) (by first | assumption | (simp; done) | (exact Ne.symm (by assumption)) | (simp; omega)) _)) hb
    have B'_f : Bk W3 (w.heap.size + 1 + 1 + 1 + 1) #[.int .u64 (hiw (bx - ax)), .int .u64 (low (bx - ax)), .bool false] 162 := Bk.below ((Bk.put (Bk.put (Bk.put (Bk.far (Bk.far (Bk.far (Bk.far (Bk.far (Bk.far B_f (by first | assumption | (simp; done) | (exact Ne.symm (by assumption)) | (simp; omega)) _) (by first | assumption | (simp; done) | (exact Ne.symm (by assumption)) | (simp; omega)) _) (by first | assumption | (simp; done) | (exact Ne.symm (by assumption)) | (simp; omega)) _) (by first | assumption | (simp; done) | (exact Ne.symm (by assumption)) | (simp; omega)) _) (by first | assumption | (simp; done) | (exact Ne.symm (by assumption)) | (simp; omega)) _) (by first | assumption | (simp; done) | (exact Ne.symm (by assumption)) | (simp; omega)) _) 0 _) 1 _) 2 _)) hb
    obtain ⟨hB', hS'⟩ := below_c (w := w) hb ((Below.setCell (p := ⟨w.heap.size + 1 + 1 + 1 + 1, 2, none⟩) (Below.setCell (p := ⟨w.heap.size + 1 + 1 + 1 + 1, 1, none⟩) (Below.setCell (p := ⟨w.heap.size + 1 + 1 + 1 + 1, 0, none⟩) (Below.setCell (p := ⟨w.heap.size + 1 + 1 + 1, 2, none⟩) (Below.setCell (p := ⟨w.heap.size + 1 + 1 + 1, 1, none⟩) (Below.setCell (p := ⟨w.heap.size + 1 + 1 + 1, 0, none⟩) (Below.setCell (p := ⟨w.heap.size + 1 + 1, 2, none⟩) (Below.setCell (p := ⟨w.heap.size + 1 + 1, 1, none⟩) (Below.setCell (p := ⟨w.heap.size + 1 + 1, 0, none⟩) hB o_x _) o_x _) o_x _) o_y _) o_y _) o_y _) o_f _) o_f _) o_f _))
    clear hb hB hS
    have B_x := B'_x
    have B_y := B'_y
    have B_f := B'_f
    have hB := hB'; have hS := hS'; clear hB' hS' B'_x B'_y B'_f
    have c_x_0 := B_x.cell (v := .int .u64 (hiw (bx - ax))) 0 rfl
    have c_x_1 := B_x.cell (v := .int .u64 (low (bx - ax))) 1 rfl
    have c_x_2 := B_x.cell (v := .bool (ngw (bx - ax))) 2 rfl
    have lt_x := B_x.lt
    have f_x_0 := B_x.free 0
    have f_x_1 := B_x.free 1
    have f_x_2 := B_x.free 2
    have c_y_0 := B_y.cell (v := .int .u64 (hiw (b' - ay))) 0 rfl
    have c_y_1 := B_y.cell (v := .int .u64 (low (b' - ay))) 1 rfl
    have c_y_2 := B_y.cell (v := .bool (ngw (b' - ay))) 2 rfl
    have lt_y := B_y.lt
    have f_y_0 := B_y.free 0
    have f_y_1 := B_y.free 1
    have f_y_2 := B_y.free 2
    have c_f_0 := B_f.cell (v := .int .u64 (hiw (bx - ax))) 0 rfl
    have c_f_1 := B_f.cell (v := .int .u64 (low (bx - ax))) 1 rfl
    have c_f_2 := B_f.cell (v := .bool false) 2 rfl
    have lt_f := B_f.lt
    have f_f_0 := B_f.free 0
    have f_f_1 := B_f.free 1
    have f_f_2 := B_f.free 2
    go_wp2
    have f_x_0 := B_x.free 0
    have f_x_1 := B_x.free 1
    have f_x_2 := B_x.free 2
    have f_y_0 := B_y.free 0
    have f_y_1 := B_y.free 1
    have f_y_2 := B_y.free 2
    have f_f_0 := B_f.free 0
    have f_f_1 := B_f.free 1
    have f_f_2 := B_f.free 2
    go_region
    all_goals go_wp2
    all_goals
      refine bodyPost_ret (v := .tuple #[W (bx - ax), W (b' - ay), .agg #[.int .u64 (hiw (bx - ax)), .int .u64 (low (bx - ax)), .bool false]]) (by simp [results, Tryz.results95, go_sem, c_x_0, c_x_1, c_x_2, c_y_0, c_y_1, c_y_2, c_f_0, c_f_1, c_f_2]; try rfl) rfl ⟨by rw [HF.out], by (first | (go_grown; done) | (repeat (first | assumption | (refine Below.setCell ?_ (by first | assumption | (simp; omega) | omega) _) | (refine Below.alloc ?_ (by assumption) _))))⟩
theorem vway_f (ax ay bx b' f : Int) (hf : vfar (bx - ax) (b' - ay) = f) (hax : I64 ax) (hay : I64 ay) (hbx : I64 bx) (hb : I64 b') (w : World) :
    Calls Tryz.prog 95 #[V ax ay, V bx b'] w fun e w' => e = .returned (.tuple #[W (bx - ax), W (b' - ay), W f]) ∧ Below w.heap.size w w' := by
  subst hf; exact vway_any ax ay bx b' hax hay hbx hb w
set_option maxRecDepth 100000 in
set_option maxHeartbeats 4000000 in
theorem vtoward_any (ax ay bx b' m : Int) (hax : I64 ax) (hay : I64 ay) (hbx : I64 bx) (hb : I64 b') (hm : I64 m) (w : World) :
    Calls Tryz.prog 64 #[V ax ay, V bx b', .int .i64 m] w fun e w' => e = .returned (V (ax + wst (bx - ax) (vfar (bx - ax) (b' - ay)) m) (ay + wst (b' - ay) (vfar (bx - ax) (b' - ay)) m)) ∧ Below w.heap.size w w' := by
  obtain ⟨l0, u0⟩ := hax
  obtain ⟨l1, u1⟩ := hay
  obtain ⟨l2, u2⟩ := hbx
  obtain ⟨l3, u3⟩ := hb
  obtain ⟨l4, u4⟩ := hm
  rcases (show m ≤ 0 ∨ (0 < m ∧ (ax = bx ∧ ay = b')) ∨ (0 < m ∧ ¬ (ax = bx ∧ ay = b') ∧ vfar (bx - ax) (b' - ay) ≤ m) ∨ (0 < m ∧ ¬ (ax = bx ∧ ay = b') ∧ m < vfar (bx - ax) (b' - ay)) by omega) with h1 | ⟨h1, h2⟩ | ⟨h1, h2, h3⟩ | ⟨h1, h2, h3⟩
  · skip
    have HV := Lib.hid (show ax + wst (bx - ax) (vfar (bx - ax) (b' - ay)) m = ax ∧ ay + wst (b' - ay) (vfar (bx - ax) (b' - ay)) m = ay by unfold wst; rw [if_pos h1, if_pos h1]; omega)
    go_enter Tryz.func64, Tryz.ntmps64
    go_wp2
    refine bodyPost_ret (v := V ax ay) (by simp [results, Tryz.results64, go_sem]; try rfl) rfl ⟨by rw [HV.out.1, HV.out.2], by (first | (go_grown; done) | (repeat (first | assumption | (refine Below.setCell ?_ (by first | assumption | (simp; omega) | omega) _) | (refine Below.alloc ?_ (by assumption) _))))⟩
  · skip
    obtain ⟨rfl, rfl⟩ := h2
    have HV := Lib.hid (show ax + wst (ax - ax) (vfar (ax - ax) (ay - ay)) m = ax ∧ ay + wst (ay - ay) (vfar (ax - ax) (ay - ay)) m = ay by rw [Int.sub_self, Int.sub_self, wst_zero]; omega)
    have eqV := eqlv_V ax ay ax ay true (by simp)
    go_enter Tryz.func64, Tryz.ntmps64
    go_wp2
    refine bodyPost_ret (v := V ax ay) (by simp [results, Tryz.results64, go_sem]; try rfl) rfl ⟨by rw [HV.out.1, HV.out.2], by (first | (go_grown; done) | (repeat (first | assumption | (refine Below.setCell ?_ (by first | assumption | (simp; omega) | omega) _) | (refine Below.alloc ?_ (by assumption) _))))⟩
  · skip
    have eqV := eqlv_V ax ay bx b' false (by rw [decide_eq_false_iff_not]; exact h2)
    clear h2
    have hv := vfar_bd (bx - ax) (b' - ay)
    have hx := wst_any (bx - ax) (vfar (bx - ax) (b' - ay)) m hv.1
    have hy := wst_any (b' - ay) (vfar (bx - ax) (b' - ay)) m hv.2.1
    obtain ⟨f, hf⟩ : ∃ f, vfar (bx - ax) (b' - ay) = f := ⟨_, rfl⟩
    rw [hf] at hv hx hy h3
    have f1 : 0 ≤ f ∧ f ≤ 18446744073709551615 := by omega
    obtain ⟨f1, f2⟩ := f1
    have HV := Lib.hid (show ax + wst (bx - ax) f m = bx ∧ ay + wst (b' - ay) f m = b' by unfold wst; rw [if_neg (by omega), if_pos (by omega), if_neg (by omega), if_pos (by omega)]; omega)
    have HL := Lib.hid (show decide ((m.natAbs : Int) < (f.natAbs : Int)) = false by rw [decide_eq_false_iff_not]; omega)
    have HF := Lib.hid hf
    clear hf hx hy hv
    go_enter Tryz.func64, Tryz.ntmps64
    go_wp2_with fail
    with_reducible refine (vway_f _ _ _ _ f HF.out (i64_mk l0 u0) (i64_mk l1 u1) (i64_mk l2 u2) (i64_mk l3 u3) _).mono ?_
    rintro e W1 ⟨rfl, hb⟩
    have o_a : w.heap.size ≤ w.heap.size := Nat.le_add_right _ 0
    have o_b : w.heap.size ≤ w.heap.size + 1 := Nat.le_add_right _ 1
    have o_r : w.heap.size ≤ w.heap.size + 1 + 1 := Nat.le_add_right _ 2
    have B'_a : Bk W1 (w.heap.size) #[.int .i64 ax, .int .i64 ay] 23 := Bk.below (by (repeat (first | with_reducible assumption | ((with_reducible refine Bk.at_ ?_); first | rfl | (simp; done)) | with_reducible apply Bk.alloc))) hb
    have B'_b : Bk W1 (w.heap.size + 1) #[.int .i64 bx, .int .i64 b'] 23 := Bk.below (by (repeat (first | with_reducible assumption | ((with_reducible refine Bk.at_ ?_); first | rfl | (simp; done)) | with_reducible apply Bk.alloc))) hb
    have B'_r : Bk W1 (w.heap.size + 1 + 1) #[.int .i64 0, .int .i64 0] 23 := Bk.below (by (repeat (first | with_reducible assumption | ((with_reducible refine Bk.at_ ?_); first | rfl | (simp; done)) | with_reducible apply Bk.alloc))) hb
    obtain ⟨hB', hS'⟩ := below_c (w := w) hb (by (first | (go_grown; done) | (repeat (first | assumption | (refine Below.setCell ?_ (by first | assumption | (simp; omega) | omega) _) | (refine Below.alloc ?_ (by assumption) _)))))
    clear hb
    have B_a := B'_a
    have B_b := B'_b
    have B_r := B'_r
    have hB := hB'; have hS := hS'; clear hB' hS' B'_a B'_b B'_r
    go_wp2_with fail
    with_reducible refine (of_any _ (by assumption) (by assumption) _).mono ?_
    rintro e W2 ⟨rfl, hb⟩
    have o_x : w.heap.size ≤ W1.heap.size := Nat.le_trans hS (Nat.le_add_right _ 0)
    have n_a_x : w.heap.size ≠ W1.heap.size := B_a.apart 0
    have n_b_x : w.heap.size + 1 ≠ W1.heap.size := B_b.apart 0
    have n_r_x : w.heap.size + 1 + 1 ≠ W1.heap.size := B_r.apart 0
    have o_y : w.heap.size ≤ W1.heap.size + 1 := Nat.le_trans hS (Nat.le_add_right _ 1)
    have n_a_y : w.heap.size ≠ W1.heap.size + 1 := B_a.apart 1
    have n_b_y : w.heap.size + 1 ≠ W1.heap.size + 1 := B_b.apart 1
    have n_r_y : w.heap.size + 1 + 1 ≠ W1.heap.size + 1 := B_r.apart 1
    have B'_a : Bk W2 (w.heap.size) #[.int .i64 ax, .int .i64 ay] 23 := Bk.below (by (repeat (first | with_reducible assumption | ((with_reducible refine Bk.at_ ?_); first | rfl | (simp; done)) | with_reducible apply Bk.alloc))) hb
    have B'_b : Bk W2 (w.heap.size + 1) #[.int .i64 bx, .int .i64 b'] 23 := Bk.below (by (repeat (first | with_reducible assumption | ((with_reducible refine Bk.at_ ?_); first | rfl | (simp; done)) | with_reducible apply Bk.alloc))) hb
    have B'_r : Bk W2 (w.heap.size + 1 + 1) #[.int .i64 0, .int .i64 0] 23 := Bk.below (by (repeat (first | with_reducible assumption | ((with_reducible refine Bk.at_ ?_); first | rfl | (simp; done)) | with_reducible apply Bk.alloc))) hb
    have B'_x : Bk W2 (W1.heap.size) #[.int .u64 (hiw (bx - ax)), .int .u64 (low (bx - ax)), .bool (ngw (bx - ax))] 162 := Bk.below (by (repeat (first | with_reducible assumption | ((with_reducible refine Bk.at_ ?_); first | rfl | (simp; done)) | with_reducible apply Bk.alloc))) hb
    have B'_y : Bk W2 (W1.heap.size + 1) #[.int .u64 (hiw (b' - ay)), .int .u64 (low (b' - ay)), .bool (ngw (b' - ay))] 162 := Bk.below (by (repeat (first | with_reducible assumption | ((with_reducible refine Bk.at_ ?_); first | rfl | (simp; done)) | with_reducible apply Bk.alloc))) hb
    have B'_f : Bk W2 (W1.heap.size + 1 + 1) #[.int .u64 (hiw (f)), .int .u64 (low (f)), .bool (ngw (f))] 162 := Bk.below (by (repeat (first | with_reducible assumption | ((with_reducible refine Bk.at_ ?_); first | rfl | (simp; done)) | with_reducible apply Bk.alloc))) hb
    obtain ⟨hB', hS'⟩ := below_c (w := w) hb (by (first | (go_grown; done) | (repeat (first | assumption | (refine Below.setCell ?_ (by first | assumption | (simp; omega) | omega) _) | (refine Below.alloc ?_ (by assumption) _)))))
    clear hb hB hS B_a B_b B_r
    have B_a := B'_a
    have B_b := B'_b
    have B_r := B'_r
    have B_x := B'_x
    have B_y := B'_y
    have B_f := B'_f
    have hB := hB'; have hS := hS'; clear hB' hS' B'_a B'_b B'_r B'_x B'_y B'_f
    have c_f_0 := B_f.cell (v := .int .u64 (hiw (f))) 0 rfl
    have c_f_1 := B_f.cell (v := .int .u64 (low (f))) 1 rfl
    have c_f_2 := B_f.cell (v := .bool (ngw (f))) 2 rfl
    have lt_f := B_f.lt
    go_wp2_with fail
    with_reducible refine (lesw_is m f _ HL.out _).mono ?_
    rintro e W3 ⟨rfl, hb⟩
    clear c_f_0 c_f_1 c_f_2 lt_f
    have n_x_s : W1.heap.size ≠ W2.heap.size := B_x.apart 0
    have n_y_s : W1.heap.size + 1 ≠ W2.heap.size := B_y.apart 0
    have B'_a : Bk W3 (w.heap.size) #[.int .i64 ax, .int .i64 ay] 23 := Bk.below (by (repeat (first | with_reducible assumption | ((with_reducible refine Bk.at_ ?_); first | rfl | (simp; done)) | with_reducible apply Bk.alloc))) hb
    have B'_b : Bk W3 (w.heap.size + 1) #[.int .i64 bx, .int .i64 b'] 23 := Bk.below (by (repeat (first | with_reducible assumption | ((with_reducible refine Bk.at_ ?_); first | rfl | (simp; done)) | with_reducible apply Bk.alloc))) hb
    have B'_r : Bk W3 (w.heap.size + 1 + 1) #[.int .i64 0, .int .i64 0] 23 := Bk.below (by (repeat (first | with_reducible assumption | ((with_reducible refine Bk.at_ ?_); first | rfl | (simp; done)) | with_reducible apply Bk.alloc))) hb
    have B'_x : Bk W3 (W1.heap.size) #[.int .u64 (hiw (bx - ax)), .int .u64 (low (bx - ax)), .bool (ngw (bx - ax))] 162 := Bk.below (by (repeat (first | with_reducible assumption | ((with_reducible refine Bk.at_ ?_); first | rfl | (simp; done)) | with_reducible apply Bk.alloc))) hb
    have B'_y : Bk W3 (W1.heap.size + 1) #[.int .u64 (hiw (b' - ay)), .int .u64 (low (b' - ay)), .bool (ngw (b' - ay))] 162 := Bk.below (by (repeat (first | with_reducible assumption | ((with_reducible refine Bk.at_ ?_); first | rfl | (simp; done)) | with_reducible apply Bk.alloc))) hb
    have B'_f : Bk W3 (W1.heap.size + 1 + 1) #[.int .u64 (hiw (f)), .int .u64 (low (f)), .bool (ngw (f))] 162 := Bk.below (by (repeat (first | with_reducible assumption | ((with_reducible refine Bk.at_ ?_); first | rfl | (simp; done)) | with_reducible apply Bk.alloc))) hb
    have B'_s : Bk W3 (W2.heap.size) #[.int .u64 (hiw (m)), .int .u64 (low (m)), .bool (ngw (m))] 162 := Bk.below (by (repeat (first | with_reducible assumption | ((with_reducible refine Bk.at_ ?_); first | rfl | (simp; done)) | with_reducible apply Bk.alloc))) hb
    obtain ⟨hB', hS'⟩ := below_c (w := w) hb (by (first | (go_grown; done) | (repeat (first | assumption | (refine Below.setCell ?_ (by first | assumption | (simp; omega) | omega) _) | (refine Below.alloc ?_ (by assumption) _)))))
    clear hb hB hS B_a B_b B_r B_x B_y B_f
    have B_a := B'_a
    have B_b := B'_b
    have B_r := B'_r
    have B_x := B'_x
    have B_y := B'_y
    have B_f := B'_f
    have B_s := B'_s
    have hB := hB'; have hS := hS'; clear hB' hS' B'_a B'_b B'_r B'_x B'_y B'_f B'_s
    have c_b_0 := B_b.cell (v := .int .i64 bx) 0 rfl
    have c_b_1 := B_b.cell (v := .int .i64 b') 1 rfl
    have lt_b := B_b.lt
    have c_r_0 := B_r.cell (v := .int .i64 0) 0 rfl
    have c_r_1 := B_r.cell (v := .int .i64 0) 1 rfl
    have lt_r := B_r.lt
    have f_r_0 := B_r.free 0
    have f_r_1 := B_r.free 1
    go_wp2
    refine post_name (fun W => Below w.heap.size w W ∧ Bk W (w.heap.size + 1 + 1) #[.int .i64 bx, .int .i64 b'] 23) ⟨(Below.setCell (p := ⟨w.heap.size + 1 + 1, 1, none⟩) (Below.setCell (p := ⟨w.heap.size + 1 + 1, 0, none⟩) hB o_r _) o_r _), (Bk.put (Bk.put B_r 0 _) 1 _)⟩ ?_
    clear c_b_0 c_b_1 lt_b c_r_0 c_r_1 lt_r f_r_0 f_r_1
    clear hB hS B_r
    rintro W4 ⟨hB, B_r⟩
    have hS := hB.size
    have c_r_0 := B_r.cell (v := .int .i64 bx) 0 rfl
    have c_r_1 := B_r.cell (v := .int .i64 b') 1 rfl
    have lt_r := B_r.lt
    refine bodyPost_ret (v := V bx b') (by simp [results, Tryz.results64, go_sem, c_r_0, c_r_1]; try rfl) rfl ⟨by rw [HF.out, HV.out.1, HV.out.2], by (first | (go_grown; done) | (repeat (first | assumption | (refine Below.setCell ?_ (by first | assumption | (simp; omega) | omega) _) | (refine Below.alloc ?_ (by assumption) _))))⟩
  · skip
    have eqV := eqlv_V ax ay bx b' false (by rw [decide_eq_false_iff_not]; exact h2)
    clear h2
    have hv := vfar_bd (bx - ax) (b' - ay)
    have hx := wst_any (bx - ax) (vfar (bx - ax) (b' - ay)) m hv.1
    have hy := wst_any (b' - ay) (vfar (bx - ax) (b' - ay)) m hv.2.1
    obtain ⟨f, hf⟩ : ∃ f, vfar (bx - ax) (b' - ay) = f := ⟨_, rfl⟩
    rw [hf] at hv hx hy h3
    have f1 : 0 ≤ f ∧ f ≤ 18446744073709551615 := by omega
    obtain ⟨f1, f2⟩ := f1
    have e1 : wst (bx - ax) f m = tq ((bx - ax) * m) f := by unfold wst; rw [if_neg (by omega), if_neg (by omega)]
    have e2 : wst (b' - ay) f m = tq ((b' - ay) * m) f := by unfold wst; rw [if_neg (by omega), if_neg (by omega)]
    rw [e1] at hx
    rw [e2] at hy
    have HL := Lib.hid (show decide ((m.natAbs : Int) < (f.natAbs : Int)) = true by rw [decide_eq_true_iff]; omega)
    have hp1 := natAbs_mul_lt (bx - ax) m 18446744073709551615 9223372036854775808 (by omega) (by omega)
    have hp2 := natAbs_mul_lt (b' - ay) m 18446744073709551615 9223372036854775808 (by omega) (by omega)
    have hnz : f ≠ 0 := by omega
    have hb1 : -9223372036854775808 ≤ ax + tq ((bx - ax) * m) f ∧ ax + tq ((bx - ax) * m) f ≤ 9223372036854775807 := by omega
    have hb2 : -9223372036854775808 ≤ ay + tq ((b' - ay) * m) f ∧ ay + tq ((b' - ay) * m) f ≤ 9223372036854775807 := by omega
    have hq1 : (tq ((bx - ax) * m) f).natAbs < 170141183460469231731687303715884105728 ∧ (tq ((b' - ay) * m) f).natAbs < 170141183460469231731687303715884105728 := by omega
    have HV := Lib.hid (show sat (ax + tq ((bx - ax) * m) f) = ax + wst (bx - ax) f m ∧ sat (ay + tq ((b' - ay) * m) f) = ay + wst (b' - ay) f m by rw [sat_in _ hb1.1 hb1.2, sat_in _ hb2.1 hb2.2, e1, e2]; exact ⟨rfl, rfl⟩)
    clear e1 e2
    have HF := Lib.hid hf
    clear hf hx hy hv
    go_enter Tryz.func64, Tryz.ntmps64
    go_wp2_with fail
    with_reducible refine (vway_f _ _ _ _ f HF.out (i64_mk l0 u0) (i64_mk l1 u1) (i64_mk l2 u2) (i64_mk l3 u3) _).mono ?_
    rintro e W1 ⟨rfl, hb⟩
    have o_a : w.heap.size ≤ w.heap.size := Nat.le_add_right _ 0
    have o_b : w.heap.size ≤ w.heap.size + 1 := Nat.le_add_right _ 1
    have o_r : w.heap.size ≤ w.heap.size + 1 + 1 := Nat.le_add_right _ 2
    have B'_a : Bk W1 (w.heap.size) #[.int .i64 ax, .int .i64 ay] 23 := Bk.below (by (repeat (first | with_reducible assumption | ((with_reducible refine Bk.at_ ?_); first | rfl | (simp; done)) | with_reducible apply Bk.alloc))) hb
    have B'_b : Bk W1 (w.heap.size + 1) #[.int .i64 bx, .int .i64 b'] 23 := Bk.below (by (repeat (first | with_reducible assumption | ((with_reducible refine Bk.at_ ?_); first | rfl | (simp; done)) | with_reducible apply Bk.alloc))) hb
    have B'_r : Bk W1 (w.heap.size + 1 + 1) #[.int .i64 0, .int .i64 0] 23 := Bk.below (by (repeat (first | with_reducible assumption | ((with_reducible refine Bk.at_ ?_); first | rfl | (simp; done)) | with_reducible apply Bk.alloc))) hb
    obtain ⟨hB', hS'⟩ := below_c (w := w) hb (by (first | (go_grown; done) | (repeat (first | assumption | (refine Below.setCell ?_ (by first | assumption | (simp; omega) | omega) _) | (refine Below.alloc ?_ (by assumption) _)))))
    clear hb
    have B_a := B'_a
    have B_b := B'_b
    have B_r := B'_r
    have hB := hB'; have hS := hS'; clear hB' hS' B'_a B'_b B'_r
    go_wp2_with fail
    with_reducible refine (of_any _ (by assumption) (by assumption) _).mono ?_
    rintro e W2 ⟨rfl, hb⟩
    have o_x : w.heap.size ≤ W1.heap.size := Nat.le_trans hS (Nat.le_add_right _ 0)
    have n_a_x : w.heap.size ≠ W1.heap.size := B_a.apart 0
    have n_b_x : w.heap.size + 1 ≠ W1.heap.size := B_b.apart 0
    have n_r_x : w.heap.size + 1 + 1 ≠ W1.heap.size := B_r.apart 0
    have o_y : w.heap.size ≤ W1.heap.size + 1 := Nat.le_trans hS (Nat.le_add_right _ 1)
    have n_a_y : w.heap.size ≠ W1.heap.size + 1 := B_a.apart 1
    have n_b_y : w.heap.size + 1 ≠ W1.heap.size + 1 := B_b.apart 1
    have n_r_y : w.heap.size + 1 + 1 ≠ W1.heap.size + 1 := B_r.apart 1
    have B'_a : Bk W2 (w.heap.size) #[.int .i64 ax, .int .i64 ay] 23 := Bk.below (by (repeat (first | with_reducible assumption | ((with_reducible refine Bk.at_ ?_); first | rfl | (simp; done)) | with_reducible apply Bk.alloc))) hb
    have B'_b : Bk W2 (w.heap.size + 1) #[.int .i64 bx, .int .i64 b'] 23 := Bk.below (by (repeat (first | with_reducible assumption | ((with_reducible refine Bk.at_ ?_); first | rfl | (simp; done)) | with_reducible apply Bk.alloc))) hb
    have B'_r : Bk W2 (w.heap.size + 1 + 1) #[.int .i64 0, .int .i64 0] 23 := Bk.below (by (repeat (first | with_reducible assumption | ((with_reducible refine Bk.at_ ?_); first | rfl | (simp; done)) | with_reducible apply Bk.alloc))) hb
    have B'_x : Bk W2 (W1.heap.size) #[.int .u64 (hiw (bx - ax)), .int .u64 (low (bx - ax)), .bool (ngw (bx - ax))] 162 := Bk.below (by (repeat (first | with_reducible assumption | ((with_reducible refine Bk.at_ ?_); first | rfl | (simp; done)) | with_reducible apply Bk.alloc))) hb
    have B'_y : Bk W2 (W1.heap.size + 1) #[.int .u64 (hiw (b' - ay)), .int .u64 (low (b' - ay)), .bool (ngw (b' - ay))] 162 := Bk.below (by (repeat (first | with_reducible assumption | ((with_reducible refine Bk.at_ ?_); first | rfl | (simp; done)) | with_reducible apply Bk.alloc))) hb
    have B'_f : Bk W2 (W1.heap.size + 1 + 1) #[.int .u64 (hiw (f)), .int .u64 (low (f)), .bool (ngw (f))] 162 := Bk.below (by (repeat (first | with_reducible assumption | ((with_reducible refine Bk.at_ ?_); first | rfl | (simp; done)) | with_reducible apply Bk.alloc))) hb
    obtain ⟨hB', hS'⟩ := below_c (w := w) hb (by (first | (go_grown; done) | (repeat (first | assumption | (refine Below.setCell ?_ (by first | assumption | (simp; omega) | omega) _) | (refine Below.alloc ?_ (by assumption) _)))))
    clear hb hB hS B_a B_b B_r
    have B_a := B'_a
    have B_b := B'_b
    have B_r := B'_r
    have B_x := B'_x
    have B_y := B'_y
    have B_f := B'_f
    have hB := hB'; have hS := hS'; clear hB' hS' B'_a B'_b B'_r B'_x B'_y B'_f
    have c_f_0 := B_f.cell (v := .int .u64 (hiw (f))) 0 rfl
    have c_f_1 := B_f.cell (v := .int .u64 (low (f))) 1 rfl
    have c_f_2 := B_f.cell (v := .bool (ngw (f))) 2 rfl
    have lt_f := B_f.lt
    go_wp2_with fail
    with_reducible refine (lesw_is m f _ HL.out _).mono ?_
    rintro e W3 ⟨rfl, hb⟩
    clear c_f_0 c_f_1 c_f_2 lt_f
    have n_x_s : W1.heap.size ≠ W2.heap.size := B_x.apart 0
    have n_y_s : W1.heap.size + 1 ≠ W2.heap.size := B_y.apart 0
    have B'_a : Bk W3 (w.heap.size) #[.int .i64 ax, .int .i64 ay] 23 := Bk.below (by (repeat (first | with_reducible assumption | ((with_reducible refine Bk.at_ ?_); first | rfl | (simp; done)) | with_reducible apply Bk.alloc))) hb
    have B'_b : Bk W3 (w.heap.size + 1) #[.int .i64 bx, .int .i64 b'] 23 := Bk.below (by (repeat (first | with_reducible assumption | ((with_reducible refine Bk.at_ ?_); first | rfl | (simp; done)) | with_reducible apply Bk.alloc))) hb
    have B'_r : Bk W3 (w.heap.size + 1 + 1) #[.int .i64 0, .int .i64 0] 23 := Bk.below (by (repeat (first | with_reducible assumption | ((with_reducible refine Bk.at_ ?_); first | rfl | (simp; done)) | with_reducible apply Bk.alloc))) hb
    have B'_x : Bk W3 (W1.heap.size) #[.int .u64 (hiw (bx - ax)), .int .u64 (low (bx - ax)), .bool (ngw (bx - ax))] 162 := Bk.below (by (repeat (first | with_reducible assumption | ((with_reducible refine Bk.at_ ?_); first | rfl | (simp; done)) | with_reducible apply Bk.alloc))) hb
    have B'_y : Bk W3 (W1.heap.size + 1) #[.int .u64 (hiw (b' - ay)), .int .u64 (low (b' - ay)), .bool (ngw (b' - ay))] 162 := Bk.below (by (repeat (first | with_reducible assumption | ((with_reducible refine Bk.at_ ?_); first | rfl | (simp; done)) | with_reducible apply Bk.alloc))) hb
    have B'_f : Bk W3 (W1.heap.size + 1 + 1) #[.int .u64 (hiw (f)), .int .u64 (low (f)), .bool (ngw (f))] 162 := Bk.below (by (repeat (first | with_reducible assumption | ((with_reducible refine Bk.at_ ?_); first | rfl | (simp; done)) | with_reducible apply Bk.alloc))) hb
    have B'_s : Bk W3 (W2.heap.size) #[.int .u64 (hiw (m)), .int .u64 (low (m)), .bool (ngw (m))] 162 := Bk.below (by (repeat (first | with_reducible assumption | ((with_reducible refine Bk.at_ ?_); first | rfl | (simp; done)) | with_reducible apply Bk.alloc))) hb
    obtain ⟨hB', hS'⟩ := below_c (w := w) hb (by (first | (go_grown; done) | (repeat (first | assumption | (refine Below.setCell ?_ (by first | assumption | (simp; omega) | omega) _) | (refine Below.alloc ?_ (by assumption) _)))))
    clear hb hB hS B_a B_b B_r B_x B_y B_f
    have B_a := B'_a
    have B_b := B'_b
    have B_r := B'_r
    have B_x := B'_x
    have B_y := B'_y
    have B_f := B'_f
    have B_s := B'_s
    have hB := hB'; have hS := hS'; clear hB' hS' B'_a B'_b B'_r B'_x B'_y B'_f B'_s
    go_wp2_with fail
    have k_a_0 := cell_regrown (B_a.cell (v := .int .i64 ax) 0 rfl)
    have k_a_1 := cell_regrown (B_a.cell (v := .int .i64 ay) 1 rfl)
    have k_b_0 := cell_regrown (B_b.cell (v := .int .i64 bx) 0 rfl)
    have k_b_1 := cell_regrown (B_b.cell (v := .int .i64 b') 1 rfl)
    have k_r_0 := cell_regrown (B_r.cell (v := .int .i64 0) 0 rfl)
    have k_r_1 := cell_regrown (B_r.cell (v := .int .i64 0) 1 rfl)
    have k_x_0 := cell_regrown (B_x.cell (v := .int .u64 (hiw (bx - ax))) 0 rfl)
    have k_x_1 := cell_regrown (B_x.cell (v := .int .u64 (low (bx - ax))) 1 rfl)
    have k_x_2 := cell_regrown (B_x.cell (v := .bool (ngw (bx - ax))) 2 rfl)
    have k_y_0 := cell_regrown (B_y.cell (v := .int .u64 (hiw (b' - ay))) 0 rfl)
    have k_y_1 := cell_regrown (B_y.cell (v := .int .u64 (low (b' - ay))) 1 rfl)
    have k_y_2 := cell_regrown (B_y.cell (v := .bool (ngw (b' - ay))) 2 rfl)
    have k_f_0 := cell_regrown (B_f.cell (v := .int .u64 (hiw (f))) 0 rfl)
    have k_f_1 := cell_regrown (B_f.cell (v := .int .u64 (low (f))) 1 rfl)
    have k_f_2 := cell_regrown (B_f.cell (v := .bool (ngw (f))) 2 rfl)
    have k_s_0 := cell_regrown (B_s.cell (v := .int .u64 (hiw (m))) 0 rfl)
    have k_s_1 := cell_regrown (B_s.cell (v := .int .u64 (low (m))) 1 rfl)
    have k_s_2 := cell_regrown (B_s.cell (v := .bool (ngw (m))) 2 rfl)
    refine wp_region_low 10 (by kernel_rfl) (by kernel_rfl) ?_
    simp only [List.take, List.drop]
    iterate 10 (refine low_step (fun K hK => ?_); go_simp; first | (refine hK _ ?_; clear hK K) | (apply Exists.intro; refine ⟨fun p => ?_, hK _ ?_⟩; (first | with_reducible exact mul_W _ _ (by omega) (by omega) (by omega) (by omega) _ | with_reducible exact trunc_any _ _ (by omega) (by omega) hnz (by omega) (by omega) _); clear hK K))
    refine low_nil ?_
    intro W4 hC
    have hb := hC.1
    clear k_a_0 k_a_1 k_b_0 k_b_1 k_r_0 k_r_1 k_x_0 k_x_1 k_x_2 k_y_0 k_y_1 k_y_2 k_f_0 k_f_1 k_f_2 k_s_0 k_s_1 k_s_2
    replace B_a := B_a.below hb
    replace B_b := B_b.below hb
    replace B_r := B_r.below hb
    replace B_x := B_x.below hb
    replace B_y := B_y.below hb
    replace B_f := B_f.below hb
    replace B_s := B_s.below hb
    obtain ⟨hB', hS'⟩ := below_c (w := w) hb hB
    clear hC hb hB hS
    have hB := hB'; have hS := hS'; clear hB' hS'
    have c_x_0 := B_x.cell (v := .int .u64 (hiw (bx - ax))) 0 rfl
    have c_x_1 := B_x.cell (v := .int .u64 (low (bx - ax))) 1 rfl
    have c_x_2 := B_x.cell (v := .bool (ngw (bx - ax))) 2 rfl
    have lt_x := B_x.lt
    have f_x_0 := B_x.free 0
    have f_x_1 := B_x.free 1
    have f_x_2 := B_x.free 2
    have c_y_0 := B_y.cell (v := .int .u64 (hiw (b' - ay))) 0 rfl
    have c_y_1 := B_y.cell (v := .int .u64 (low (b' - ay))) 1 rfl
    have c_y_2 := B_y.cell (v := .bool (ngw (b' - ay))) 2 rfl
    have lt_y := B_y.lt
    have f_y_0 := B_y.free 0
    have f_y_1 := B_y.free 1
    have f_y_2 := B_y.free 2
    go_wp2_with fail
    refine wp_name (fun W => Below w.heap.size w W ∧ Bk W (w.heap.size) #[.int .i64 ax, .int .i64 ay] 23 ∧ Bk W (w.heap.size + 1 + 1) #[.int .i64 0, .int .i64 0] 23 ∧ Bk W (W1.heap.size) #[.int .u64 (hiw (tq ((bx - ax) * m) f)), .int .u64 (low (tq ((bx - ax) * m) f)), .bool (ngw (tq ((bx - ax) * m) f))] 162 ∧ Bk W (W1.heap.size + 1) #[.int .u64 (hiw (tq ((b' - ay) * m) f)), .int .u64 (low (tq ((b' - ay) * m) f)), .bool (ngw (tq ((b' - ay) * m) f))] 162) ⟨(Below.setCell (p := ⟨W1.heap.size + 1, 2, none⟩) (Below.setCell (p := ⟨W1.heap.size + 1, 1, none⟩) (Below.setCell (p := ⟨W1.heap.size + 1, 0, none⟩) (Below.setCell (p := ⟨W1.heap.size, 2, none⟩) (Below.setCell (p := ⟨W1.heap.size, 1, none⟩) (Below.setCell (p := ⟨W1.heap.size, 0, none⟩) hB o_x _) o_x _) o_x _) o_y _) o_y _) o_y _), (Bk.far (Bk.far (Bk.far (Bk.far (Bk.far (Bk.far B_a (by first | assumption | (simp; done) | (exact Ne.symm (by assumption)) | (simp; omega)) _) (by first | assumption | (simp; done) | (exact Ne.symm (by assumption)) | (simp; omega)) _) (by first | assumption | (simp; done) | (exact Ne.symm (by assumption)) | (simp; omega)) _) (by first | assumption | (simp; done) | (exact Ne.symm (by assumption)) | (simp; omega)) _) (by first | assumption | (simp; done) | (exact Ne.symm (by assumption)) | (simp; omega)) _) (by first | assumption | (simp; done) | (exact Ne.symm (by assumption)) | (simp; omega)) _), (Bk.far (Bk.far (Bk.far (Bk.far (Bk.far (Bk.far B_r (by first | assumption | (simp; done) | (exact Ne.symm (by assumption)) | (simp; omega)) _) (by first | assumption | (simp; done) | (exact Ne.symm (by assumption)) | (simp; omega)) _) (by first | assumption | (simp; done) | (exact Ne.symm (by assumption)) | (simp; omega)) _) (by first | assumption | (simp; done) | (exact Ne.symm (by assumption)) | (simp; omega)) _) (by first | assumption | (simp; done) | (exact Ne.symm (by assumption)) | (simp; omega)) _) (by first | assumption | (simp; done) | (exact Ne.symm (by assumption)) | (simp; omega)) _), (Bk.far (Bk.far (Bk.far (Bk.put (Bk.put (Bk.put B_x 0 _) 1 _) 2 _) (by first | assumption | (simp; done) | (exact Ne.symm (by assumption)) | (simp; omega)) _) (by first | assumption | (simp; done) | (exact Ne.symm (by assumption)) | (simp; omega)) _) (by first | assumption | (simp; done) | (exact Ne.symm (by assumption)) | (simp; omega)) _), (Bk.put (Bk.put (Bk.put (Bk.far (Bk.far (Bk.far B_y (by first | assumption | (simp; done) | (exact Ne.symm (by assumption)) | (simp; omega)) _) (by first | assumption | (simp; done) | (exact Ne.symm (by assumption)) | (simp; omega)) _) (by first | assumption | (simp; done) | (exact Ne.symm (by assumption)) | (simp; omega)) _) 0 _) 1 _) 2 _)⟩ ?_
    clear c_x_0 c_x_1 c_x_2 lt_x f_x_0 f_x_1 f_x_2 c_y_0 c_y_1 c_y_2 lt_y f_y_0 f_y_1 f_y_2
    clear hB hS B_a B_r B_x B_y
    rintro W5 ⟨hB, B_a, B_r, B_x, B_y⟩
    have hS := hB.size
    have k_a_0 := cell_regrown (B_a.cell (v := .int .i64 ax) 0 rfl)
    have k_a_1 := cell_regrown (B_a.cell (v := .int .i64 ay) 1 rfl)
    have k_r_0 := cell_regrown (B_r.cell (v := .int .i64 0) 0 rfl)
    have k_r_1 := cell_regrown (B_r.cell (v := .int .i64 0) 1 rfl)
    have k_x_0 := cell_regrown (B_x.cell (v := .int .u64 (hiw (tq ((bx - ax) * m) f))) 0 rfl)
    have k_x_1 := cell_regrown (B_x.cell (v := .int .u64 (low (tq ((bx - ax) * m) f))) 1 rfl)
    have k_x_2 := cell_regrown (B_x.cell (v := .bool (ngw (tq ((bx - ax) * m) f))) 2 rfl)
    have k_y_0 := cell_regrown (B_y.cell (v := .int .u64 (hiw (tq ((b' - ay) * m) f))) 0 rfl)
    have k_y_1 := cell_regrown (B_y.cell (v := .int .u64 (low (tq ((b' - ay) * m) f))) 1 rfl)
    have k_y_2 := cell_regrown (B_y.cell (v := .bool (ngw (tq ((b' - ay) * m) f))) 2 rfl)
    refine wp_region_low 15 (by kernel_rfl) (by kernel_rfl) ?_
    simp only [List.take, List.drop]
    iterate 4 (refine low_step (fun K hK => ?_); go_simp; first | (refine hK _ ?_; clear hK K) | (apply Exists.intro; refine ⟨fun p => ?_, hK _ ?_⟩; (first | with_reducible exact of_any _ (by assumption) (by assumption) _ | with_reducible exact sat_any _ (by omega) (by omega) _); clear hK K))
    refine low_slice 2 2 (.cells #[.int .u64 (hiw (ax)), .int .u64 (low (ax)), .bool (ngw (ax)), .int .u64 (hiw (tq ((bx - ax) * m) f)), .int .u64 (low (tq ((bx - ax) * m) f)), .bool (ngw (tq ((bx - ax) * m) f))] 162) (by rfl) (fun w => by go_simp) ?_
    intro g_s1
    refine low_call 4 g_s1 _ _ (by rfl) (fun w => by go_simp; exact ⟨rfl, rfl⟩) (by kernel_rfl) ⟨⟨4, .data⟩, by simp, rfl, rfl⟩ rfl (fun W hW hg hk => by
      have B : Bk W g_s1 #[.int .u64 (hiw (ax)), .int .u64 (low (ax)), .bool (ngw (ax)), .int .u64 (hiw (tq ((bx - ax) * m) f)), .int .u64 (low (tq ((bx - ax) * m) f)), .bool (ngw (tq ((bx - ax) * m) f))] 162 := hk
      exact sum2_any (ax) (tq ((bx - ax) * m) f) _ (by omega) (by omega) _ B.lt (B.cell 0 rfl) (B.cell 1 rfl) (B.cell 2 rfl) (B.cell 3 rfl) (B.cell 4 rfl) (B.cell 5 rfl)) ?_
    iterate 5 (refine low_step (fun K hK => ?_); go_simp; first | (refine hK _ ?_; clear hK K) | (apply Exists.intro; refine ⟨fun p => ?_, hK _ ?_⟩; (first | with_reducible exact of_any _ (by assumption) (by assumption) _ | with_reducible exact sat_any _ (by omega) (by omega) _); clear hK K))
    refine low_slice 2 2 (.cells #[.int .u64 (hiw (ay)), .int .u64 (low (ay)), .bool (ngw (ay)), .int .u64 (hiw (tq ((b' - ay) * m) f)), .int .u64 (low (tq ((b' - ay) * m) f)), .bool (ngw (tq ((b' - ay) * m) f))] 162) (by rfl) (fun w => by go_simp) ?_
    intro g_s2
    refine low_call 11 g_s2 _ _ (by rfl) (fun w => by go_simp; exact ⟨rfl, rfl⟩) (by kernel_rfl) ⟨⟨11, .data⟩, by simp, rfl, rfl⟩ rfl (fun W hW hg hk => by
      have B : Bk W g_s2 #[.int .u64 (hiw (ay)), .int .u64 (low (ay)), .bool (ngw (ay)), .int .u64 (hiw (tq ((b' - ay) * m) f)), .int .u64 (low (tq ((b' - ay) * m) f)), .bool (ngw (tq ((b' - ay) * m) f))] 162 := hk
      exact sum2_any (ay) (tq ((b' - ay) * m) f) _ (by omega) (by omega) _ B.lt (B.cell 0 rfl) (B.cell 1 rfl) (B.cell 2 rfl) (B.cell 3 rfl) (B.cell 4 rfl) (B.cell 5 rfl)) ?_
    iterate 2 (refine low_step (fun K hK => ?_); go_simp; first | (refine hK _ ?_; clear hK K) | (apply Exists.intro; refine ⟨fun p => ?_, hK _ ?_⟩; (first | with_reducible exact of_any _ (by assumption) (by assumption) _ | with_reducible exact sat_any _ (by omega) (by omega) _); clear hK K))
    refine low_nil ?_
    intro W6 hC
    have hb := hC.1
    clear k_a_0 k_a_1 k_r_0 k_r_1 k_x_0 k_x_1 k_x_2 k_y_0 k_y_1 k_y_2
    replace B_a := B_a.below hb
    replace B_r := B_r.below hb
    replace B_x := B_x.below hb
    replace B_y := B_y.below hb
    obtain ⟨hB', hS'⟩ := below_c (w := w) hb hB
    clear hC hb hB hS
    have hB := hB'; have hS := hS'; clear hB' hS'
    have c_r_0 := B_r.cell (v := .int .i64 0) 0 rfl
    have c_r_1 := B_r.cell (v := .int .i64 0) 1 rfl
    have lt_r := B_r.lt
    have f_r_0 := B_r.free 0
    have f_r_1 := B_r.free 1
    go_wp2
    refine post_name (fun W => Below w.heap.size w W ∧ Bk W (w.heap.size + 1 + 1) #[.int .i64 (sat (ax + tq ((bx - ax) * m) f)), .int .i64 (sat (ay + tq ((b' - ay) * m) f))] 23) ⟨(Below.setCell (p := ⟨w.heap.size + 1 + 1, 1, none⟩) (Below.setCell (p := ⟨w.heap.size + 1 + 1, 0, none⟩) hB o_r _) o_r _), (Bk.put (Bk.put B_r 0 _) 1 _)⟩ ?_
    clear c_r_0 c_r_1 lt_r f_r_0 f_r_1
    clear hB hS B_r
    rintro W7 ⟨hB, B_r⟩
    have hS := hB.size
    have c_r_0 := B_r.cell (v := .int .i64 (sat (ax + tq ((bx - ax) * m) f))) 0 rfl
    have c_r_1 := B_r.cell (v := .int .i64 (sat (ay + tq ((b' - ay) * m) f))) 1 rfl
    have lt_r := B_r.lt
    refine bodyPost_ret (v := V (sat (ax + tq ((bx - ax) * m) f)) (sat (ay + tq ((b' - ay) * m) f))) (by simp [results, Tryz.results64, go_sem, c_r_0, c_r_1]; try rfl) rfl ⟨by rw [HF.out, HV.out.1, HV.out.2], by (first | (go_grown; done) | (repeat (first | assumption | (refine Below.setCell ?_ (by first | assumption | (simp; omega) | omega) _) | (refine Below.alloc ?_ (by assumption) _))))⟩
theorem vtoward_is (ax ay bx b' m x y : Int) (h : (I64 ax ∧ I64 ay ∧ I64 bx ∧ I64 b' ∧ I64 m) ∧ ax + wst (bx - ax) (vfar (bx - ax) (b' - ay)) m = x ∧ ay + wst (b' - ay) (vfar (bx - ax) (b' - ay)) m = y) (w : World) :
    Calls Tryz.prog 64 #[V ax ay, V bx b', .int .i64 m] w fun e w' => e = .returned (V x y) ∧ Below w.heap.size w w' := by
  obtain ⟨⟨h1, h2, h3, h4, h5⟩, rfl, rfl⟩ := h
  exact vtoward_any ax ay bx b' m h1 h2 h3 h4 h5 w
set_option maxRecDepth 100000 in
set_option maxHeartbeats 4000000 in
theorem vlimit_any (ax ay m : Int) (hax : I64 ax) (hay : I64 ay) (hm : I64 m) (w : World) :
    Calls Tryz.prog 38 #[V ax ay, .int .i64 m] w fun e w' => e = .returned (V (wst ax (vfar ax ay) m) (wst ay (vfar ax ay) m)) ∧ Below w.heap.size w w' := by
  obtain ⟨l0, u0⟩ := hax
  obtain ⟨l1, u1⟩ := hay
  obtain ⟨l2, u2⟩ := hm
  have HT := Lib.hid (show (I64 0 ∧ I64 0 ∧ I64 ax ∧ I64 ay ∧ I64 m) ∧ 0 + wst (ax - 0) (vfar (ax - 0) (ay - 0)) m = wst ax (vfar ax ay) m ∧ 0 + wst (ay - 0) (vfar (ax - 0) (ay - 0)) m = wst ay (vfar ax ay) m from ⟨⟨⟨by decide, by decide⟩, ⟨by decide, by decide⟩, ⟨l0, u0⟩, ⟨l1, u1⟩, l2, u2⟩, by rw [Int.sub_zero, Int.sub_zero, Int.zero_add], by rw [Int.sub_zero, Int.sub_zero, Int.zero_add]⟩)
  go_enter Tryz.func38, Tryz.ntmps38
  go_wp2_with fail
  with_reducible refine (vtoward_is _ _ _ _ _ _ _ HT.out _).mono ?_
  rintro e W1 ⟨rfl, hb⟩
  have o_a : w.heap.size ≤ w.heap.size := Nat.le_add_right _ 0
  have o_r : w.heap.size ≤ w.heap.size + 1 := Nat.le_add_right _ 1
  have B'_a : Bk W1 (w.heap.size) #[.int .i64 ax, .int .i64 ay] 23 := Bk.below (by (repeat (first | with_reducible assumption | ((with_reducible refine Bk.at_ ?_); first | rfl | (simp; done)) | with_reducible apply Bk.alloc))) hb
  have B'_r : Bk W1 (w.heap.size + 1) #[.int .i64 0, .int .i64 0] 23 := Bk.below (by (repeat (first | with_reducible assumption | ((with_reducible refine Bk.at_ ?_); first | rfl | (simp; done)) | with_reducible apply Bk.alloc))) hb
  obtain ⟨hB', hS'⟩ := below_c (w := w) hb (by (first | (go_grown; done) | (repeat (first | assumption | (refine Below.setCell ?_ (by first | assumption | (simp; omega) | omega) _) | (refine Below.alloc ?_ (by assumption) _)))))
  clear hb
  have B_a := B'_a
  have B_r := B'_r
  have hB := hB'; have hS := hS'; clear hB' hS' B'_a B'_r
  have c_r_0 := B_r.cell (v := .int .i64 0) 0 rfl
  have c_r_1 := B_r.cell (v := .int .i64 0) 1 rfl
  have lt_r := B_r.lt
  have f_r_0 := B_r.free 0
  have f_r_1 := B_r.free 1
  go_wp2
  refine post_name (fun W => Below w.heap.size w W ∧ Bk W (w.heap.size + 1) #[.int .i64 (wst ax (vfar ax ay) m), .int .i64 (wst ay (vfar ax ay) m)] 23) ⟨(Below.setCell (p := ⟨w.heap.size + 1, 1, none⟩) (Below.setCell (p := ⟨w.heap.size + 1, 0, none⟩) hB o_r _) o_r _), (Bk.put (Bk.put B_r 0 _) 1 _)⟩ ?_
  clear c_r_0 c_r_1 lt_r f_r_0 f_r_1
  clear hB hS B_r
  rintro W2 ⟨hB, B_r⟩
  have hS := hB.size
  have c_r_0 := B_r.cell (v := .int .i64 (wst ax (vfar ax ay) m)) 0 rfl
  have c_r_1 := B_r.cell (v := .int .i64 (wst ay (vfar ax ay) m)) 1 rfl
  have lt_r := B_r.lt
  refine bodyPost_ret (v := V (wst ax (vfar ax ay) m) (wst ay (vfar ax ay) m)) (by simp [results, Tryz.results38, go_sem, c_r_0, c_r_1]; try rfl) rfl ⟨rfl, by (first | (go_grown; done) | (repeat (first | assumption | (refine Below.setCell ?_ (by first | assumption | (simp; omega) | omega) _) | (refine Below.alloc ?_ (by assumption) _))))⟩
/-- a number within the world -/
def wco (x : Int) : Int := x.tmod 1048577
theorem wco_bd (x : Int) : -1048576 ≤ wco x ∧ wco x ≤ 1048576 := by
  unfold wco
  have h1 := Int.lt_tmod_of_pos x (show (0 : Int) < 1048577 by decide)
  have h2 := Int.tmod_lt_of_pos x (show (0 : Int) < 1048577 by decide)
  omega
end Go.Proofs.YtlcjkomfjgddeaaGreatDoor
