/- The walks of package vec. -/
import Derived.Test.YtolifgjkejhlhaaFixed2
import Derived.Test.YtolifgjkejhlhaaBlk
import Derived.Test.YtolifgjkejhlhaaVecPlain
set_option linter.unusedVariables false
set_option linter.unusedSimpArgs false
namespace Go.Proofs.Ytolifgjkejhlhaa
open Go Go.RowKit Go.Sort
attribute [local go_sem] opLow opUpon

abbrev V (x y : Int) : Value := .agg #[.int .i64 x, .int .i64 y]
theorem W_inj {x y : Int} (h1 : hiw x = hiw y) (h2 : low x = low y) (h3 : ngw x = ngw y) : x = y := by
  have a := hilo x
  have b := hilo y
  rw [h1, h2] at a
  unfold ngw at h3
  rw [decide_eq_decide] at h3
  omega
theorem eql_W (x y : Int) (w : World) : (binOp .eql 99 (W x) (W y)).run Try.prog w = .ok (.bool (decide (x = y))) w := by
  by_cases h1 : hiw x = hiw y
  · by_cases h2 : low x = low y
    · by_cases h3 : ngw x = ngw y
      · have := W_inj h1 h2 h3
        subst this
        simp [go_sem]
      · have : ¬ x = y := fun e => h3 (by rw [e])
        simp [go_sem, h1, h2, h3, this]
    · have : ¬ x = y := fun e => h2 (by rw [e])
      simp [go_sem, h1, h2, this]
  · have : ¬ x = y := fun e => h1 (by rw [e])
    simp [go_sem, h1, this]
theorem eqv_W (x y : Int) (b : Bool) (h : decide (x = y) = b) (w : World) : (binOp .eql 99 (W x) (W y)).run Try.prog w = .ok (.bool b) w := by rw [eql_W, h]
def sgw (z : Int) : Int := if z < 0 then -1 else if z = 0 then 0 else 1
theorem sign_is (z v : Int) (h : sgw z = v) (w : World) : Calls Try.prog 79 #[W z] w fun e w' => e = .returned (.int .i64 v) ∧ Below w.heap.size w w' := by subst h; exact sign_any z w
theorem lesw_is (x y : Int) (b : Bool) (h : decide ((x.natAbs : Int) < (y.natAbs : Int)) = b) (w : World) : Calls Try.prog 80 #[.agg #[.int .u64 (hiw x), .int .u64 (low x)], .agg #[.int .u64 (hiw y), .int .u64 (low y)]] w fun e w' => e = .returned (.bool b) ∧ Below w.heap.size w w' := by
  have h1 := less_any (hiw x) (low x) (hiw y) (low y) (low_nonneg x) (low_le x) (low_nonneg y) (low_le y) w
  have e : ltw (hiw x) (low x) (hiw y) (low y) = b := by unfold ltw; rw [hilo, hilo]; exact h
  rw [e] at h1
  exact h1
/-- how two products lie, as Side asks it -/
theorem side_cases (P Q : Int) (h : ¬ P = Q) : ∃ (s t : Int) (b c : Bool), Hid (sgw P = s) ∧ Hid (sgw Q = t) ∧ Hid (decide ((P.natAbs : Int) < (Q.natAbs : Int)) = b) ∧ ngw P = c ∧
    ((t < s ∧ sgz (P - Q) = 1) ∨ (s < t ∧ sgz (P - Q) = -1) ∨ (s = t ∧ ((b = true ∧ c = true ∧ sgz (P - Q) = 1) ∨ (b = false ∧ c = false ∧ sgz (P - Q) = 1) ∨ (b = true ∧ c = false ∧ sgz (P - Q) = -1) ∨ (b = false ∧ c = true ∧ sgz (P - Q) = -1)))) := by
  refine ⟨_, _, _, _, Lib.hid rfl, Lib.hid rfl, Lib.hid rfl, rfl, ?_⟩
  unfold sgw sgz ngw
  simp only [decide_eq_true_eq, decide_eq_false_iff_not]
  omega
/-- an int -/
def I64 (x : Int) : Prop := -9223372036854775808 ≤ x ∧ x ≤ 9223372036854775807
theorem at_any (x y : Int) (w : World) :
    Calls Try.prog 49 #[.int .i64 x, .int .i64 y] w fun e w' => e = .returned (V x y) ∧ Below w.heap.size w w' := by
  go_enter Try.func49, Try.ntmps49
  go_wp2
  refine bodyPost_ret (v := V x y) (by simp [results, Try.results49, go_sem]) rfl ?_
  exact ⟨rfl, by go_grown⟩
set_option maxRecDepth 100000 in
set_option maxHeartbeats 4000000 in
theorem vadd_any (a b c d : Int) (ha : I64 a) (hb : I64 b) (hc : I64 c) (hd : I64 d) (w : World) :
    Calls Try.prog 48 #[V a b, V c d] w fun e w' => e = .returned (V (sat (a + c)) (sat (b + d))) ∧ Below w.heap.size w w' := by
  obtain ⟨l0, u0⟩ := ha
  obtain ⟨l1, u1⟩ := hb
  obtain ⟨l2, u2⟩ := hc
  obtain ⟨l3, u3⟩ := hd
  go_enter Try.func48, Try.ntmps48
  go_wp2
  have o_a : w.heap.size ≤ w.heap.size := Nat.le_add_right _ 0
  have o_b : w.heap.size ≤ w.heap.size + 1 := Nat.le_add_right _ 1
  have o_r : w.heap.size ≤ w.heap.size + 1 + 1 := Nat.le_add_right _ 2
  refine wp_name (fun W => Below w.heap.size w W ∧ Bk W (w.heap.size) #[.int .i64 a, .int .i64 b] 55 ∧ Bk W (w.heap.size + 1) #[.int .i64 c, .int .i64 d] 55 ∧ Bk W (w.heap.size + 1 + 1) #[.int .i64 0, .int .i64 0] 55) ⟨by (first | (go_grown; done) | (repeat (first | assumption | (refine Below.setCell ?_ (by first | assumption | (simp; omega) | omega) _) | (refine Below.alloc ?_ (by assumption) _)))), by (repeat (first | with_reducible assumption | ((with_reducible refine Bk.at_ ?_); first | rfl | (simp; done)) | with_reducible apply Bk.alloc)), by (repeat (first | with_reducible assumption | ((with_reducible refine Bk.at_ ?_); first | rfl | (simp; done)) | with_reducible apply Bk.alloc)), by (repeat (first | with_reducible assumption | ((with_reducible refine Bk.at_ ?_); first | rfl | (simp; done)) | with_reducible apply Bk.alloc))⟩ ?_
  rintro W1 ⟨hB, B_a, B_b, B_r⟩
  have hS := hB.size
  have k_a_0 := cell_regrown (B_a.cell (v := .int .i64 a) 0 rfl)
  have k_a_1 := cell_regrown (B_a.cell (v := .int .i64 b) 1 rfl)
  have k_b_0 := cell_regrown (B_b.cell (v := .int .i64 c) 0 rfl)
  have k_b_1 := cell_regrown (B_b.cell (v := .int .i64 d) 1 rfl)
  have k_r_0 := cell_regrown (B_r.cell (v := .int .i64 0) 0 rfl)
  have k_r_1 := cell_regrown (B_r.cell (v := .int .i64 0) 1 rfl)
  refine wp_region_low 11 (by kernel_rfl) (by kernel_rfl) ?_
  simp only [List.take, List.drop]
  iterate 11 (refine low_step (fun K hK => ?_); go_simp; first | (refine hK _ ?_; clear hK K) | (apply Exists.intro; refine ⟨fun p => ?_, hK _ ?_⟩; (first | with_reducible exact add_any _ _ (by assumption) (by assumption) (by assumption) (by assumption) _); clear hK K))
  refine low_nil ?_
  intro W2 hC
  have hb := hC.1
  clear k_a_0 k_a_1 k_b_0 k_b_1 k_r_0 k_r_1
  replace B_a := B_a.below hb
  replace B_b := B_b.below hb
  replace B_r := B_r.below hb
  obtain ⟨hB', hS'⟩ := below_c (w := w) hb hB
  clear hC hb hB hS
  have hB := hB'; have hS := hS'; clear hB' hS'
  have c_r_0 := B_r.cell (v := .int .i64 0) 0 rfl
  have c_r_1 := B_r.cell (v := .int .i64 0) 1 rfl
  have lt_r := B_r.lt
  have f_r_0 := B_r.free 0
  have f_r_1 := B_r.free 1
  go_wp2
  refine post_name (fun W => Below w.heap.size w W ∧ Bk W (w.heap.size + 1 + 1) #[.int .i64 (sat (a + c)), .int .i64 (sat (b + d))] 55) ⟨(Below.setCell (p := ⟨w.heap.size + 1 + 1, 1, none⟩) (Below.setCell (p := ⟨w.heap.size + 1 + 1, 0, none⟩) hB o_r _) o_r _), (Bk.put (Bk.put B_r 0 _) 1 _)⟩ ?_
  clear c_r_0 c_r_1 lt_r f_r_0 f_r_1
  clear hB hS B_r
  rintro W3 ⟨hB, B_r⟩
  have hS := hB.size
  have c_r_0 := B_r.cell (v := .int .i64 (sat (a + c))) 0 rfl
  have c_r_1 := B_r.cell (v := .int .i64 (sat (b + d))) 1 rfl
  have lt_r := B_r.lt
  refine bodyPost_ret (v := V (sat (a + c)) (sat (b + d))) (by simp [results, Try.results48, go_sem, c_r_0, c_r_1]; try rfl) rfl ⟨rfl, by (first | (go_grown; done) | (repeat (first | assumption | (refine Below.setCell ?_ (by first | assumption | (simp; omega) | omega) _) | (refine Below.alloc ?_ (by assumption) _))))⟩
set_option maxRecDepth 100000 in
set_option maxHeartbeats 4000000 in
theorem vsub_any (a b c d : Int) (ha : I64 a) (hb : I64 b) (hc : I64 c) (hd : I64 d) (w : World) :
    Calls Try.prog 51 #[V a b, V c d] w fun e w' => e = .returned (V (sat (a - c)) (sat (b - d))) ∧ Below w.heap.size w w' := by
  obtain ⟨l0, u0⟩ := ha
  obtain ⟨l1, u1⟩ := hb
  obtain ⟨l2, u2⟩ := hc
  obtain ⟨l3, u3⟩ := hd
  go_enter Try.func51, Try.ntmps51
  go_wp2
  have o_a : w.heap.size ≤ w.heap.size := Nat.le_add_right _ 0
  have o_b : w.heap.size ≤ w.heap.size + 1 := Nat.le_add_right _ 1
  have o_r : w.heap.size ≤ w.heap.size + 1 + 1 := Nat.le_add_right _ 2
  refine wp_name (fun W => Below w.heap.size w W ∧ Bk W (w.heap.size) #[.int .i64 a, .int .i64 b] 55 ∧ Bk W (w.heap.size + 1) #[.int .i64 c, .int .i64 d] 55 ∧ Bk W (w.heap.size + 1 + 1) #[.int .i64 0, .int .i64 0] 55) ⟨by (first | (go_grown; done) | (repeat (first | assumption | (refine Below.setCell ?_ (by first | assumption | (simp; omega) | omega) _) | (refine Below.alloc ?_ (by assumption) _)))), by (repeat (first | with_reducible assumption | ((with_reducible refine Bk.at_ ?_); first | rfl | (simp; done)) | with_reducible apply Bk.alloc)), by (repeat (first | with_reducible assumption | ((with_reducible refine Bk.at_ ?_); first | rfl | (simp; done)) | with_reducible apply Bk.alloc)), by (repeat (first | with_reducible assumption | ((with_reducible refine Bk.at_ ?_); first | rfl | (simp; done)) | with_reducible apply Bk.alloc))⟩ ?_
  rintro W1 ⟨hB, B_a, B_b, B_r⟩
  have hS := hB.size
  have k_a_0 := cell_regrown (B_a.cell (v := .int .i64 a) 0 rfl)
  have k_a_1 := cell_regrown (B_a.cell (v := .int .i64 b) 1 rfl)
  have k_b_0 := cell_regrown (B_b.cell (v := .int .i64 c) 0 rfl)
  have k_b_1 := cell_regrown (B_b.cell (v := .int .i64 d) 1 rfl)
  have k_r_0 := cell_regrown (B_r.cell (v := .int .i64 0) 0 rfl)
  have k_r_1 := cell_regrown (B_r.cell (v := .int .i64 0) 1 rfl)
  refine wp_region_low 11 (by kernel_rfl) (by kernel_rfl) ?_
  simp only [List.take, List.drop]
  iterate 11 (refine low_step (fun K hK => ?_); go_simp; first | (refine hK _ ?_; clear hK K) | (apply Exists.intro; refine ⟨fun p => ?_, hK _ ?_⟩; (first | with_reducible exact sub_any _ _ (by assumption) (by assumption) (by assumption) (by assumption) _); clear hK K))
  refine low_nil ?_
  intro W2 hC
  have hb := hC.1
  clear k_a_0 k_a_1 k_b_0 k_b_1 k_r_0 k_r_1
  replace B_a := B_a.below hb
  replace B_b := B_b.below hb
  replace B_r := B_r.below hb
  obtain ⟨hB', hS'⟩ := below_c (w := w) hb hB
  clear hC hb hB hS
  have hB := hB'; have hS := hS'; clear hB' hS'
  have c_r_0 := B_r.cell (v := .int .i64 0) 0 rfl
  have c_r_1 := B_r.cell (v := .int .i64 0) 1 rfl
  have lt_r := B_r.lt
  have f_r_0 := B_r.free 0
  have f_r_1 := B_r.free 1
  go_wp2
  refine post_name (fun W => Below w.heap.size w W ∧ Bk W (w.heap.size + 1 + 1) #[.int .i64 (sat (a - c)), .int .i64 (sat (b - d))] 55) ⟨(Below.setCell (p := ⟨w.heap.size + 1 + 1, 1, none⟩) (Below.setCell (p := ⟨w.heap.size + 1 + 1, 0, none⟩) hB o_r _) o_r _), (Bk.put (Bk.put B_r 0 _) 1 _)⟩ ?_
  clear c_r_0 c_r_1 lt_r f_r_0 f_r_1
  clear hB hS B_r
  rintro W3 ⟨hB, B_r⟩
  have hS := hB.size
  have c_r_0 := B_r.cell (v := .int .i64 (sat (a - c))) 0 rfl
  have c_r_1 := B_r.cell (v := .int .i64 (sat (b - d))) 1 rfl
  have lt_r := B_r.lt
  refine bodyPost_ret (v := V (sat (a - c)) (sat (b - d))) (by simp [results, Try.results51, go_sem, c_r_0, c_r_1]; try rfl) rfl ⟨rfl, by (first | (go_grown; done) | (repeat (first | assumption | (refine Below.setCell ?_ (by first | assumption | (simp; omega) | omega) _) | (refine Below.alloc ?_ (by assumption) _))))⟩
set_option maxRecDepth 100000 in
set_option maxHeartbeats 4000000 in
theorem vside_any (ax ay bx b' px py : Int) (hax : I64 ax) (hay : I64 ay) (hbx : I64 bx) (hb : I64 b') (hpx : I64 px) (hpy : I64 py) (w : World) :
    Calls Try.prog 47 #[V ax ay, V bx b', V px py] w fun e w' => e = .returned (.int .i64 (vside ax ay bx b' px py)) ∧ Below w.heap.size w w' := by
  obtain ⟨l0, u0⟩ := hax
  obtain ⟨l1, u1⟩ := hay
  obtain ⟨l2, u2⟩ := hbx
  obtain ⟨l3, u3⟩ := hb
  obtain ⟨l4, u4⟩ := hpx
  obtain ⟨l5, u5⟩ := hpy
  by_cases hE : (bx - ax) * (py - ay) = (b' - ay) * (px - ax)
  · have eqE := eqv_W ((bx - ax) * (py - ay)) ((b' - ay) * (px - ax)) _ (decide_eq_true hE)
    have HV := Lib.hid (show vside ax ay bx b' px py = 0 by unfold vside; rw [hE, Int.sub_self]; rfl)
    clear hE
    go_enter Try.func47, Try.ntmps47
    go_wp2
    have o_a : w.heap.size ≤ w.heap.size := Nat.le_add_right _ 0
    have o_b : w.heap.size ≤ w.heap.size + 1 := Nat.le_add_right _ 1
    have o_p : w.heap.size ≤ w.heap.size + 1 + 1 := Nat.le_add_right _ 2
    refine wp_name (fun W => Below w.heap.size w W ∧ Bk W (w.heap.size) #[.int .i64 ax, .int .i64 ay] 55 ∧ Bk W (w.heap.size + 1) #[.int .i64 bx, .int .i64 b'] 55 ∧ Bk W (w.heap.size + 1 + 1) #[.int .i64 px, .int .i64 py] 55) ⟨by (first | (go_grown; done) | (repeat (first | assumption | (refine Below.setCell ?_ (by first | assumption | (simp; omega) | omega) _) | (refine Below.alloc ?_ (by assumption) _)))), by (repeat (first | with_reducible assumption | ((with_reducible refine Bk.at_ ?_); first | rfl | (simp; done)) | with_reducible apply Bk.alloc)), by (repeat (first | with_reducible assumption | ((with_reducible refine Bk.at_ ?_); first | rfl | (simp; done)) | with_reducible apply Bk.alloc)), by (repeat (first | with_reducible assumption | ((with_reducible refine Bk.at_ ?_); first | rfl | (simp; done)) | with_reducible apply Bk.alloc))⟩ ?_
    rintro W1 ⟨hB, B_a, B_b, B_p⟩
    have hS := hB.size
    have k_a_0 := cell_regrown (B_a.cell (v := .int .i64 ax) 0 rfl)
    have k_a_1 := cell_regrown (B_a.cell (v := .int .i64 ay) 1 rfl)
    have k_b_0 := cell_regrown (B_b.cell (v := .int .i64 bx) 0 rfl)
    have k_b_1 := cell_regrown (B_b.cell (v := .int .i64 b') 1 rfl)
    have k_p_0 := cell_regrown (B_p.cell (v := .int .i64 px) 0 rfl)
    have k_p_1 := cell_regrown (B_p.cell (v := .int .i64 py) 1 rfl)
    refine wp_region_low 12 (by kernel_rfl) (by kernel_rfl) ?_
    simp only [List.take, List.drop]
    iterate 11 (refine low_step (fun K hK => ?_); go_simp; first | (refine hK _ ?_; clear hK K) | (apply Exists.intro; refine ⟨fun p => ?_, hK _ ?_⟩; (first | with_reducible exact diff_any _ _ (by assumption) (by assumption) (by assumption) (by assumption) _ | with_reducible exact mul_W _ _ (by omega) (by omega) (by omega) (by omega) _); clear hK K))
    refine low_new (.cells #[.int .u64 0, .int .u64 0, .bool false] 99) (by rfl) (fun w => by go_simp) ?_
    intro g_one
    refine low_nil ?_
    intro W2 hC
    have hb := hC.1
    clear k_a_0 k_a_1 k_b_0 k_b_1 k_p_0 k_p_1
    have lu_a := B_a.lt
    have lu_b := B_b.lt
    have lu_p := B_p.lt
    replace B_a := B_a.below hb
    replace B_b := B_b.below hb
    replace B_p := B_p.below hb
    obtain ⟨B_one, z_one⟩ := cls_bk (i := 11) hC rfl
    obtain ⟨hB', hS'⟩ := below_c (w := w) hb hB
    have o_one : w.heap.size ≤ g_one := Nat.le_trans hS z_one
    have n_a_one : w.heap.size ≠ g_one := by omega
    have n_b_one : w.heap.size + 1 ≠ g_one := by omega
    have n_p_one : w.heap.size + 1 + 1 ≠ g_one := by omega
    clear lu_a lu_b lu_p
    clear hC hb hB hS
    have hB := hB'; have hS := hS'; clear hB' hS'
    have c_one_0 := B_one.cell (v := .int .u64 0) 0 rfl
    have c_one_1 := B_one.cell (v := .int .u64 0) 1 rfl
    have c_one_2 := B_one.cell (v := .bool false) 2 rfl
    have lt_one := B_one.lt
    have f_one_0 := B_one.free 0
    have f_one_1 := B_one.free 1
    have f_one_2 := B_one.free 2
    go_wp2
    refine wp_name (fun W => Below w.heap.size w W ∧ Bk W (w.heap.size) #[.int .i64 ax, .int .i64 ay] 55 ∧ Bk W (w.heap.size + 1) #[.int .i64 bx, .int .i64 b'] 55 ∧ Bk W (w.heap.size + 1 + 1) #[.int .i64 px, .int .i64 py] 55 ∧ Bk W (g_one) #[.int .u64 (hiw ((bx - ax) * (py - ay))), .int .u64 (low ((bx - ax) * (py - ay))), .bool (ngw ((bx - ax) * (py - ay)))] 99) ⟨(Below.setCell (p := ⟨g_one, 2, none⟩) (Below.setCell (p := ⟨g_one, 1, none⟩) (Below.setCell (p := ⟨g_one, 0, none⟩) hB o_one _) o_one _) o_one _), (Bk.far (Bk.far (Bk.far B_a (by first | assumption | (simp; done) | (exact Ne.symm (by assumption)) | (simp; omega)) _) (by first | assumption | (simp; done) | (exact Ne.symm (by assumption)) | (simp; omega)) _) (by first | assumption | (simp; done) | (exact Ne.symm (by assumption)) | (simp; omega)) _), (Bk.far (Bk.far (Bk.far B_b (by first | assumption | (simp; done) | (exact Ne.symm (by assumption)) | (simp; omega)) _) (by first | assumption | (simp; done) | (exact Ne.symm (by assumption)) | (simp; omega)) _) (by first | assumption | (simp; done) | (exact Ne.symm (by assumption)) | (simp; omega)) _), (Bk.far (Bk.far (Bk.far B_p (by first | assumption | (simp; done) | (exact Ne.symm (by assumption)) | (simp; omega)) _) (by first | assumption | (simp; done) | (exact Ne.symm (by assumption)) | (simp; omega)) _) (by first | assumption | (simp; done) | (exact Ne.symm (by assumption)) | (simp; omega)) _), (Bk.put (Bk.put (Bk.put B_one 0 _) 1 _) 2 _)⟩ ?_
    clear c_one_0 c_one_1 c_one_2 lt_one f_one_0 f_one_1 f_one_2
    clear hB hS B_a B_b B_p B_one
    rintro W3 ⟨hB, B_a, B_b, B_p, B_one⟩
    have hS := hB.size
    have k_a_0 := cell_regrown (B_a.cell (v := .int .i64 ax) 0 rfl)
    have k_a_1 := cell_regrown (B_a.cell (v := .int .i64 ay) 1 rfl)
    have k_b_0 := cell_regrown (B_b.cell (v := .int .i64 bx) 0 rfl)
    have k_b_1 := cell_regrown (B_b.cell (v := .int .i64 b') 1 rfl)
    have k_p_0 := cell_regrown (B_p.cell (v := .int .i64 px) 0 rfl)
    have k_p_1 := cell_regrown (B_p.cell (v := .int .i64 py) 1 rfl)
    have k_one_0 := cell_regrown (B_one.cell (v := .int .u64 (hiw ((bx - ax) * (py - ay)))) 0 rfl)
    have k_one_1 := cell_regrown (B_one.cell (v := .int .u64 (low ((bx - ax) * (py - ay)))) 1 rfl)
    have k_one_2 := cell_regrown (B_one.cell (v := .bool (ngw ((bx - ax) * (py - ay)))) 2 rfl)
    refine wp_region_low 12 (by kernel_rfl) (by kernel_rfl) ?_
    simp only [List.take, List.drop]
    iterate 11 (refine low_step (fun K hK => ?_); go_simp; first | (refine hK _ ?_; clear hK K) | (apply Exists.intro; refine ⟨fun p => ?_, hK _ ?_⟩; (first | with_reducible exact diff_any _ _ (by assumption) (by assumption) (by assumption) (by assumption) _ | with_reducible exact mul_W _ _ (by omega) (by omega) (by omega) (by omega) _); clear hK K))
    refine low_new (.cells #[.int .u64 0, .int .u64 0, .bool false] 99) (by rfl) (fun w => by go_simp) ?_
    intro g_two
    refine low_nil ?_
    intro W4 hC
    have hb := hC.1
    clear k_a_0 k_a_1 k_b_0 k_b_1 k_p_0 k_p_1 k_one_0 k_one_1 k_one_2
    have lu_a := B_a.lt
    have lu_b := B_b.lt
    have lu_p := B_p.lt
    have lu_one := B_one.lt
    replace B_a := B_a.below hb
    replace B_b := B_b.below hb
    replace B_p := B_p.below hb
    replace B_one := B_one.below hb
    obtain ⟨B_two, z_two⟩ := cls_bk (i := 11) hC rfl
    obtain ⟨hB', hS'⟩ := below_c (w := w) hb hB
    have o_two : w.heap.size ≤ g_two := Nat.le_trans hS z_two
    have n_a_two : w.heap.size ≠ g_two := by omega
    have n_b_two : w.heap.size + 1 ≠ g_two := by omega
    have n_p_two : w.heap.size + 1 + 1 ≠ g_two := by omega
    have n_one_two : g_one ≠ g_two := by omega
    clear lu_a lu_b lu_p lu_one
    clear hC hb hB hS
    have hB := hB'; have hS := hS'; clear hB' hS'
    have c_one_0 := B_one.cell (v := .int .u64 (hiw ((bx - ax) * (py - ay)))) 0 rfl
    have c_one_1 := B_one.cell (v := .int .u64 (low ((bx - ax) * (py - ay)))) 1 rfl
    have c_one_2 := B_one.cell (v := .bool (ngw ((bx - ax) * (py - ay)))) 2 rfl
    have lt_one := B_one.lt
    have c_two_0 := B_two.cell (v := .int .u64 0) 0 rfl
    have c_two_1 := B_two.cell (v := .int .u64 0) 1 rfl
    have c_two_2 := B_two.cell (v := .bool false) 2 rfl
    have lt_two := B_two.lt
    have f_two_0 := B_two.free 0
    have f_two_1 := B_two.free 1
    have f_two_2 := B_two.free 2
    go_wp2
    go_returns
    exact ⟨ret_int HV.out.symm, by (first | (go_grown; done) | (repeat (first | assumption | (refine Below.setCell ?_ (by first | assumption | (simp; omega) | omega) _) | (refine Below.alloc ?_ (by assumption) _))))⟩
  · have eqE := eqv_W ((bx - ax) * (py - ay)) ((b' - ay) * (px - ax)) _ (decide_eq_false hE)
    have hK := side_cases ((bx - ax) * (py - ay)) ((b' - ay) * (px - ax)) hE
    clear hE
    go_enter Try.func47, Try.ntmps47
    go_wp2
    have o_a : w.heap.size ≤ w.heap.size := Nat.le_add_right _ 0
    have o_b : w.heap.size ≤ w.heap.size + 1 := Nat.le_add_right _ 1
    have o_p : w.heap.size ≤ w.heap.size + 1 + 1 := Nat.le_add_right _ 2
    refine wp_name (fun W => Below w.heap.size w W ∧ Bk W (w.heap.size) #[.int .i64 ax, .int .i64 ay] 55 ∧ Bk W (w.heap.size + 1) #[.int .i64 bx, .int .i64 b'] 55 ∧ Bk W (w.heap.size + 1 + 1) #[.int .i64 px, .int .i64 py] 55) ⟨by (first | (go_grown; done) | (repeat (first | assumption | (refine Below.setCell ?_ (by first | assumption | (simp; omega) | omega) _) | (refine Below.alloc ?_ (by assumption) _)))), by (repeat (first | with_reducible assumption | ((with_reducible refine Bk.at_ ?_); first | rfl | (simp; done)) | with_reducible apply Bk.alloc)), by (repeat (first | with_reducible assumption | ((with_reducible refine Bk.at_ ?_); first | rfl | (simp; done)) | with_reducible apply Bk.alloc)), by (repeat (first | with_reducible assumption | ((with_reducible refine Bk.at_ ?_); first | rfl | (simp; done)) | with_reducible apply Bk.alloc))⟩ ?_
    rintro W1 ⟨hB, B_a, B_b, B_p⟩
    have hS := hB.size
    have k_a_0 := cell_regrown (B_a.cell (v := .int .i64 ax) 0 rfl)
    have k_a_1 := cell_regrown (B_a.cell (v := .int .i64 ay) 1 rfl)
    have k_b_0 := cell_regrown (B_b.cell (v := .int .i64 bx) 0 rfl)
    have k_b_1 := cell_regrown (B_b.cell (v := .int .i64 b') 1 rfl)
    have k_p_0 := cell_regrown (B_p.cell (v := .int .i64 px) 0 rfl)
    have k_p_1 := cell_regrown (B_p.cell (v := .int .i64 py) 1 rfl)
    refine wp_region_low 12 (by kernel_rfl) (by kernel_rfl) ?_
    simp only [List.take, List.drop]
    iterate 11 (refine low_step (fun K hK => ?_); go_simp; first | (refine hK _ ?_; clear hK K) | (apply Exists.intro; refine ⟨fun p => ?_, hK _ ?_⟩; (first | with_reducible exact diff_any _ _ (by assumption) (by assumption) (by assumption) (by assumption) _ | with_reducible exact mul_W _ _ (by omega) (by omega) (by omega) (by omega) _); clear hK K))
    refine low_new (.cells #[.int .u64 0, .int .u64 0, .bool false] 99) (by rfl) (fun w => by go_simp) ?_
    intro g_one
    refine low_nil ?_
    intro W2 hC
    have hb := hC.1
    clear k_a_0 k_a_1 k_b_0 k_b_1 k_p_0 k_p_1
    have lu_a := B_a.lt
    have lu_b := B_b.lt
    have lu_p := B_p.lt
    replace B_a := B_a.below hb
    replace B_b := B_b.below hb
    replace B_p := B_p.below hb
    obtain ⟨B_one, z_one⟩ := cls_bk (i := 11) hC rfl
    obtain ⟨hB', hS'⟩ := below_c (w := w) hb hB
    have o_one : w.heap.size ≤ g_one := Nat.le_trans hS z_one
    have n_a_one : w.heap.size ≠ g_one := by omega
    have n_b_one : w.heap.size + 1 ≠ g_one := by omega
    have n_p_one : w.heap.size + 1 + 1 ≠ g_one := by omega
    clear lu_a lu_b lu_p
    clear hC hb hB hS
    have hB := hB'; have hS := hS'; clear hB' hS'
    have c_one_0 := B_one.cell (v := .int .u64 0) 0 rfl
    have c_one_1 := B_one.cell (v := .int .u64 0) 1 rfl
    have c_one_2 := B_one.cell (v := .bool false) 2 rfl
    have lt_one := B_one.lt
    have f_one_0 := B_one.free 0
    have f_one_1 := B_one.free 1
    have f_one_2 := B_one.free 2
    go_wp2
    refine wp_name (fun W => Below w.heap.size w W ∧ Bk W (w.heap.size) #[.int .i64 ax, .int .i64 ay] 55 ∧ Bk W (w.heap.size + 1) #[.int .i64 bx, .int .i64 b'] 55 ∧ Bk W (w.heap.size + 1 + 1) #[.int .i64 px, .int .i64 py] 55 ∧ Bk W (g_one) #[.int .u64 (hiw ((bx - ax) * (py - ay))), .int .u64 (low ((bx - ax) * (py - ay))), .bool (ngw ((bx - ax) * (py - ay)))] 99) ⟨(Below.setCell (p := ⟨g_one, 2, none⟩) (Below.setCell (p := ⟨g_one, 1, none⟩) (Below.setCell (p := ⟨g_one, 0, none⟩) hB o_one _) o_one _) o_one _), (Bk.far (Bk.far (Bk.far B_a (by first | assumption | (simp; done) | (exact Ne.symm (by assumption)) | (simp; omega)) _) (by first | assumption | (simp; done) | (exact Ne.symm (by assumption)) | (simp; omega)) _) (by first | assumption | (simp; done) | (exact Ne.symm (by assumption)) | (simp; omega)) _), (Bk.far (Bk.far (Bk.far B_b (by first | assumption | (simp; done) | (exact Ne.symm (by assumption)) | (simp; omega)) _) (by first | assumption | (simp; done) | (exact Ne.symm (by assumption)) | (simp; omega)) _) (by first | assumption | (simp; done) | (exact Ne.symm (by assumption)) | (simp; omega)) _), (Bk.far (Bk.far (Bk.far B_p (by first | assumption | (simp; done) | (exact Ne.symm (by assumption)) | (simp; omega)) _) (by first | assumption | (simp; done) | (exact Ne.symm (by assumption)) | (simp; omega)) _) (by first | assumption | (simp; done) | (exact Ne.symm (by assumption)) | (simp; omega)) _), (Bk.put (Bk.put (Bk.put B_one 0 _) 1 _) 2 _)⟩ ?_
    clear c_one_0 c_one_1 c_one_2 lt_one f_one_0 f_one_1 f_one_2
    clear hB hS B_a B_b B_p B_one
    rintro W3 ⟨hB, B_a, B_b, B_p, B_one⟩
    have hS := hB.size
    have k_a_0 := cell_regrown (B_a.cell (v := .int .i64 ax) 0 rfl)
    have k_a_1 := cell_regrown (B_a.cell (v := .int .i64 ay) 1 rfl)
    have k_b_0 := cell_regrown (B_b.cell (v := .int .i64 bx) 0 rfl)
    have k_b_1 := cell_regrown (B_b.cell (v := .int .i64 b') 1 rfl)
    have k_p_0 := cell_regrown (B_p.cell (v := .int .i64 px) 0 rfl)
    have k_p_1 := cell_regrown (B_p.cell (v := .int .i64 py) 1 rfl)
    have k_one_0 := cell_regrown (B_one.cell (v := .int .u64 (hiw ((bx - ax) * (py - ay)))) 0 rfl)
    have k_one_1 := cell_regrown (B_one.cell (v := .int .u64 (low ((bx - ax) * (py - ay)))) 1 rfl)
    have k_one_2 := cell_regrown (B_one.cell (v := .bool (ngw ((bx - ax) * (py - ay)))) 2 rfl)
    refine wp_region_low 12 (by kernel_rfl) (by kernel_rfl) ?_
    simp only [List.take, List.drop]
    iterate 11 (refine low_step (fun K hK => ?_); go_simp; first | (refine hK _ ?_; clear hK K) | (apply Exists.intro; refine ⟨fun p => ?_, hK _ ?_⟩; (first | with_reducible exact diff_any _ _ (by assumption) (by assumption) (by assumption) (by assumption) _ | with_reducible exact mul_W _ _ (by omega) (by omega) (by omega) (by omega) _); clear hK K))
    refine low_new (.cells #[.int .u64 0, .int .u64 0, .bool false] 99) (by rfl) (fun w => by go_simp) ?_
    intro g_two
    refine low_nil ?_
    intro W4 hC
    have hb := hC.1
    clear k_a_0 k_a_1 k_b_0 k_b_1 k_p_0 k_p_1 k_one_0 k_one_1 k_one_2
    have lu_a := B_a.lt
    have lu_b := B_b.lt
    have lu_p := B_p.lt
    have lu_one := B_one.lt
    replace B_a := B_a.below hb
    replace B_b := B_b.below hb
    replace B_p := B_p.below hb
    replace B_one := B_one.below hb
    obtain ⟨B_two, z_two⟩ := cls_bk (i := 11) hC rfl
    obtain ⟨hB', hS'⟩ := below_c (w := w) hb hB
    have o_two : w.heap.size ≤ g_two := Nat.le_trans hS z_two
    have n_a_two : w.heap.size ≠ g_two := by omega
    have n_b_two : w.heap.size + 1 ≠ g_two := by omega
    have n_p_two : w.heap.size + 1 + 1 ≠ g_two := by omega
    have n_one_two : g_one ≠ g_two := by omega
    clear lu_a lu_b lu_p lu_one
    clear hC hb hB hS
    have hB := hB'; have hS := hS'; clear hB' hS'
    have c_one_0 := B_one.cell (v := .int .u64 (hiw ((bx - ax) * (py - ay)))) 0 rfl
    have c_one_1 := B_one.cell (v := .int .u64 (low ((bx - ax) * (py - ay)))) 1 rfl
    have c_one_2 := B_one.cell (v := .bool (ngw ((bx - ax) * (py - ay)))) 2 rfl
    have lt_one := B_one.lt
    have c_two_0 := B_two.cell (v := .int .u64 0) 0 rfl
    have c_two_1 := B_two.cell (v := .int .u64 0) 1 rfl
    have c_two_2 := B_two.cell (v := .bool false) 2 rfl
    have lt_two := B_two.lt
    have f_two_0 := B_two.free 0
    have f_two_1 := B_two.free 1
    have f_two_2 := B_two.free 2
    go_wp2_with fail
    clear eqE
    refine wp_name (fun W => Below w.heap.size w W ∧ Bk W (g_one) #[.int .u64 (hiw ((bx - ax) * (py - ay))), .int .u64 (low ((bx - ax) * (py - ay))), .bool (ngw ((bx - ax) * (py - ay)))] 99 ∧ Bk W (g_two) #[.int .u64 (hiw ((b' - ay) * (px - ax))), .int .u64 (low ((b' - ay) * (px - ax))), .bool (ngw ((b' - ay) * (px - ax)))] 99) ⟨(Below.setCell (p := ⟨g_two, 2, none⟩) (Below.setCell (p := ⟨g_two, 1, none⟩) (Below.setCell (p := ⟨g_two, 0, none⟩) hB o_two _) o_two _) o_two _), (Bk.far (Bk.far (Bk.far B_one (by first | assumption | (simp; done) | (exact Ne.symm (by assumption)) | (simp; omega)) _) (by first | assumption | (simp; done) | (exact Ne.symm (by assumption)) | (simp; omega)) _) (by first | assumption | (simp; done) | (exact Ne.symm (by assumption)) | (simp; omega)) _), (Bk.put (Bk.put (Bk.put B_two 0 _) 1 _) 2 _)⟩ ?_
    clear c_one_0 c_one_1 c_one_2 lt_one c_two_0 c_two_1 c_two_2 lt_two f_two_0 f_two_1 f_two_2
    clear hB hS B_one B_two
    rintro W5 ⟨hB, B_one, B_two⟩
    have hS := hB.size
    obtain ⟨s, t, b, c, HS, HT, HL, hc, hh⟩ := hK
    have HC := Lib.hid hc
    clear hc
    rcases hh with ⟨hlt, hr⟩ | ⟨hlt, hr⟩ | ⟨rfl, hh⟩
    · have HR := Lib.hid hr; clear hr
      have k_one_0 := cell_regrown (B_one.cell (v := .int .u64 (hiw ((bx - ax) * (py - ay)))) 0 rfl)
      have k_one_1 := cell_regrown (B_one.cell (v := .int .u64 (low ((bx - ax) * (py - ay)))) 1 rfl)
      have k_one_2 := cell_regrown (B_one.cell (v := .bool (ngw ((bx - ax) * (py - ay)))) 2 rfl)
      have k_two_0 := cell_regrown (B_two.cell (v := .int .u64 (hiw ((b' - ay) * (px - ax)))) 0 rfl)
      have k_two_1 := cell_regrown (B_two.cell (v := .int .u64 (low ((b' - ay) * (px - ax)))) 1 rfl)
      have k_two_2 := cell_regrown (B_two.cell (v := .bool (ngw ((b' - ay) * (px - ax)))) 2 rfl)
      refine wp_region_low 5 (by kernel_rfl) (by kernel_rfl) ?_
      simp only [List.take, List.drop]
      iterate 5 (refine low_step (fun K hK => ?_); go_simp; first | (refine hK _ ?_; clear hK K) | (apply Exists.intro; refine ⟨fun p => ?_, hK _ ?_⟩; (first | with_reducible exact sign_is ((bx - ax) * (py - ay)) s HS.out _ | with_reducible exact sign_is ((b' - ay) * (px - ax)) t HT.out _); clear hK K))
      refine low_nil ?_
      intro W6 hC
      have hb := hC.1
      clear k_one_0 k_one_1 k_one_2 k_two_0 k_two_1 k_two_2
      replace B_one := B_one.below hb
      replace B_two := B_two.below hb
      obtain ⟨hB', hS'⟩ := below_c (w := w) hb hB
      clear hC hb hB hS
      have hB := hB'; have hS := hS'; clear hB' hS'
      go_wp2
      refine wp_name (fun W => Below w.heap.size w W ∧ Bk W (g_one) #[.int .u64 (hiw ((bx - ax) * (py - ay))), .int .u64 (low ((bx - ax) * (py - ay))), .bool (ngw ((bx - ax) * (py - ay)))] 99 ∧ Bk W (g_two) #[.int .u64 (hiw ((b' - ay) * (px - ax))), .int .u64 (low ((b' - ay) * (px - ax))), .bool (ngw ((b' - ay) * (px - ax)))] 99) ⟨by (first | (go_grown; done) | (repeat (first | assumption | (refine Below.setCell ?_ (by first | assumption | (simp; omega) | omega) _) | (refine Below.alloc ?_ (by assumption) _)))), by (repeat (first | with_reducible assumption | ((with_reducible refine Bk.at_ ?_); first | rfl | (simp; done)) | with_reducible apply Bk.alloc)), by (repeat (first | with_reducible assumption | ((with_reducible refine Bk.at_ ?_); first | rfl | (simp; done)) | with_reducible apply Bk.alloc))⟩ ?_
      clear hB hS B_one B_two
      rintro W7 ⟨hB, B_one, B_two⟩
      have hS := hB.size
      have k_one_0 := cell_regrown (B_one.cell (v := .int .u64 (hiw ((bx - ax) * (py - ay)))) 0 rfl)
      have k_one_1 := cell_regrown (B_one.cell (v := .int .u64 (low ((bx - ax) * (py - ay)))) 1 rfl)
      have k_one_2 := cell_regrown (B_one.cell (v := .bool (ngw ((bx - ax) * (py - ay)))) 2 rfl)
      have k_two_0 := cell_regrown (B_two.cell (v := .int .u64 (hiw ((b' - ay) * (px - ax)))) 0 rfl)
      have k_two_1 := cell_regrown (B_two.cell (v := .int .u64 (low ((b' - ay) * (px - ax)))) 1 rfl)
      have k_two_2 := cell_regrown (B_two.cell (v := .bool (ngw ((b' - ay) * (px - ax)))) 2 rfl)
      refine wp_region_low 4 (by kernel_rfl) (by kernel_rfl) ?_
      simp only [List.take, List.drop]
      iterate 4 (refine low_step (fun K hK => ?_); go_simp; first | (refine hK _ ?_; clear hK K) | (apply Exists.intro; refine ⟨fun p => ?_, hK _ ?_⟩; (first | with_reducible exact sign_is ((bx - ax) * (py - ay)) s HS.out _ | with_reducible exact sign_is ((b' - ay) * (px - ax)) t HT.out _); clear hK K))
      refine low_nil ?_
      intro W8 hC
      have hb := hC.1
      clear k_one_0 k_one_1 k_one_2 k_two_0 k_two_1 k_two_2
      replace B_one := B_one.below hb
      replace B_two := B_two.below hb
      obtain ⟨hB', hS'⟩ := below_c (w := w) hb hB
      clear hC hb hB hS
      have hB := hB'; have hS := hS'; clear hB' hS'
      go_wp2
      go_returns
      exact ⟨ret_int HR.out.symm, by (first | (go_grown; done) | (repeat (first | assumption | (refine Below.setCell ?_ (by first | assumption | (simp; omega) | omega) _) | (refine Below.alloc ?_ (by assumption) _))))⟩
    · have HR := Lib.hid hr; clear hr
      have k_one_0 := cell_regrown (B_one.cell (v := .int .u64 (hiw ((bx - ax) * (py - ay)))) 0 rfl)
      have k_one_1 := cell_regrown (B_one.cell (v := .int .u64 (low ((bx - ax) * (py - ay)))) 1 rfl)
      have k_one_2 := cell_regrown (B_one.cell (v := .bool (ngw ((bx - ax) * (py - ay)))) 2 rfl)
      have k_two_0 := cell_regrown (B_two.cell (v := .int .u64 (hiw ((b' - ay) * (px - ax)))) 0 rfl)
      have k_two_1 := cell_regrown (B_two.cell (v := .int .u64 (low ((b' - ay) * (px - ax)))) 1 rfl)
      have k_two_2 := cell_regrown (B_two.cell (v := .bool (ngw ((b' - ay) * (px - ax)))) 2 rfl)
      refine wp_region_low 5 (by kernel_rfl) (by kernel_rfl) ?_
      simp only [List.take, List.drop]
      iterate 5 (refine low_step (fun K hK => ?_); go_simp; first | (refine hK _ ?_; clear hK K) | (apply Exists.intro; refine ⟨fun p => ?_, hK _ ?_⟩; (first | with_reducible exact sign_is ((bx - ax) * (py - ay)) s HS.out _ | with_reducible exact sign_is ((b' - ay) * (px - ax)) t HT.out _); clear hK K))
      refine low_nil ?_
      intro W6 hC
      have hb := hC.1
      clear k_one_0 k_one_1 k_one_2 k_two_0 k_two_1 k_two_2
      replace B_one := B_one.below hb
      replace B_two := B_two.below hb
      obtain ⟨hB', hS'⟩ := below_c (w := w) hb hB
      clear hC hb hB hS
      have hB := hB'; have hS := hS'; clear hB' hS'
      go_wp2
      refine wp_name (fun W => Below w.heap.size w W ∧ Bk W (g_one) #[.int .u64 (hiw ((bx - ax) * (py - ay))), .int .u64 (low ((bx - ax) * (py - ay))), .bool (ngw ((bx - ax) * (py - ay)))] 99 ∧ Bk W (g_two) #[.int .u64 (hiw ((b' - ay) * (px - ax))), .int .u64 (low ((b' - ay) * (px - ax))), .bool (ngw ((b' - ay) * (px - ax)))] 99) ⟨by (first | (go_grown; done) | (repeat (first | assumption | (refine Below.setCell ?_ (by first | assumption | (simp; omega) | omega) _) | (refine Below.alloc ?_ (by assumption) _)))), by (repeat (first | with_reducible assumption | ((with_reducible refine Bk.at_ ?_); first | rfl | (simp; done)) | with_reducible apply Bk.alloc)), by (repeat (first | with_reducible assumption | ((with_reducible refine Bk.at_ ?_); first | rfl | (simp; done)) | with_reducible apply Bk.alloc))⟩ ?_
      clear hB hS B_one B_two
      rintro W7 ⟨hB, B_one, B_two⟩
      have hS := hB.size
      have k_one_0 := cell_regrown (B_one.cell (v := .int .u64 (hiw ((bx - ax) * (py - ay)))) 0 rfl)
      have k_one_1 := cell_regrown (B_one.cell (v := .int .u64 (low ((bx - ax) * (py - ay)))) 1 rfl)
      have k_one_2 := cell_regrown (B_one.cell (v := .bool (ngw ((bx - ax) * (py - ay)))) 2 rfl)
      have k_two_0 := cell_regrown (B_two.cell (v := .int .u64 (hiw ((b' - ay) * (px - ax)))) 0 rfl)
      have k_two_1 := cell_regrown (B_two.cell (v := .int .u64 (low ((b' - ay) * (px - ax)))) 1 rfl)
      have k_two_2 := cell_regrown (B_two.cell (v := .bool (ngw ((b' - ay) * (px - ax)))) 2 rfl)
      refine wp_region_low 4 (by kernel_rfl) (by kernel_rfl) ?_
      simp only [List.take, List.drop]
      iterate 4 (refine low_step (fun K hK => ?_); go_simp; first | (refine hK _ ?_; clear hK K) | (apply Exists.intro; refine ⟨fun p => ?_, hK _ ?_⟩; (first | with_reducible exact sign_is ((bx - ax) * (py - ay)) s HS.out _ | with_reducible exact sign_is ((b' - ay) * (px - ax)) t HT.out _); clear hK K))
      refine low_nil ?_
      intro W8 hC
      have hb := hC.1
      clear k_one_0 k_one_1 k_one_2 k_two_0 k_two_1 k_two_2
      replace B_one := B_one.below hb
      replace B_two := B_two.below hb
      obtain ⟨hB', hS'⟩ := below_c (w := w) hb hB
      clear hC hb hB hS
      have hB := hB'; have hS := hS'; clear hB' hS'
      go_wp2
      go_returns
      exact ⟨ret_int HR.out.symm, by (first | (go_grown; done) | (repeat (first | assumption | (refine Below.setCell ?_ (by first | assumption | (simp; omega) | omega) _) | (refine Below.alloc ?_ (by assumption) _))))⟩
    · skip
      have k_one_0 := cell_regrown (B_one.cell (v := .int .u64 (hiw ((bx - ax) * (py - ay)))) 0 rfl)
      have k_one_1 := cell_regrown (B_one.cell (v := .int .u64 (low ((bx - ax) * (py - ay)))) 1 rfl)
      have k_one_2 := cell_regrown (B_one.cell (v := .bool (ngw ((bx - ax) * (py - ay)))) 2 rfl)
      have k_two_0 := cell_regrown (B_two.cell (v := .int .u64 (hiw ((b' - ay) * (px - ax)))) 0 rfl)
      have k_two_1 := cell_regrown (B_two.cell (v := .int .u64 (low ((b' - ay) * (px - ax)))) 1 rfl)
      have k_two_2 := cell_regrown (B_two.cell (v := .bool (ngw ((b' - ay) * (px - ax)))) 2 rfl)
      refine wp_region_low 5 (by kernel_rfl) (by kernel_rfl) ?_
      simp only [List.take, List.drop]
      iterate 5 (refine low_step (fun K hK => ?_); go_simp; first | (refine hK _ ?_; clear hK K) | (apply Exists.intro; refine ⟨fun p => ?_, hK _ ?_⟩; (first | with_reducible exact sign_is ((bx - ax) * (py - ay)) s HS.out _ | with_reducible exact sign_is ((b' - ay) * (px - ax)) s HT.out _); clear hK K))
      refine low_nil ?_
      intro W6 hC
      have hb := hC.1
      clear k_one_0 k_one_1 k_one_2 k_two_0 k_two_1 k_two_2
      replace B_one := B_one.below hb
      replace B_two := B_two.below hb
      obtain ⟨hB', hS'⟩ := below_c (w := w) hb hB
      clear hC hb hB hS
      have hB := hB'; have hS := hS'; clear hB' hS'
      go_wp2
      refine wp_name (fun W => Below w.heap.size w W ∧ Bk W (g_one) #[.int .u64 (hiw ((bx - ax) * (py - ay))), .int .u64 (low ((bx - ax) * (py - ay))), .bool (ngw ((bx - ax) * (py - ay)))] 99 ∧ Bk W (g_two) #[.int .u64 (hiw ((b' - ay) * (px - ax))), .int .u64 (low ((b' - ay) * (px - ax))), .bool (ngw ((b' - ay) * (px - ax)))] 99) ⟨by (first | (go_grown; done) | (repeat (first | assumption | (refine Below.setCell ?_ (by first | assumption | (simp; omega) | omega) _) | (refine Below.alloc ?_ (by assumption) _)))), by (repeat (first | with_reducible assumption | ((with_reducible refine Bk.at_ ?_); first | rfl | (simp; done)) | with_reducible apply Bk.alloc)), by (repeat (first | with_reducible assumption | ((with_reducible refine Bk.at_ ?_); first | rfl | (simp; done)) | with_reducible apply Bk.alloc))⟩ ?_
      clear hB hS B_one B_two
      rintro W7 ⟨hB, B_one, B_two⟩
      have hS := hB.size
      rcases hh with ⟨rfl, rfl, hr⟩ | ⟨rfl, rfl, hr⟩ | ⟨rfl, rfl, hr⟩ | ⟨rfl, rfl, hr⟩
      · have HR := Lib.hid hr; clear hr; have hc := HC.out
        have k_one_0 := cell_regrown (B_one.cell (v := .int .u64 (hiw ((bx - ax) * (py - ay)))) 0 rfl)
        have k_one_1 := cell_regrown (B_one.cell (v := .int .u64 (low ((bx - ax) * (py - ay)))) 1 rfl)
        have k_one_2 := cell_regrown (B_one.cell (v := .bool (ngw ((bx - ax) * (py - ay)))) 2 rfl)
        have k_two_0 := cell_regrown (B_two.cell (v := .int .u64 (hiw ((b' - ay) * (px - ax)))) 0 rfl)
        have k_two_1 := cell_regrown (B_two.cell (v := .int .u64 (low ((b' - ay) * (px - ax)))) 1 rfl)
        have k_two_2 := cell_regrown (B_two.cell (v := .bool (ngw ((b' - ay) * (px - ax)))) 2 rfl)
        refine wp_region_low 8 (by kernel_rfl) (by kernel_rfl) ?_
        simp only [List.take, List.drop]
        iterate 8 (refine low_step (fun K hK => ?_); go_simp; first | (refine hK _ ?_; clear hK K) | (apply Exists.intro; refine ⟨fun p => ?_, hK _ ?_⟩; (first | with_reducible exact lesw_is ((bx - ax) * (py - ay)) ((b' - ay) * (px - ax)) _ HL.out _); clear hK K))
        refine low_nil ?_
        intro W8 hC
        have hb := hC.1
        clear k_one_0 k_one_1 k_one_2 k_two_0 k_two_1 k_two_2
        replace B_one := B_one.below hb
        replace B_two := B_two.below hb
        obtain ⟨hB', hS'⟩ := below_c (w := w) hb hB
        clear hC hb hB hS
        have hB := hB'; have hS := hS'; clear hB' hS'
        go_wp2
        go_returns
        exact ⟨ret_int HR.out.symm, by (first | (go_grown; done) | (repeat (first | assumption | (refine Below.setCell ?_ (by first | assumption | (simp; omega) | omega) _) | (refine Below.alloc ?_ (by assumption) _))))⟩
      · have HR := Lib.hid hr; clear hr; have hc := HC.out
        have k_one_0 := cell_regrown (B_one.cell (v := .int .u64 (hiw ((bx - ax) * (py - ay)))) 0 rfl)
        have k_one_1 := cell_regrown (B_one.cell (v := .int .u64 (low ((bx - ax) * (py - ay)))) 1 rfl)
        have k_one_2 := cell_regrown (B_one.cell (v := .bool (ngw ((bx - ax) * (py - ay)))) 2 rfl)
        have k_two_0 := cell_regrown (B_two.cell (v := .int .u64 (hiw ((b' - ay) * (px - ax)))) 0 rfl)
        have k_two_1 := cell_regrown (B_two.cell (v := .int .u64 (low ((b' - ay) * (px - ax)))) 1 rfl)
        have k_two_2 := cell_regrown (B_two.cell (v := .bool (ngw ((b' - ay) * (px - ax)))) 2 rfl)
        refine wp_region_low 8 (by kernel_rfl) (by kernel_rfl) ?_
        simp only [List.take, List.drop]
        iterate 8 (refine low_step (fun K hK => ?_); go_simp; first | (refine hK _ ?_; clear hK K) | (apply Exists.intro; refine ⟨fun p => ?_, hK _ ?_⟩; (first | with_reducible exact lesw_is ((bx - ax) * (py - ay)) ((b' - ay) * (px - ax)) _ HL.out _); clear hK K))
        refine low_nil ?_
        intro W8 hC
        have hb := hC.1
        clear k_one_0 k_one_1 k_one_2 k_two_0 k_two_1 k_two_2
        replace B_one := B_one.below hb
        replace B_two := B_two.below hb
        obtain ⟨hB', hS'⟩ := below_c (w := w) hb hB
        clear hC hb hB hS
        have hB := hB'; have hS := hS'; clear hB' hS'
        go_wp2
        go_returns
        exact ⟨ret_int HR.out.symm, by (first | (go_grown; done) | (repeat (first | assumption | (refine Below.setCell ?_ (by first | assumption | (simp; omega) | omega) _) | (refine Below.alloc ?_ (by assumption) _))))⟩
      · have HR := Lib.hid hr; clear hr; have hc := HC.out
        have k_one_0 := cell_regrown (B_one.cell (v := .int .u64 (hiw ((bx - ax) * (py - ay)))) 0 rfl)
        have k_one_1 := cell_regrown (B_one.cell (v := .int .u64 (low ((bx - ax) * (py - ay)))) 1 rfl)
        have k_one_2 := cell_regrown (B_one.cell (v := .bool (ngw ((bx - ax) * (py - ay)))) 2 rfl)
        have k_two_0 := cell_regrown (B_two.cell (v := .int .u64 (hiw ((b' - ay) * (px - ax)))) 0 rfl)
        have k_two_1 := cell_regrown (B_two.cell (v := .int .u64 (low ((b' - ay) * (px - ax)))) 1 rfl)
        have k_two_2 := cell_regrown (B_two.cell (v := .bool (ngw ((b' - ay) * (px - ax)))) 2 rfl)
        refine wp_region_low 8 (by kernel_rfl) (by kernel_rfl) ?_
        simp only [List.take, List.drop]
        iterate 8 (refine low_step (fun K hK => ?_); go_simp; first | (refine hK _ ?_; clear hK K) | (apply Exists.intro; refine ⟨fun p => ?_, hK _ ?_⟩; (first | with_reducible exact lesw_is ((bx - ax) * (py - ay)) ((b' - ay) * (px - ax)) _ HL.out _); clear hK K))
        refine low_nil ?_
        intro W8 hC
        have hb := hC.1
        clear k_one_0 k_one_1 k_one_2 k_two_0 k_two_1 k_two_2
        replace B_one := B_one.below hb
        replace B_two := B_two.below hb
        obtain ⟨hB', hS'⟩ := below_c (w := w) hb hB
        clear hC hb hB hS
        have hB := hB'; have hS := hS'; clear hB' hS'
        go_wp2
        go_returns
        exact ⟨ret_int HR.out.symm, by (first | (go_grown; done) | (repeat (first | assumption | (refine Below.setCell ?_ (by first | assumption | (simp; omega) | omega) _) | (refine Below.alloc ?_ (by assumption) _))))⟩
      · have HR := Lib.hid hr; clear hr; have hc := HC.out
        have k_one_0 := cell_regrown (B_one.cell (v := .int .u64 (hiw ((bx - ax) * (py - ay)))) 0 rfl)
        have k_one_1 := cell_regrown (B_one.cell (v := .int .u64 (low ((bx - ax) * (py - ay)))) 1 rfl)
        have k_one_2 := cell_regrown (B_one.cell (v := .bool (ngw ((bx - ax) * (py - ay)))) 2 rfl)
        have k_two_0 := cell_regrown (B_two.cell (v := .int .u64 (hiw ((b' - ay) * (px - ax)))) 0 rfl)
        have k_two_1 := cell_regrown (B_two.cell (v := .int .u64 (low ((b' - ay) * (px - ax)))) 1 rfl)
        have k_two_2 := cell_regrown (B_two.cell (v := .bool (ngw ((b' - ay) * (px - ax)))) 2 rfl)
        refine wp_region_low 8 (by kernel_rfl) (by kernel_rfl) ?_
        simp only [List.take, List.drop]
        iterate 8 (refine low_step (fun K hK => ?_); go_simp; first | (refine hK _ ?_; clear hK K) | (apply Exists.intro; refine ⟨fun p => ?_, hK _ ?_⟩; (first | with_reducible exact lesw_is ((bx - ax) * (py - ay)) ((b' - ay) * (px - ax)) _ HL.out _); clear hK K))
        refine low_nil ?_
        intro W8 hC
        have hb := hC.1
        clear k_one_0 k_one_1 k_one_2 k_two_0 k_two_1 k_two_2
        replace B_one := B_one.below hb
        replace B_two := B_two.below hb
        obtain ⟨hB', hS'⟩ := below_c (w := w) hb hB
        clear hC hb hB hS
        have hB := hB'; have hS := hS'; clear hB' hS'
        go_wp2
        go_returns
        exact ⟨ret_int HR.out.symm, by (first | (go_grown; done) | (repeat (first | assumption | (refine Below.setCell ?_ (by first | assumption | (simp; omega) | omega) _) | (refine Below.alloc ?_ (by assumption) _))))⟩
set_option maxRecDepth 100000 in
set_option maxHeartbeats 4000000 in
theorem vdot_any (ax ay bx b' : Int) (hax : I64 ax) (hay : I64 ay) (hbx : I64 bx) (hb : I64 b') (w : World) :
    Calls Try.prog 59 #[V ax ay, V bx b'] w fun e w' => e = .returned (.int .i64 (sat (ax * bx + ay * b'))) ∧ Below w.heap.size w w' := by
  obtain ⟨l0, u0⟩ := hax
  obtain ⟨l1, u1⟩ := hay
  obtain ⟨l2, u2⟩ := hbx
  obtain ⟨l3, u3⟩ := hb
  have hp1 := natAbs_mul_lt ax bx 9223372036854775808 9223372036854775808 (by omega) (by omega)
  have hp2 := natAbs_mul_lt ay b' 9223372036854775808 9223372036854775808 (by omega) (by omega)
  go_enter Try.func59, Try.ntmps59
  go_wp2
  have o_a : w.heap.size ≤ w.heap.size := Nat.le_add_right _ 0
  have o_b : w.heap.size ≤ w.heap.size + 1 := Nat.le_add_right _ 1
  refine wp_name (fun W => Below w.heap.size w W ∧ Bk W (w.heap.size) #[.int .i64 ax, .int .i64 ay] 55 ∧ Bk W (w.heap.size + 1) #[.int .i64 bx, .int .i64 b'] 55) ⟨by (first | (go_grown; done) | (repeat (first | assumption | (refine Below.setCell ?_ (by first | assumption | (simp; omega) | omega) _) | (refine Below.alloc ?_ (by assumption) _)))), by (repeat (first | with_reducible assumption | ((with_reducible refine Bk.at_ ?_); first | rfl | (simp; done)) | with_reducible apply Bk.alloc)), by (repeat (first | with_reducible assumption | ((with_reducible refine Bk.at_ ?_); first | rfl | (simp; done)) | with_reducible apply Bk.alloc))⟩ ?_
  rintro W1 ⟨hB, B_a, B_b⟩
  have hS := hB.size
  have k_a_0 := cell_regrown (B_a.cell (v := .int .i64 ax) 0 rfl)
  have k_a_1 := cell_regrown (B_a.cell (v := .int .i64 ay) 1 rfl)
  have k_b_0 := cell_regrown (B_b.cell (v := .int .i64 bx) 0 rfl)
  have k_b_1 := cell_regrown (B_b.cell (v := .int .i64 b') 1 rfl)
  refine wp_region_low 17 (by kernel_rfl) (by kernel_rfl) ?_
  simp only [List.take, List.drop]
  iterate 14 (refine low_step (fun K hK => ?_); go_simp; first | (refine hK _ ?_; clear hK K) | (apply Exists.intro; refine ⟨fun p => ?_, hK _ ?_⟩; (first | with_reducible exact of_any _ (by assumption) (by assumption) _ | with_reducible exact mul_W _ _ (by omega) (by omega) (by omega) (by omega) _ | with_reducible exact sat_any _ (by omega) (by omega) _); clear hK K))
  refine low_slice 2 2 (.cells #[.int .u64 (hiw (ax * bx)), .int .u64 (low (ax * bx)), .bool (ngw (ax * bx)), .int .u64 (hiw (ay * b')), .int .u64 (low (ay * b')), .bool (ngw (ay * b'))] 99) (by rfl) (fun w => by go_simp) ?_
  intro g_s
  refine low_call 14 g_s _ _ (by rfl) (fun w => by go_simp; exact ⟨rfl, rfl⟩) (by kernel_rfl) ⟨⟨14, .data⟩, by simp, rfl, rfl⟩ rfl (fun W hW hg hk => by
    have B : Bk W g_s #[.int .u64 (hiw (ax * bx)), .int .u64 (low (ax * bx)), .bool (ngw (ax * bx)), .int .u64 (hiw (ay * b')), .int .u64 (low (ay * b')), .bool (ngw (ay * b'))] 99 := hk
    exact sum2_any (ax * bx) (ay * b') _ (by omega) (by omega) _ B.lt (B.cell 0 rfl) (B.cell 1 rfl) (B.cell 2 rfl) (B.cell 3 rfl) (B.cell 4 rfl) (B.cell 5 rfl)) ?_
  iterate 1 (refine low_step (fun K hK => ?_); go_simp; first | (refine hK _ ?_; clear hK K) | (apply Exists.intro; refine ⟨fun p => ?_, hK _ ?_⟩; (first | with_reducible exact of_any _ (by assumption) (by assumption) _ | with_reducible exact mul_W _ _ (by omega) (by omega) (by omega) (by omega) _ | with_reducible exact sat_any _ (by omega) (by omega) _); clear hK K))
  refine low_nil ?_
  intro W2 hC
  have hb := hC.1
  clear k_a_0 k_a_1 k_b_0 k_b_1
  replace B_a := B_a.below hb
  replace B_b := B_b.below hb
  obtain ⟨hB', hS'⟩ := below_c (w := w) hb hB
  clear hC hb hB hS
  have hB := hB'; have hS := hS'; clear hB' hS'
  go_wp2
  go_returns
  exact ⟨rfl, by (first | (go_grown; done) | (repeat (first | assumption | (refine Below.setCell ?_ (by first | assumption | (simp; omega) | omega) _) | (refine Below.alloc ?_ (by assumption) _))))⟩
set_option maxRecDepth 100000 in
set_option maxHeartbeats 4000000 in
theorem vcross_any (ax ay bx b' : Int) (hax : I64 ax) (hay : I64 ay) (hbx : I64 bx) (hb : I64 b') (w : World) :
    Calls Try.prog 50 #[V ax ay, V bx b'] w fun e w' => e = .returned (.int .i64 (sat (ax * b' + -(ay * bx)))) ∧ Below w.heap.size w w' := by
  obtain ⟨l0, u0⟩ := hax
  obtain ⟨l1, u1⟩ := hay
  obtain ⟨l2, u2⟩ := hbx
  obtain ⟨l3, u3⟩ := hb
  have hp1 := natAbs_mul_lt ax b' 9223372036854775808 9223372036854775808 (by omega) (by omega)
  have hp2 := natAbs_mul_lt ay bx 9223372036854775808 9223372036854775808 (by omega) (by omega)
  go_enter Try.func50, Try.ntmps50
  go_wp2
  have o_a : w.heap.size ≤ w.heap.size := Nat.le_add_right _ 0
  have o_b : w.heap.size ≤ w.heap.size + 1 := Nat.le_add_right _ 1
  refine wp_name (fun W => Below w.heap.size w W ∧ Bk W (w.heap.size) #[.int .i64 ax, .int .i64 ay] 55 ∧ Bk W (w.heap.size + 1) #[.int .i64 bx, .int .i64 b'] 55) ⟨by (first | (go_grown; done) | (repeat (first | assumption | (refine Below.setCell ?_ (by first | assumption | (simp; omega) | omega) _) | (refine Below.alloc ?_ (by assumption) _)))), by (repeat (first | with_reducible assumption | ((with_reducible refine Bk.at_ ?_); first | rfl | (simp; done)) | with_reducible apply Bk.alloc)), by (repeat (first | with_reducible assumption | ((with_reducible refine Bk.at_ ?_); first | rfl | (simp; done)) | with_reducible apply Bk.alloc))⟩ ?_
  rintro W1 ⟨hB, B_a, B_b⟩
  have hS := hB.size
  have k_a_0 := cell_regrown (B_a.cell (v := .int .i64 ax) 0 rfl)
  have k_a_1 := cell_regrown (B_a.cell (v := .int .i64 ay) 1 rfl)
  have k_b_0 := cell_regrown (B_b.cell (v := .int .i64 bx) 0 rfl)
  have k_b_1 := cell_regrown (B_b.cell (v := .int .i64 b') 1 rfl)
  refine wp_region_low 18 (by kernel_rfl) (by kernel_rfl) ?_
  simp only [List.take, List.drop]
  iterate 15 (refine low_step (fun K hK => ?_); go_simp; first | (refine hK _ ?_; clear hK K) | (apply Exists.intro; refine ⟨fun p => ?_, hK _ ?_⟩; (first | with_reducible exact of_any _ (by assumption) (by assumption) _ | with_reducible exact mul_W _ _ (by omega) (by omega) (by omega) (by omega) _ | with_reducible exact sat_any _ (by omega) (by omega) _ | with_reducible exact neg_any _ _); clear hK K))
  refine low_slice 2 2 (.cells #[.int .u64 (hiw (ax * b')), .int .u64 (low (ax * b')), .bool (ngw (ax * b')), .int .u64 (hiw (-(ay * bx))), .int .u64 (low (-(ay * bx))), .bool (ngw (-(ay * bx)))] 99) (by rfl) (fun w => by go_simp) ?_
  intro g_s
  refine low_call 15 g_s _ _ (by rfl) (fun w => by go_simp; exact ⟨rfl, rfl⟩) (by kernel_rfl) ⟨⟨15, .data⟩, by simp, rfl, rfl⟩ rfl (fun W hW hg hk => by
    have B : Bk W g_s #[.int .u64 (hiw (ax * b')), .int .u64 (low (ax * b')), .bool (ngw (ax * b')), .int .u64 (hiw (-(ay * bx))), .int .u64 (low (-(ay * bx))), .bool (ngw (-(ay * bx)))] 99 := hk
    exact sum2_any (ax * b') (-(ay * bx)) _ (by omega) (by omega) _ B.lt (B.cell 0 rfl) (B.cell 1 rfl) (B.cell 2 rfl) (B.cell 3 rfl) (B.cell 4 rfl) (B.cell 5 rfl)) ?_
  iterate 1 (refine low_step (fun K hK => ?_); go_simp; first | (refine hK _ ?_; clear hK K) | (apply Exists.intro; refine ⟨fun p => ?_, hK _ ?_⟩; (first | with_reducible exact of_any _ (by assumption) (by assumption) _ | with_reducible exact mul_W _ _ (by omega) (by omega) (by omega) (by omega) _ | with_reducible exact sat_any _ (by omega) (by omega) _ | with_reducible exact neg_any _ _); clear hK K))
  refine low_nil ?_
  intro W2 hC
  have hb := hC.1
  clear k_a_0 k_a_1 k_b_0 k_b_1
  replace B_a := B_a.below hb
  replace B_b := B_b.below hb
  obtain ⟨hB', hS'⟩ := below_c (w := w) hb hB
  clear hC hb hB hS
  have hB := hB'; have hS := hS'; clear hB' hS'
  go_wp2
  go_returns
  exact ⟨rfl, by (first | (go_grown; done) | (repeat (first | assumption | (refine Below.setCell ?_ (by first | assumption | (simp; omega) | omega) _) | (refine Below.alloc ?_ (by assumption) _))))⟩
end Go.Proofs.Ytolifgjkejhlhaa
