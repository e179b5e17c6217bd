/- VecLimits: the walk: whatever the arguments are, it returns true and writes nothing that was there. -/
import Derived.Test.YtolifgjkejhlhaaVLaw
import Derived.OpenShut
import Derived.Test.YtolifgjkejhlhaaMinMax
import Derived.Test.YtolifgjkejhlhaaVMore
set_option linter.unusedVariables false
set_option linter.unusedSimpArgs false
namespace Go.Proofs.Ytolifgjkejhlhaa
open Go.RowKit

open Go Go.Sort
attribute [local go_sem] opLow opUpon
theorem rem_any (x f m : Int) (h1 : (x.natAbs : Int) ≤ f) (h2 : 0 ≤ m) (h3 : m < f) : -f < x * m - wst x f m * f ∧ x * m - wst x f m * f < f := by
  by_cases h0 : m = 0
  · subst h0; rw [show wst x f 0 = 0 by unfold wst; rw [if_pos (by omega)], Int.mul_zero, Int.zero_mul]; omega
  · have key : ∀ y : Int, 0 ≤ y → y ≤ f → 0 ≤ y * m - wst y f m * f ∧ y * m - wst y f m * f < f := fun y a b => by
      have := (part_pos y f m a b (by omega) h3).2.2.2.2.2
      unfold wst; rw [if_neg (by omega), if_neg (by omega)]; exact this
    rcases (by omega : 0 ≤ x ∨ 0 ≤ -x) with h | h
    · have := key x h (by omega); omega
    · have := key (-x) h (by omega)
      rw [wst_neg, Int.neg_mul, Int.neg_mul] at this; omega
theorem cross_small (x y n : Int) (h0 : 0 ≤ n) (h1 : n < vfar x y) : (((wst x (vfar x y) n) * y + -((wst y (vfar x y) n) * x)).natAbs : Int) < vfar x y := by
  obtain ⟨v1, v2, v3, v4⟩ := vfar_bd x y
  have a := wst_any x (vfar x y) n v1
  have b := wst_any y (vfar x y) n v2
  have rx := rem_any x (vfar x y) n v1 h0 h1
  have ry := rem_any y (vfar x y) n v2 h0 h1
  generalize vfar x y = f at *
  generalize wst x f n = p at *
  generalize wst y f n = q at *
  rcases v4 with v4 | v4
  · have a5 := (a.2.2.2.2 (by omega)).1
    rcases (by omega : 0 ≤ x ∧ x = f ∨ x ≤ 0 ∧ x = -f) with ⟨s, e⟩ | ⟨s, e⟩
    · obtain rfl : p = n := by have := a.1 s; omega
      subst e
      rw [Int.mul_comm p y]; omega
    · obtain rfl : p = -n := by have := a.2.1 s; omega
      subst e
      rw [Int.neg_mul, Int.mul_neg, Int.mul_comm n y]; omega
  · have b5 := (b.2.2.2.2 (by omega)).1
    rcases (by omega : 0 ≤ y ∧ y = f ∨ y ≤ 0 ∧ y = -f) with ⟨s, e⟩ | ⟨s, e⟩
    · obtain rfl : q = n := by have := b.1 s; omega
      subst e
      rw [Int.mul_comm q x]; omega
    · obtain rfl : q = -n := by have := b.2.1 s; omega
      subst e
      rw [Int.neg_mul, Int.mul_neg, Int.mul_comm n x]; omega
theorem same_sign (p x f m : Int) (hx : (x.natAbs : Int) ≤ f) (hp : wst x f m = p) (hb : (x.natAbs : Int) ≤ 1048576) : 0 ≤ p * x ∧ p * x ≤ 1099511627776 := by
  have h := wst_any x f m hx
  rw [hp] at h
  have h2 := natAbs_mul_lt p x 1048576 1048576 (by omega) (by omega)
  have h3 : 0 ≤ p * x := by
    rcases (by omega : 0 ≤ x ∧ 0 ≤ p ∨ x ≤ 0 ∧ p ≤ 0) with ⟨a, b⟩ | ⟨a, b⟩
    · exact Int.mul_nonneg b a
    · rw [← Int.neg_mul_neg]; exact Int.mul_nonneg (by omega) (by omega)
  omega

set_option maxRecDepth 100000 in
set_option maxHeartbeats 8000000 in
theorem walk_VecLimits (a0 a1 a2 : Int) (w0 : (Lit.int .i32 a0).wf = true) (w1 : (Lit.int .i32 a1).wf = true) (w2 : (Lit.int .u32 a2).wf = true) (w : World) :
    Calls Try.prog 18 #[.int .i32 a0, .int .i32 a1, .int .u32 a2] w fun e w' => e = .returned (.bool true) ∧ Below w.heap.size w w' := by
  have w0 := bounds_i32 w0
  have w1 := bounds_i32 w1
  have w2 := bounds_u32 w2
  obtain ⟨vx, hvx⟩ : ∃ vx, wco a0 = vx := ⟨_, rfl⟩
  have bvx := wco_bd a0
  rw [hvx] at bvx
  obtain ⟨vy, hvy⟩ : ∃ vy, wco a1 = vy := ⟨_, rfl⟩
  have bvy := wco_bd a1
  rw [hvy] at bvy
  have HW0 := Lib.hid (show ((-2147483648 ≤ a0 ∧ a0 ≤ 2147483647) ∧ (-2147483648 ≤ a1 ∧ a1 ≤ 2147483647)) ∧ wco a0 = vx ∧ wco a1 = vy from ⟨⟨w0, w1⟩, hvx, hvy⟩)
  clear hvx hvy
  have n0 := Int.emod_nonneg a2 (show (2097153 : Int) ≠ 0 by decide)
  have n1 := Int.emod_lt_of_pos a2 (show (0 : Int) < 2097153 by decide)
  obtain ⟨n, hn⟩ : ∃ n, a2 % 2097153 = n := ⟨_, rfl⟩
  rw [hn] at n0 n1
  have hv := vfar_bd vx vy
  have hcs := cross_small vx vy n n0
  have hst := vfar_step vx vy n
  have gx := same_sign _ vx (vfar vx vy) n hv.1 rfl (by omega)
  have gy := same_sign _ vy (vfar vx vy) n hv.2.1 rfl (by omega)
  have hx := wst_any vx (vfar vx vy) n hv.1
  have hy := wst_any vy (vfar vx vy) n hv.2.1
  obtain ⟨f, hf⟩ : ∃ f, vfar vx vy = f := ⟨_, rfl⟩
  rw [hf] at hv hst gx gy hcs hx hy
  obtain ⟨lx, hlx⟩ : ∃ lx, wst vx f n = lx := ⟨_, rfl⟩
  obtain ⟨ly, hly⟩ : ∃ ly, wst vy f n = ly := ⟨_, rfl⟩
  rw [hlx, hly] at hst hcs
  rw [hlx] at gx hx
  rw [hly] at gy hy
  have e1 : vfar (vx - 0) (vy - 0) = f := by rw [Int.sub_zero, Int.sub_zero, hf]
  have e2 : vfar (lx - 0) (ly - 0) = min f n := by rw [Int.sub_zero, Int.sub_zero, hst.2]; omega
  have e3 : vfar lx ly = min f n := by rw [hst.2]; omega
  have e4 : ∀ z, wst z (min f n) n = z ∨ n ≤ 0 := fun z => by
    by_cases h : n ≤ 0
    · exact .inr h
    · exact .inl (by unfold wst; rw [if_neg h, if_pos (by omega)])
  have e5 : wst lx (min f n) n = lx := by
    rcases e4 lx with h | h
    · exact h
    · rw [show lx = 0 by omega, wst_zero]
  have e6 : wst ly (min f n) n = ly := by
    rcases e4 ly with h | h
    · exact h
    · rw [show ly = 0 by omega, wst_zero]
  have hb1 : -1048576 ≤ lx ∧ lx ≤ 1048576 ∧ -1048576 ≤ ly ∧ ly ≤ 1048576 ∧ 0 ≤ f ∧ f ≤ 1048576 := by omega
  have L1 := Lib.hid (show (I64 vx ∧ I64 vy ∧ I64 n) ∧ wst vx (vfar vx vy) n = lx ∧ wst vy (vfar vx vy) n = ly from ⟨⟨i64_small (by omega) (by omega), i64_small (by omega) (by omega), i64_small (by omega) (by omega)⟩, by rw [hf, hlx], by rw [hf, hly]⟩)
  have L2 := Lib.hid (show (I64 lx ∧ I64 ly ∧ I64 n) ∧ wst lx (vfar lx ly) n = lx ∧ wst ly (vfar lx ly) n = ly from ⟨⟨i64_small (by omega) (by omega), i64_small (by omega) (by omega), i64_small (by omega) (by omega)⟩, by rw [e3, e5], by rw [e3, e6]⟩)
  have D1 := Lib.hid (show (I64 0 ∧ I64 0 ∧ I64 vx ∧ I64 vy) ∧ sat (vfar (vx - 0) (vy - 0)) = f from ⟨⟨i64_small (by omega) (by omega), i64_small (by omega) (by omega), i64_small (by omega) (by omega), i64_small (by omega) (by omega)⟩, by rw [e1]; exact sat_in _ (by omega) (by omega)⟩)
  have D2 := Lib.hid (show (I64 0 ∧ I64 0 ∧ I64 lx ∧ I64 ly) ∧ sat (vfar (lx - 0) (ly - 0)) = min f n from ⟨⟨i64_small (by omega) (by omega), i64_small (by omega) (by omega), i64_small (by omega) (by omega), i64_small (by omega) (by omega)⟩, by rw [e2]; exact sat_in _ (by omega) (by omega)⟩)
  by_cases hc : f ≤ n
  · skip
    obtain ⟨rfl, rfl⟩ : lx = vx ∧ ly = vy := by
      by_cases h : n ≤ 0
      · omega
      · have a : wst vx f n = vx := by unfold wst; rw [if_neg h, if_pos hc]
        have b : wst vy f n = vy := by unfold wst; rw [if_neg h, if_pos hc]
        exact ⟨by rw [← hlx, a], by rw [← hly, b]⟩
    clear hcs gx gy
    clear hf hlx hly e1 e2 e3 e4 e5 e6 hst hx hy hv w0 w1
    obtain ⟨l1, l2, l3, l4, f1, f2⟩ := hb1
    obtain ⟨r1, r2⟩ := w2
    have r3 := r1; clear r3
    go_enter Try.func18, Try.ntmps18
    go_wp2_with fail
    with_reducible refine (world_is _ _ _ _ HW0.out _).mono ?_
    rintro e W1 ⟨rfl, hb⟩
    obtain ⟨hB', hS'⟩ := below_c (w := w) hb (by (first | (go_grown; done) | (repeat (first | assumption | (refine Below.setCell ?_ (by first | assumption | (simp; omega) | omega) _) | (refine Below.alloc ?_ (by assumption) _)))))
    clear hb
    have hB := hB'; have hS := hS'; clear hB' hS' 
    go_wp2_with fail
    with_reducible refine (vlimit_is _ _ _ _ _ L1.out _).mono ?_
    rintro e W2 ⟨rfl, hb⟩
    have B'_v : Bk W2 (W1.heap.size) #[.int .i64 lx, .int .i64 ly] 55 := Bk.below (by (repeat (first | with_reducible assumption | ((with_reducible refine Bk.at_ ?_); first | rfl | (simp; done)) | with_reducible apply Bk.alloc))) hb
    have B'_z : Bk W2 (W1.heap.size + 1) #[.int .i64 0, .int .i64 0] 55 := Bk.below (by (repeat (first | with_reducible assumption | ((with_reducible refine Bk.at_ ?_); first | rfl | (simp; done)) | with_reducible apply Bk.alloc))) hb
    obtain ⟨hB', hS'⟩ := below_c (w := w) hb (by (first | (go_grown; done) | (repeat (first | assumption | (refine Below.setCell ?_ (by first | assumption | (simp; omega) | omega) _) | (refine Below.alloc ?_ (by assumption) _)))))
    clear hb hB hS
    have B_v := B'_v
    have B_z := B'_z
    have hB := hB'; have hS := hS'; clear hB' hS' B'_v B'_z
    have c_v_0 := B_v.cell (v := .int .i64 lx) 0 rfl
    have c_v_1 := B_v.cell (v := .int .i64 ly) 1 rfl
    have lt_v := B_v.lt
    have c_z_0 := B_z.cell (v := .int .i64 0) 0 rfl
    have c_z_1 := B_z.cell (v := .int .i64 0) 1 rfl
    have lt_z := B_z.lt
    go_wp2_with fail
    with_reducible refine (vdist_is _ _ _ _ _ D1.out _).mono ?_
    rintro e W3 ⟨rfl, hb⟩
    clear c_v_0 c_v_1 lt_v c_z_0 c_z_1 lt_z
    have B'_v : Bk W3 (W1.heap.size) #[.int .i64 lx, .int .i64 ly] 55 := Bk.below (by (repeat (first | with_reducible assumption | ((with_reducible refine Bk.at_ ?_); first | rfl | (simp; done)) | with_reducible apply Bk.alloc))) hb
    have B'_z : Bk W3 (W1.heap.size + 1) #[.int .i64 0, .int .i64 0] 55 := Bk.below (by (repeat (first | with_reducible assumption | ((with_reducible refine Bk.at_ ?_); first | rfl | (simp; done)) | with_reducible apply Bk.alloc))) hb
    have B'_l : Bk W3 (W2.heap.size) #[.int .i64 lx, .int .i64 ly] 55 := Bk.below (by (repeat (first | with_reducible assumption | ((with_reducible refine Bk.at_ ?_); first | rfl | (simp; done)) | with_reducible apply Bk.alloc))) hb
    obtain ⟨hB', hS'⟩ := below_c (w := w) hb (by (first | (go_grown; done) | (repeat (first | assumption | (refine Below.setCell ?_ (by first | assumption | (simp; omega) | omega) _) | (refine Below.alloc ?_ (by assumption) _)))))
    clear hb hB hS B_v B_z
    have B_v := B'_v
    have B_z := B'_z
    have B_l := B'_l
    have hB := hB'; have hS := hS'; clear hB' hS' B'_v B'_z B'_l
    go_wp2_with fail
    have k_v_0 := cell_regrown (B_v.cell (v := .int .i64 lx) 0 rfl)
    have k_v_1 := cell_regrown (B_v.cell (v := .int .i64 ly) 1 rfl)
    have k_z_0 := cell_regrown (B_z.cell (v := .int .i64 0) 0 rfl)
    have k_z_1 := cell_regrown (B_z.cell (v := .int .i64 0) 1 rfl)
    have k_l_0 := cell_regrown (B_l.cell (v := .int .i64 lx) 0 rfl)
    have k_l_1 := cell_regrown (B_l.cell (v := .int .i64 ly) 1 rfl)
    refine wp_region_low 13 (by kernel_rfl) (by kernel_rfl) ?_
    simp only [List.take, List.drop]
    iterate 5 (refine low_step (fun K hK => ?_); go_simp; first | (refine hK _ ?_; clear hK K) | (apply Exists.intro; refine ⟨fun p => ?_, hK _ ?_⟩; (first | with_reducible exact vdist_is _ _ _ _ _ D2.out _ | with_reducible exact vlimit_is _ _ _ _ _ L2.out _); clear hK K))
    refine low_min (.tmp 28) (.tmp 29) _ (by rfl) rfl .i64 f n rfl rfl ?_
    iterate 7 (refine low_step (fun K hK => ?_); go_simp; first | (refine hK _ ?_; clear hK K) | (apply Exists.intro; refine ⟨fun p => ?_, hK _ ?_⟩; (first | with_reducible exact vdist_is _ _ _ _ _ D2.out _ | with_reducible exact vlimit_is _ _ _ _ _ L2.out _); clear hK K))
    refine low_nil ?_
    intro W4 hC
    have hb := hC.1
    clear k_v_0 k_v_1 k_z_0 k_z_1 k_l_0 k_l_1
    replace B_v := B_v.below hb
    replace B_z := B_z.below hb
    replace B_l := B_l.below hb
    obtain ⟨hB', hS'⟩ := below_c (w := w) hb hB
    clear hC hb hB hS
    have hB := hB'; have hS := hS'; clear hB' hS'
    have c_l_0 := B_l.cell (v := .int .i64 lx) 0 rfl
    have c_l_1 := B_l.cell (v := .int .i64 ly) 1 rfl
    have lt_l := B_l.lt
    have c_v_0 := B_v.cell (v := .int .i64 lx) 0 rfl
    have c_v_1 := B_v.cell (v := .int .i64 ly) 1 rfl
    have lt_v := B_v.lt
    go_wp2_with fail
    with_reducible refine (awake02 _).mono ?_
    rintro e W5 ⟨rfl, hb⟩
    clear c_l_0 c_l_1 lt_l c_v_0 c_v_1 lt_v
    have B'_v : Bk W5 (W1.heap.size) #[.int .i64 lx, .int .i64 ly] 55 := Bk.below (by (repeat (first | with_reducible assumption | ((with_reducible refine Bk.at_ ?_); first | rfl | (simp; done)) | with_reducible apply Bk.alloc))) hb
    have B'_z : Bk W5 (W1.heap.size + 1) #[.int .i64 0, .int .i64 0] 55 := Bk.below (by (repeat (first | with_reducible assumption | ((with_reducible refine Bk.at_ ?_); first | rfl | (simp; done)) | with_reducible apply Bk.alloc))) hb
    have B'_l : Bk W5 (W2.heap.size) #[.int .i64 lx, .int .i64 ly] 55 := Bk.below (by (repeat (first | with_reducible assumption | ((with_reducible refine Bk.at_ ?_); first | rfl | (simp; done)) | with_reducible apply Bk.alloc))) hb
    obtain ⟨hB', hS'⟩ := below_c (w := w) hb (by (first | (go_grown; done) | (repeat (first | assumption | (refine Below.setCell ?_ (by first | assumption | (simp; omega) | omega) _) | (refine Below.alloc ?_ (by assumption) _)))))
    clear hb hB hS B_v B_z B_l
    have B_v := B'_v
    have B_z := B'_z
    have B_l := B'_l
    have hB := hB'; have hS := hS'; clear hB' hS' B'_v B'_z B'_l
    go_wp2
    go_returns
    exact ⟨rfl, by (first | (go_grown; done) | (repeat (first | assumption | (refine Below.setCell ?_ (by first | assumption | (simp; omega) | omega) _) | (refine Below.alloc ?_ (by assumption) _))))⟩
  · have hc : n < f := by omega
    have hcs := hcs hc
    obtain ⟨c, hcc⟩ : ∃ c, lx * vy + -(ly * vx) = c := ⟨_, rfl⟩
    rw [hcc] at hcs
    obtain ⟨ca, hca⟩ : ∃ ca : Int, (c.natAbs : Int) = ca := ⟨_, rfl⟩
    rw [hca] at hcs
    have HA := Lib.hid (show -9223372036854775808 ≤ c ∧ c ≤ 9223372036854775807 ∧ sat (c.natAbs : Int) = ca from ⟨by omega, by omega, by rw [hca]; exact sat_in _ (by omega) (by omega)⟩)
    have C1 := Lib.hid (show (I64 lx ∧ I64 ly ∧ I64 vx ∧ I64 vy) ∧ sat (lx * vy + -(ly * vx)) = c from ⟨⟨i64_small (by omega) (by omega), i64_small (by omega) (by omega), i64_small (by omega) (by omega), i64_small (by omega) (by omega)⟩, by rw [hcc]; exact sat_in _ (by omega) (by omega)⟩)
    obtain ⟨q1, hq1⟩ : ∃ q, lx * vx = q := ⟨_, rfl⟩
    obtain ⟨q2, hq2⟩ : ∃ q, ly * vy = q := ⟨_, rfl⟩
    rw [hq1] at gx
    rw [hq2] at gy
    
    clear hca hcc
    obtain ⟨x1, x2⟩ := gx
    obtain ⟨y1, y2⟩ := gy
    obtain ⟨t, ht⟩ : ∃ t, max f 1 = t := ⟨_, rfl⟩
    have hct : ca < t := by omega
    clear hf hlx hly e1 e2 e3 e4 e5 e6 hst hx hy hv w0 w1
    obtain ⟨l1, l2, l3, l4, f1, f2⟩ := hb1
    obtain ⟨r1, r2⟩ := w2
    have r3 := r1; clear r3
    go_enter Try.func18, Try.ntmps18
    go_wp2_with fail
    with_reducible refine (world_is _ _ _ _ HW0.out _).mono ?_
    rintro e W1 ⟨rfl, hb⟩
    obtain ⟨hB', hS'⟩ := below_c (w := w) hb (by (first | (go_grown; done) | (repeat (first | assumption | (refine Below.setCell ?_ (by first | assumption | (simp; omega) | omega) _) | (refine Below.alloc ?_ (by assumption) _)))))
    clear hb
    have hB := hB'; have hS := hS'; clear hB' hS' 
    go_wp2_with fail
    with_reducible refine (vlimit_is _ _ _ _ _ L1.out _).mono ?_
    rintro e W2 ⟨rfl, hb⟩
    have B'_v : Bk W2 (W1.heap.size) #[.int .i64 vx, .int .i64 vy] 55 := Bk.below (by (repeat (first | with_reducible assumption | ((with_reducible refine Bk.at_ ?_); first | rfl | (simp; done)) | with_reducible apply Bk.alloc))) hb
    have B'_z : Bk W2 (W1.heap.size + 1) #[.int .i64 0, .int .i64 0] 55 := Bk.below (by (repeat (first | with_reducible assumption | ((with_reducible refine Bk.at_ ?_); first | rfl | (simp; done)) | with_reducible apply Bk.alloc))) hb
    obtain ⟨hB', hS'⟩ := below_c (w := w) hb (by (first | (go_grown; done) | (repeat (first | assumption | (refine Below.setCell ?_ (by first | assumption | (simp; omega) | omega) _) | (refine Below.alloc ?_ (by assumption) _)))))
    clear hb hB hS
    have B_v := B'_v
    have B_z := B'_z
    have hB := hB'; have hS := hS'; clear hB' hS' B'_v B'_z
    have c_v_0 := B_v.cell (v := .int .i64 vx) 0 rfl
    have c_v_1 := B_v.cell (v := .int .i64 vy) 1 rfl
    have lt_v := B_v.lt
    have c_z_0 := B_z.cell (v := .int .i64 0) 0 rfl
    have c_z_1 := B_z.cell (v := .int .i64 0) 1 rfl
    have lt_z := B_z.lt
    go_wp2_with fail
    with_reducible refine (vdist_is _ _ _ _ _ D1.out _).mono ?_
    rintro e W3 ⟨rfl, hb⟩
    clear c_v_0 c_v_1 lt_v c_z_0 c_z_1 lt_z
    have B'_v : Bk W3 (W1.heap.size) #[.int .i64 vx, .int .i64 vy] 55 := Bk.below (by (repeat (first | with_reducible assumption | ((with_reducible refine Bk.at_ ?_); first | rfl | (simp; done)) | with_reducible apply Bk.alloc))) hb
    have B'_z : Bk W3 (W1.heap.size + 1) #[.int .i64 0, .int .i64 0] 55 := Bk.below (by (repeat (first | with_reducible assumption | ((with_reducible refine Bk.at_ ?_); first | rfl | (simp; done)) | with_reducible apply Bk.alloc))) hb
    have B'_l : Bk W3 (W2.heap.size) #[.int .i64 lx, .int .i64 ly] 55 := Bk.below (by (repeat (first | with_reducible assumption | ((with_reducible refine Bk.at_ ?_); first | rfl | (simp; done)) | with_reducible apply Bk.alloc))) hb
    obtain ⟨hB', hS'⟩ := below_c (w := w) hb (by (first | (go_grown; done) | (repeat (first | assumption | (refine Below.setCell ?_ (by first | assumption | (simp; omega) | omega) _) | (refine Below.alloc ?_ (by assumption) _)))))
    clear hb hB hS B_v B_z
    have B_v := B'_v
    have B_z := B'_z
    have B_l := B'_l
    have hB := hB'; have hS := hS'; clear hB' hS' B'_v B'_z B'_l
    go_wp2_with fail
    have k_v_0 := cell_regrown (B_v.cell (v := .int .i64 vx) 0 rfl)
    have k_v_1 := cell_regrown (B_v.cell (v := .int .i64 vy) 1 rfl)
    have k_z_0 := cell_regrown (B_z.cell (v := .int .i64 0) 0 rfl)
    have k_z_1 := cell_regrown (B_z.cell (v := .int .i64 0) 1 rfl)
    have k_l_0 := cell_regrown (B_l.cell (v := .int .i64 lx) 0 rfl)
    have k_l_1 := cell_regrown (B_l.cell (v := .int .i64 ly) 1 rfl)
    refine wp_region_low 13 (by kernel_rfl) (by kernel_rfl) ?_
    simp only [List.take, List.drop]
    iterate 5 (refine low_step (fun K hK => ?_); go_simp; first | (refine hK _ ?_; clear hK K) | (apply Exists.intro; refine ⟨fun p => ?_, hK _ ?_⟩; (first | with_reducible exact vdist_is _ _ _ _ _ D2.out _ | with_reducible exact vlimit_is _ _ _ _ _ L2.out _); clear hK K))
    refine low_min (.tmp 28) (.tmp 29) _ (by rfl) rfl .i64 f n rfl rfl ?_
    iterate 7 (refine low_step (fun K hK => ?_); go_simp; first | (refine hK _ ?_; clear hK K) | (apply Exists.intro; refine ⟨fun p => ?_, hK _ ?_⟩; (first | with_reducible exact vdist_is _ _ _ _ _ D2.out _ | with_reducible exact vlimit_is _ _ _ _ _ L2.out _); clear hK K))
    refine low_nil ?_
    intro W4 hC
    have hb := hC.1
    clear k_v_0 k_v_1 k_z_0 k_z_1 k_l_0 k_l_1
    replace B_v := B_v.below hb
    replace B_z := B_z.below hb
    replace B_l := B_l.below hb
    obtain ⟨hB', hS'⟩ := below_c (w := w) hb hB
    clear hC hb hB hS
    have hB := hB'; have hS := hS'; clear hB' hS'
    have c_l_0 := B_l.cell (v := .int .i64 lx) 0 rfl
    have c_l_1 := B_l.cell (v := .int .i64 ly) 1 rfl
    have lt_l := B_l.lt
    have c_v_0 := B_v.cell (v := .int .i64 vx) 0 rfl
    have c_v_1 := B_v.cell (v := .int .i64 vy) 1 rfl
    have lt_v := B_v.lt
    go_wp2_with fail
    with_reducible refine (vcross_is _ _ _ _ _ C1.out _).mono ?_
    rintro e W5 ⟨rfl, hb⟩
    clear c_l_0 c_l_1 lt_l c_v_0 c_v_1 lt_v
    have B'_v : Bk W5 (W1.heap.size) #[.int .i64 vx, .int .i64 vy] 55 := Bk.below (by (repeat (first | with_reducible assumption | ((with_reducible refine Bk.at_ ?_); first | rfl | (simp; done)) | with_reducible apply Bk.alloc))) hb
    have B'_z : Bk W5 (W1.heap.size + 1) #[.int .i64 0, .int .i64 0] 55 := Bk.below (by (repeat (first | with_reducible assumption | ((with_reducible refine Bk.at_ ?_); first | rfl | (simp; done)) | with_reducible apply Bk.alloc))) hb
    have B'_l : Bk W5 (W2.heap.size) #[.int .i64 lx, .int .i64 ly] 55 := Bk.below (by (repeat (first | with_reducible assumption | ((with_reducible refine Bk.at_ ?_); first | rfl | (simp; done)) | with_reducible apply Bk.alloc))) hb
    obtain ⟨hB', hS'⟩ := below_c (w := w) hb (by (first | (go_grown; done) | (repeat (first | assumption | (refine Below.setCell ?_ (by first | assumption | (simp; omega) | omega) _) | (refine Below.alloc ?_ (by assumption) _)))))
    clear hb hB hS B_v B_z B_l
    have B_v := B'_v
    have B_z := B'_z
    have B_l := B'_l
    have hB := hB'; have hS := hS'; clear hB' hS' B'_v B'_z B'_l
    have c_l_0 := B_l.cell (v := .int .i64 lx) 0 rfl
    have c_l_1 := B_l.cell (v := .int .i64 ly) 1 rfl
    have lt_l := B_l.lt
    have c_v_0 := B_v.cell (v := .int .i64 vx) 0 rfl
    have c_v_1 := B_v.cell (v := .int .i64 vy) 1 rfl
    have lt_v := B_v.lt
    go_wp2_with fail
    with_reducible refine (abs_is _ _ HA.out _).mono ?_
    rintro e W6 ⟨rfl, hb⟩
    clear c_l_0 c_l_1 lt_l c_v_0 c_v_1 lt_v
    have B'_v : Bk W6 (W1.heap.size) #[.int .i64 vx, .int .i64 vy] 55 := Bk.below (by (repeat (first | with_reducible assumption | ((with_reducible refine Bk.at_ ?_); first | rfl | (simp; done)) | with_reducible apply Bk.alloc))) hb
    have B'_z : Bk W6 (W1.heap.size + 1) #[.int .i64 0, .int .i64 0] 55 := Bk.below (by (repeat (first | with_reducible assumption | ((with_reducible refine Bk.at_ ?_); first | rfl | (simp; done)) | with_reducible apply Bk.alloc))) hb
    have B'_l : Bk W6 (W2.heap.size) #[.int .i64 lx, .int .i64 ly] 55 := Bk.below (by (repeat (first | with_reducible assumption | ((with_reducible refine Bk.at_ ?_); first | rfl | (simp; done)) | with_reducible apply Bk.alloc))) hb
    obtain ⟨hB', hS'⟩ := below_c (w := w) hb (by (first | (go_grown; done) | (repeat (first | assumption | (refine Below.setCell ?_ (by first | assumption | (simp; omega) | omega) _) | (refine Below.alloc ?_ (by assumption) _)))))
    clear hb hB hS B_v B_z B_l
    have B_v := B'_v
    have B_z := B'_z
    have B_l := B'_l
    have hB := hB'; have hS := hS'; clear hB' hS' B'_v B'_z B'_l
    have c_l_0 := B_l.cell (v := .int .i64 lx) 0 rfl
    have c_l_1 := B_l.cell (v := .int .i64 ly) 1 rfl
    have lt_l := B_l.lt
    have c_v_0 := B_v.cell (v := .int .i64 vx) 0 rfl
    have c_v_1 := B_v.cell (v := .int .i64 vy) 1 rfl
    have lt_v := B_v.lt
    go_wp2_with (first | refine wpList_min2 _ rfl _ _ _ rfl _ _ _ rfl rfl ?_ | refine wpList_max2 _ rfl _ _ _ rfl _ _ _ rfl rfl ?_)
    with_reducible refine (awake02 _).mono ?_
    rintro e W7 ⟨rfl, hb⟩
    clear c_l_0 c_l_1 lt_l c_v_0 c_v_1 lt_v
    have B'_v : Bk W7 (W1.heap.size) #[.int .i64 vx, .int .i64 vy] 55 := Bk.below (by (repeat (first | with_reducible assumption | ((with_reducible refine Bk.at_ ?_); first | rfl | (simp; done)) | with_reducible apply Bk.alloc))) hb
    have B'_z : Bk W7 (W1.heap.size + 1) #[.int .i64 0, .int .i64 0] 55 := Bk.below (by (repeat (first | with_reducible assumption | ((with_reducible refine Bk.at_ ?_); first | rfl | (simp; done)) | with_reducible apply Bk.alloc))) hb
    have B'_l : Bk W7 (W2.heap.size) #[.int .i64 lx, .int .i64 ly] 55 := Bk.below (by (repeat (first | with_reducible assumption | ((with_reducible refine Bk.at_ ?_); first | rfl | (simp; done)) | with_reducible apply Bk.alloc))) hb
    obtain ⟨hB', hS'⟩ := below_c (w := w) hb (by (first | (go_grown; done) | (repeat (first | assumption | (refine Below.setCell ?_ (by first | assumption | (simp; omega) | omega) _) | (refine Below.alloc ?_ (by assumption) _)))))
    clear hb hB hS B_v B_z B_l
    have B_v := B'_v
    have B_z := B'_z
    have B_l := B'_l
    have hB := hB'; have hS := hS'; clear hB' hS' B'_v B'_z B'_l
    go_wp2
    go_returns
    exact ⟨rfl, by (first | (go_grown; done) | (repeat (first | assumption | (refine Below.setCell ?_ (by first | assumption | (simp; omega) | omega) _) | (refine Below.alloc ?_ (by assumption) _))))⟩
end Go.Proofs.Ytolifgjkejhlhaa
