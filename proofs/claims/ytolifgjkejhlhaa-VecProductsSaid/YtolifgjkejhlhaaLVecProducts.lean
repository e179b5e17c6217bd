/- VecProducts: the walk: whatever the arguments are, it returns true and writes nothing that was there. -/
import Derived.Test.YtolifgjkejhlhaaVLaw
import Derived.OpenShut
import Derived.Test.YtolifgjkejhlhaaMinMax
import Derived.Test.YtolifgjkejhlhaaVMore
set_option linter.unusedVariables false
set_option linter.unusedSimpArgs false
namespace Go.Proofs.Ytolifgjkejhlhaa
open Go.RowKit

open Go Go.Sort
attribute [local go_sem] opLow opUpon
theorem sq_nn (x : Int) : 0 ≤ x * x := by
  rcases Int.le_total 0 x with h | h
  · exact Int.mul_nonneg h h
  · rw [← Int.neg_mul_neg]; exact Int.mul_nonneg (by omega) (by omega)
theorem sq_le {a b : Int} (ha : 0 ≤ a) (hb : 0 ≤ b) (h : a * a ≤ b * b) : a ≤ b := by
  rcases Int.lt_or_le b a with g | g
  · have := Int.mul_le_mul (show b + 1 ≤ a from g) (show b + 1 ≤ a from g) (by omega) (by omega)
    rw [Int.add_mul, Int.mul_add, Int.mul_one, Int.one_mul] at this; omega
  · exact g
theorem sq_nat (x : Int) : (x.natAbs : Int) * (x.natAbs : Int) = x * x := by
  rcases (by omega : (x.natAbs : Int) = x ∨ (x.natAbs : Int) = -x) with h | h <;> rw [h]
  exact Int.neg_mul_neg x x
theorem sqrt_is (n v : Int) (h : 0 ≤ n ∧ n ≤ 9223372036854775807 ∧ 0 ≤ v ∧ v * v ≤ n ∧ n < (v + 1) * (v + 1)) (w : World) :
    Calls Try.prog 32 #[.int .i64 n] w fun e w' => e = .returned (.tuple #[.int .i64 v, .int .i64 0]) ∧ Below w.heap.size w w' := by
  obtain ⟨h1, h2, h3, h4, h5⟩ := h
  have h := sqrt_any n h1 h2 w
  rw [rt_unique n v h3 h4 h5] at h
  exact h
theorem root_between (x y N r : Int) (hN : N = x * x + y * y) (h0 : 0 ≤ r) (h1 : r * r ≤ N) (h2 : N < (r + 1) * (r + 1)) : max (x.natAbs : Int) (y.natAbs : Int) ≤ r ∧ r ≤ (x.natAbs : Int) + (y.natAbs : Int) := by
  have e1 := sq_nat x
  have e2 := sq_nat y
  generalize hX : (x.natAbs : Int) = X at *
  generalize hY : (y.natAbs : Int) = Y at *
  have p1 := Int.mul_nonneg (show 0 ≤ X by omega) (show 0 ≤ X by omega)
  have p2 := Int.mul_nonneg (show 0 ≤ Y by omega) (show 0 ≤ Y by omega)
  have p3 := Int.mul_nonneg (show 0 ≤ X by omega) (show 0 ≤ Y by omega)
  have a := sq_lt (a := X) (b := r + 1) (by omega) (by omega) (by omega)
  have b := sq_lt (a := Y) (b := r + 1) (by omega) (by omega) (by omega)
  have c := sq_le (a := r) (b := X + Y) h0 (by omega) (by rw [Int.add_mul, Int.mul_add, Int.mul_add, Int.mul_comm Y X]; omega)
  omega

set_option maxRecDepth 100000 in
set_option maxHeartbeats 8000000 in
theorem walk_VecProducts (a0 a1 a2 a3 : Int) (w0 : (Lit.int .i16 a0).wf = true) (w1 : (Lit.int .i16 a1).wf = true) (w2 : (Lit.int .i16 a2).wf = true) (w3 : (Lit.int .i16 a3).wf = true) (w : World) :
    Calls Try.prog 21 #[.int .i16 a0, .int .i16 a1, .int .i16 a2, .int .i16 a3] w fun e w' => e = .returned (.bool true) ∧ Below w.heap.size w w' := by
  have w0 := bounds_i16 w0
  have w1 := bounds_i16 w1
  have w2 := bounds_i16 w2
  have w3 := bounds_i16 w3
  obtain ⟨dot, hdot⟩ : ∃ dot, a0 * a2 + a1 * a3 = dot := ⟨_, rfl⟩
  obtain ⟨crs, hcrs⟩ : ∃ crs, a0 * a3 + -(a1 * a2) = crs := ⟨_, rfl⟩
  obtain ⟨one, hone⟩ : ∃ one, a0 * a0 + a1 * a1 = one := ⟨_, rfl⟩
  obtain ⟨two, htwo⟩ : ∃ two, a2 * a2 + a3 * a3 = two := ⟨_, rfl⟩
  have m0 := natAbs_mul_lt a0 a2 32768 32768 (by omega) (by omega)
  have m1 := natAbs_mul_lt a1 a3 32768 32768 (by omega) (by omega)
  have m2 := natAbs_mul_lt a0 a3 32768 32768 (by omega) (by omega)
  have m3 := natAbs_mul_lt a1 a2 32768 32768 (by omega) (by omega)
  have m4 := natAbs_mul_lt a0 a0 32768 32768 (by omega) (by omega)
  have m5 := natAbs_mul_lt a1 a1 32768 32768 (by omega) (by omega)
  have m6 := natAbs_mul_lt a2 a2 32768 32768 (by omega) (by omega)
  have m7 := natAbs_mul_lt a3 a3 32768 32768 (by omega) (by omega)
  have q1 := sq_nn dot
  have q2 := sq_nn crs
  have hid : dot * dot + crs * crs = one * two := by subst hdot; subst hcrs; subst hone; subst htwo; grind
  have s1 := sq_bd a0 (by omega) (by omega)
  have s2 := sq_bd a1 (by omega) (by omega)
  have hb : (-2147483648 ≤ dot ∧ dot ≤ 2147483648) ∧ (-2147483648 ≤ crs ∧ crs ≤ 2147483648) ∧ (0 ≤ one ∧ one ≤ 2147483648) ∧ (-2147483648 ≤ two ∧ two ≤ 2147483648) := by omega
  have n1 := natAbs_mul_lt dot dot 2147483648 2147483648 (by omega) (by omega)
  have n2 := natAbs_mul_lt crs crs 2147483648 2147483648 (by omega) (by omega)
  have n3 := natAbs_mul_lt one two 2147483648 2147483648 (by omega) (by omega)
  obtain ⟨r, hr⟩ : ∃ r, rt one = r := ⟨_, rfl⟩
  obtain ⟨r0, r1, r2⟩ := rt_spec one hb.2.2.1.1
  rw [hr] at r0 r1 r2
  have hrb := root_between a0 a1 one r hone.symm r0 r1 r2
  have D1 := Lib.hid (show (I64 a0 ∧ I64 a1 ∧ I64 a2 ∧ I64 a3) ∧ sat (a0 * a2 + a1 * a3) = dot from ⟨⟨i64_small (by omega) (by omega), i64_small (by omega) (by omega), i64_small (by omega) (by omega), i64_small (by omega) (by omega)⟩, by rw [hdot]; exact sat_in _ (by omega) (by omega)⟩)
  have C1 := Lib.hid (show (I64 a0 ∧ I64 a1 ∧ I64 a2 ∧ I64 a3) ∧ sat (a0 * a3 + -(a1 * a2)) = crs from ⟨⟨i64_small (by omega) (by omega), i64_small (by omega) (by omega), i64_small (by omega) (by omega), i64_small (by omega) (by omega)⟩, by rw [hcrs]; exact sat_in _ (by omega) (by omega)⟩)
  have D2 := Lib.hid (show (I64 a0 ∧ I64 a1 ∧ I64 a0 ∧ I64 a1) ∧ sat (a0 * a0 + a1 * a1) = one from ⟨⟨i64_small (by omega) (by omega), i64_small (by omega) (by omega), i64_small (by omega) (by omega), i64_small (by omega) (by omega)⟩, by rw [hone]; exact sat_in _ (by omega) (by omega)⟩)
  have D3 := Lib.hid (show (I64 a2 ∧ I64 a3 ∧ I64 a2 ∧ I64 a3) ∧ sat (a2 * a2 + a3 * a3) = two from ⟨⟨i64_small (by omega) (by omega), i64_small (by omega) (by omega), i64_small (by omega) (by omega), i64_small (by omega) (by omega)⟩, by rw [htwo]; exact sat_in _ (by omega) (by omega)⟩)
  have D4 := Lib.hid (show (I64 a2 ∧ I64 a3 ∧ I64 a0 ∧ I64 a1) ∧ sat (a2 * a0 + a3 * a1) = dot from ⟨⟨i64_small (by omega) (by omega), i64_small (by omega) (by omega), i64_small (by omega) (by omega), i64_small (by omega) (by omega)⟩, by rw [show a2 * a0 + a3 * a1 = dot by rw [← hdot]; grind]; exact sat_in _ (by omega) (by omega)⟩)
  have C2 := Lib.hid (show (I64 a2 ∧ I64 a3 ∧ I64 a0 ∧ I64 a1) ∧ sat (a2 * a1 + -(a3 * a0)) = -crs from ⟨⟨i64_small (by omega) (by omega), i64_small (by omega) (by omega), i64_small (by omega) (by omega), i64_small (by omega) (by omega)⟩, by rw [show a2 * a1 + -(a3 * a0) = -crs by rw [← hcrs]; grind]; exact sat_in _ (by omega) (by omega)⟩)
  have C3 := Lib.hid (show (I64 a0 ∧ I64 a1 ∧ I64 a0 ∧ I64 a1) ∧ sat (a0 * a1 + -(a1 * a0)) = 0 from ⟨⟨i64_small (by omega) (by omega), i64_small (by omega) (by omega), i64_small (by omega) (by omega), i64_small (by omega) (by omega)⟩, by rw [show a0 * a1 + -(a1 * a0) = 0 by grind]; rfl⟩)
  have D5 := Lib.hid (show (I64 (-a1) ∧ I64 a0 ∧ I64 (-a3) ∧ I64 a2) ∧ sat ((-a1) * (-a3) + a0 * a2) = dot from ⟨⟨i64_small (by omega) (by omega), i64_small (by omega) (by omega), i64_small (by omega) (by omega), i64_small (by omega) (by omega)⟩, by rw [show -a1 * -a3 + a0 * a2 = dot by rw [← hdot]; grind]; exact sat_in _ (by omega) (by omega)⟩)
  have C4 := Lib.hid (show (I64 (-a1) ∧ I64 a0 ∧ I64 (-a3) ∧ I64 a2) ∧ sat ((-a1) * a2 + -(a0 * (-a3))) = crs from ⟨⟨i64_small (by omega) (by omega), i64_small (by omega) (by omega), i64_small (by omega) (by omega), i64_small (by omega) (by omega)⟩, by rw [show -a1 * a2 + -(a0 * -a3) = crs by rw [← hcrs]; grind]; exact sat_in _ (by omega) (by omega)⟩)
  have D6 := Lib.hid (show (I64 a0 ∧ I64 a1 ∧ I64 (-a1) ∧ I64 a0) ∧ sat (a0 * (-a1) + a1 * a0) = 0 from ⟨⟨i64_small (by omega) (by omega), i64_small (by omega) (by omega), i64_small (by omega) (by omega), i64_small (by omega) (by omega)⟩, by rw [show a0 * -a1 + a1 * a0 = 0 by grind]; rfl⟩)
  have C5 := Lib.hid (show (I64 a0 ∧ I64 a1 ∧ I64 (-a1) ∧ I64 a0) ∧ sat (a0 * a0 + -(a1 * (-a1))) = one from ⟨⟨i64_small (by omega) (by omega), i64_small (by omega) (by omega), i64_small (by omega) (by omega), i64_small (by omega) (by omega)⟩, by rw [show a0 * a0 + -(a1 * -a1) = one by rw [← hone]; grind]; exact sat_in _ (by omega) (by omega)⟩)
  have Q1 := Lib.hid (show 0 ≤ one ∧ one ≤ 9223372036854775807 ∧ 0 ≤ r ∧ r * r ≤ one ∧ one < (r + 1) * (r + 1) from ⟨by omega, by omega, r0, r1, r2⟩)
  have r3 : r ≤ 65536 := by omega
  have Q2 := Lib.hid (show (I64 a0 ∧ I64 a1) ∧ 0 ≤ r ∧ r * r ≤ a0 * a0 + a1 * a1 ∧ a0 * a0 + a1 * a1 < (r + 1) * (r + 1) ∧ sat r = r from ⟨⟨i64_small (by omega) (by omega), i64_small (by omega) (by omega)⟩, r0, by rw [hone]; exact r1, by rw [hone]; exact r2, sat_in _ (by omega) (by omega)⟩)
  obtain ⟨X, hX⟩ : ∃ X : Int, (a0.natAbs : Int) = X := ⟨_, rfl⟩
  obtain ⟨Y, hY⟩ : ∃ Y : Int, (a1.natAbs : Int) = Y := ⟨_, rfl⟩
  rw [hX, hY] at hrb
  have A1 := Lib.hid (show -9223372036854775808 ≤ a0 ∧ a0 ≤ 9223372036854775807 ∧ sat (a0.natAbs : Int) = X from ⟨by omega, by omega, by rw [hX]; exact sat_in _ (by omega) (by omega)⟩)
  have A2 := Lib.hid (show -9223372036854775808 ≤ a1 ∧ a1 ≤ 9223372036854775807 ∧ sat (a1.natAbs : Int) = Y from ⟨by omega, by omega, by rw [hY]; exact sat_in _ (by omega) (by omega)⟩)
  have hXY : 0 ≤ X ∧ X ≤ 32768 ∧ 0 ≤ Y ∧ Y ≤ 32768 := by omega
  obtain ⟨x1, x2, y1, y2⟩ := hXY
  obtain ⟨dd, hdd⟩ : ∃ dd, dot * dot = dd := ⟨_, rfl⟩
  obtain ⟨cc, hcc⟩ : ∃ cc, crs * crs = cc := ⟨_, rfl⟩
  obtain ⟨ot, hot⟩ : ∃ ot, one * two = ot := ⟨_, rfl⟩
  rw [hdd] at n1 hid q1
  rw [hcc] at n2 hid q2
  rw [hot] at n3 hid
  have hdb : -4611686018427387904 ≤ dd ∧ dd ≤ 4611686018427387904 ∧ -4611686018427387904 ≤ cc ∧ cc ≤ 4611686018427387904 ∧ -4611686018427387904 ≤ ot ∧ ot ≤ 4611686018427387904 ∧ -9223372036854775808 ≤ dd + cc ∧ dd + cc ≤ 9223372036854775807 := by
    omega
  clear q1 q2 hX hY m0 m1 m2 m3 m4 m5 m6 m7 s1 s2 n1 n2 n3 hdot hcrs hone htwo hr r1 r2
  obtain ⟨t, ht⟩ : ∃ t, max X Y = t := ⟨_, rfl⟩
  rw [ht] at hrb
  obtain ⟨t1, t2⟩ := hrb
  obtain ⟨⟨b1, b2⟩, ⟨b3, b4⟩, ⟨b5, b6⟩, b7, b8⟩ := hb
  obtain ⟨g1, g2, g3, g4, g5, g6, g7, g8⟩ := hdb
  obtain ⟨u0, v0⟩ := w0
  obtain ⟨u1, v1⟩ := w1
  obtain ⟨u2, v2⟩ := w2
  obtain ⟨u3, v3⟩ := w3
  have HI := Lib.hid hid
  clear hid
  go_enter Try.func21, Try.ntmps21
  go_wp2_with fail
  with_reducible refine (at_any _ _ _).mono ?_
  rintro e W1 ⟨rfl, hb⟩
  obtain ⟨hB', hS'⟩ := below_c (w := w) hb (by (first | (go_grown; done) | (repeat (first | assumption | (refine Below.setCell ?_ (by first | assumption | (simp; omega) | omega) _) | (refine Below.alloc ?_ (by assumption) _)))))
  clear hb
  have hB := hB'; have hS := hS'; clear hB' hS' 
  go_wp2_with fail
  with_reducible refine (at_any _ _ _).mono ?_
  rintro e W2 ⟨rfl, hb⟩
  obtain ⟨hB', hS'⟩ := below_c (w := w) hb (by (first | (go_grown; done) | (repeat (first | assumption | (refine Below.setCell ?_ (by first | assumption | (simp; omega) | omega) _) | (refine Below.alloc ?_ (by assumption) _)))))
  clear hb hB hS
  have hB := hB'; have hS := hS'; clear hB' hS' 
  go_wp2_with fail
  refine wp_name (fun W => Below w.heap.size w W ∧ Bk W (W2.heap.size) #[.int .i64 a0, .int .i64 a1] 55 ∧ Bk W (W2.heap.size + 1) #[.int .i64 a2, .int .i64 a3] 55) ⟨by (first | (go_grown; done) | (repeat (first | assumption | (refine Below.setCell ?_ (by first | assumption | (simp; omega) | omega) _) | (refine Below.alloc ?_ (by assumption) _)))), by (repeat (first | with_reducible assumption | ((with_reducible refine Bk.at_ ?_); first | rfl | (simp; done)) | with_reducible apply Bk.alloc)), by (repeat (first | with_reducible assumption | ((with_reducible refine Bk.at_ ?_); first | rfl | (simp; done)) | with_reducible apply Bk.alloc))⟩ ?_
  clear hB hS 
  rintro W3 ⟨hB, B_a, B_b⟩
  have hS := hB.size
  have k_a_0 := cell_regrown (B_a.cell (v := .int .i64 a0) 0 rfl)
  have k_a_1 := cell_regrown (B_a.cell (v := .int .i64 a1) 1 rfl)
  have k_b_0 := cell_regrown (B_b.cell (v := .int .i64 a2) 0 rfl)
  have k_b_1 := cell_regrown (B_b.cell (v := .int .i64 a3) 1 rfl)
  refine wp_region_low 12 (by kernel_rfl) (by kernel_rfl) ?_
  simp only [List.take, List.drop]
  iterate 12 (refine low_step (fun K hK => ?_); go_simp; first | (refine hK _ ?_; clear hK K) | (apply Exists.intro; refine ⟨fun p => ?_, hK _ ?_⟩; (first | with_reducible exact vdot_is _ _ _ _ _ D1.out _ | with_reducible exact vcross_is _ _ _ _ _ C1.out _ | with_reducible exact vdot_is _ _ _ _ _ D2.out _ | with_reducible exact vdot_is _ _ _ _ _ D3.out _); clear hK K))
  refine low_nil ?_
  intro W4 hC
  have hb := hC.1
  clear k_a_0 k_a_1 k_b_0 k_b_1
  replace B_a := B_a.below hb
  replace B_b := B_b.below hb
  obtain ⟨hB', hS'⟩ := below_c (w := w) hb hB
  clear hC hb hB hS
  have hB := hB'; have hS := hS'; clear hB' hS'
  have hI := HI.out
  have c_a_0 := B_a.cell (v := .int .i64 a0) 0 rfl
  have c_a_1 := B_a.cell (v := .int .i64 a1) 1 rfl
  have lt_a := B_a.lt
  have c_b_0 := B_b.cell (v := .int .i64 a2) 0 rfl
  have c_b_1 := B_b.cell (v := .int .i64 a3) 1 rfl
  have lt_b := B_b.lt
  go_wp2_with fail
  with_reducible refine (vdot_is _ _ _ _ _ D4.out _).mono ?_
  rintro e W5 ⟨rfl, hb⟩
  clear c_a_0 c_a_1 lt_a c_b_0 c_b_1 lt_b
  have B'_a : Bk W5 (W2.heap.size) #[.int .i64 a0, .int .i64 a1] 55 := Bk.below (by (repeat (first | with_reducible assumption | ((with_reducible refine Bk.at_ ?_); first | rfl | (simp; done)) | with_reducible apply Bk.alloc))) hb
  have B'_b : Bk W5 (W2.heap.size + 1) #[.int .i64 a2, .int .i64 a3] 55 := Bk.below (by (repeat (first | with_reducible assumption | ((with_reducible refine Bk.at_ ?_); first | rfl | (simp; done)) | with_reducible apply Bk.alloc))) hb
  obtain ⟨hB', hS'⟩ := below_c (w := w) hb (by (first | (go_grown; done) | (repeat (first | assumption | (refine Below.setCell ?_ (by first | assumption | (simp; omega) | omega) _) | (refine Below.alloc ?_ (by assumption) _)))))
  clear hb hB hS B_a B_b
  have B_a := B'_a
  have B_b := B'_b
  have hB := hB'; have hS := hS'; clear hB' hS' B'_a B'_b
  have c_a_0 := B_a.cell (v := .int .i64 a0) 0 rfl
  have c_a_1 := B_a.cell (v := .int .i64 a1) 1 rfl
  have lt_a := B_a.lt
  have c_b_0 := B_b.cell (v := .int .i64 a2) 0 rfl
  have c_b_1 := B_b.cell (v := .int .i64 a3) 1 rfl
  have lt_b := B_b.lt
  go_wp2_with fail
  with_reducible refine (vcross_is _ _ _ _ _ C2.out _).mono ?_
  rintro e W6 ⟨rfl, hb⟩
  clear c_a_0 c_a_1 lt_a c_b_0 c_b_1 lt_b
  have B'_a : Bk W6 (W2.heap.size) #[.int .i64 a0, .int .i64 a1] 55 := Bk.below (by (repeat (first | with_reducible assumption | ((with_reducible refine Bk.at_ ?_); first | rfl | (simp; done)) | with_reducible apply Bk.alloc))) hb
  have B'_b : Bk W6 (W2.heap.size + 1) #[.int .i64 a2, .int .i64 a3] 55 := Bk.below (by (repeat (first | with_reducible assumption | ((with_reducible refine Bk.at_ ?_); first | rfl | (simp; done)) | with_reducible apply Bk.alloc))) hb
  obtain ⟨hB', hS'⟩ := below_c (w := w) hb (by (first | (go_grown; done) | (repeat (first | assumption | (refine Below.setCell ?_ (by first | assumption | (simp; omega) | omega) _) | (refine Below.alloc ?_ (by assumption) _)))))
  clear hb hB hS B_a B_b
  have B_a := B'_a
  have B_b := B'_b
  have hB := hB'; have hS := hS'; clear hB' hS' B'_a B'_b
  have c_a_0 := B_a.cell (v := .int .i64 a0) 0 rfl
  have c_a_1 := B_a.cell (v := .int .i64 a1) 1 rfl
  have lt_a := B_a.lt
  have c_b_0 := B_b.cell (v := .int .i64 a2) 0 rfl
  have c_b_1 := B_b.cell (v := .int .i64 a3) 1 rfl
  have lt_b := B_b.lt
  go_wp2_with fail
  with_reducible refine (vcross_is _ _ _ _ _ C3.out _).mono ?_
  rintro e W7 ⟨rfl, hb⟩
  clear c_a_0 c_a_1 lt_a c_b_0 c_b_1 lt_b
  have B'_a : Bk W7 (W2.heap.size) #[.int .i64 a0, .int .i64 a1] 55 := Bk.below (by (repeat (first | with_reducible assumption | ((with_reducible refine Bk.at_ ?_); first | rfl | (simp; done)) | with_reducible apply Bk.alloc))) hb
  have B'_b : Bk W7 (W2.heap.size + 1) #[.int .i64 a2, .int .i64 a3] 55 := Bk.below (by (repeat (first | with_reducible assumption | ((with_reducible refine Bk.at_ ?_); first | rfl | (simp; done)) | with_reducible apply Bk.alloc))) hb
  obtain ⟨hB', hS'⟩ := below_c (w := w) hb (by (first | (go_grown; done) | (repeat (first | assumption | (refine Below.setCell ?_ (by first | assumption | (simp; omega) | omega) _) | (refine Below.alloc ?_ (by assumption) _)))))
  clear hb hB hS B_a B_b
  have B_a := B'_a
  have B_b := B'_b
  have hB := hB'; have hS := hS'; clear hB' hS' B'_a B'_b
  clear hI
  go_wp2_with fail
  have wr0 : IntKind.i64.wrap (-a1) = (-a1) := by rw [IntKind.wrap_i64]; omega
  have wr1 : IntKind.i64.wrap (-a3) = (-a3) := by rw [IntKind.wrap_i64]; omega
  have k_a_0 := cell_regrown (B_a.cell (v := .int .i64 a0) 0 rfl)
  have k_a_1 := cell_regrown (B_a.cell (v := .int .i64 a1) 1 rfl)
  have k_b_0 := cell_regrown (B_b.cell (v := .int .i64 a2) 0 rfl)
  have k_b_1 := cell_regrown (B_b.cell (v := .int .i64 a3) 1 rfl)
  refine wp_region_low 14 (by kernel_rfl) (by kernel_rfl) ?_
  simp only [List.take, List.drop]
  iterate 12 (refine low_step (fun K hK => ?_); go_simp; first | (refine hK _ ?_; clear hK K) | (apply Exists.intro; refine ⟨fun p => ?_, hK _ ?_⟩; (first | with_reducible exact at_any _ _ _); clear hK K))
  refine low_new (.cells #[.int .i64 0, .int .i64 0] 55) (by rfl) (fun w => by go_simp) ?_
  intro g_p
  refine low_new (.cells #[.int .i64 0, .int .i64 0] 55) (by rfl) (fun w => by go_simp) ?_
  intro g_q
  refine low_nil ?_
  intro W8 hC
  have hb := hC.1
  clear k_a_0 k_a_1 k_b_0 k_b_1
  have lu_a := B_a.lt
  have lu_b := B_b.lt
  replace B_a := B_a.below hb
  replace B_b := B_b.below hb
  obtain ⟨B_p, z_p⟩ := cls_bk (i := 12) hC rfl
  obtain ⟨B_q, z_q⟩ := cls_bk (i := 13) hC rfl
  obtain ⟨hB', hS'⟩ := below_c (w := w) hb hB
  have o_p : w.heap.size ≤ g_p := Nat.le_trans hS z_p
  have o_q : w.heap.size ≤ g_q := Nat.le_trans hS z_q
  have n_a_p : W2.heap.size ≠ g_p := by omega
  have n_b_p : W2.heap.size + 1 ≠ g_p := by omega
  have n_a_q : W2.heap.size ≠ g_q := by omega
  have n_b_q : W2.heap.size + 1 ≠ g_q := by omega
  clear lu_a lu_b
  have n_p_q : g_p ≠ g_q := cls_ne (i := 12) (j := 13) hC rfl rfl (by decide)
  clear hC hb hB hS
  have hB := hB'; have hS := hS'; clear hB' hS'
  have c_p_0 := B_p.cell (v := .int .i64 0) 0 rfl
  have c_p_1 := B_p.cell (v := .int .i64 0) 1 rfl
  have lt_p := B_p.lt
  have f_p_0 := B_p.free 0
  have f_p_1 := B_p.free 1
  have c_q_0 := B_q.cell (v := .int .i64 0) 0 rfl
  have c_q_1 := B_q.cell (v := .int .i64 0) 1 rfl
  have lt_q := B_q.lt
  have f_q_0 := B_q.free 0
  have f_q_1 := B_q.free 1
  go_wp2_with fail
  with_reducible refine (vdot_is _ _ _ _ _ D5.out _).mono ?_
  rintro e W9 ⟨rfl, hb⟩
  clear c_p_0 c_p_1 lt_p f_p_0 f_p_1 c_q_0 c_q_1 lt_q f_q_0 f_q_1
  have B'_a : Bk W9 (W2.heap.size) #[.int .i64 a0, .int .i64 a1] 55 := Bk.below ((Bk.far (Bk.far (Bk.far (Bk.far B_a (by first | assumption | (simp; done) | (exact Ne.symm (by assumption)) | (simp; omega)) _) (by first | assumption | (simp; done) | (exact Ne.symm (by assumption)) | (simp; omega)) _) (by first | assumption | (simp; done) | (exact Ne.symm (by assumption)) | (simp; omega)) _) (by first | assumption | (simp; done) | (exact Ne.symm (by assumption)) | (simp; omega)) _)) hb
  have B'_b : Bk W9 (W2.heap.size + 1) #[.int .i64 a2, .int .i64 a3] 55 := Bk.below ((Bk.far (Bk.far (Bk.far (Bk.far B_b (by first | assumption | (simp; done) | (exact Ne.symm (by assumption)) | (simp; omega)) _) (by first | assumption | (simp; done) | (exact Ne.symm (by assumption)) | (simp; omega)) _) (by first | assumption | (simp; done) | (exact Ne.symm (by assumption)) | (simp; omega)) _) (by first | assumption | (simp; done) | (exact Ne.symm (by assumption)) | (simp; omega)) _)) hb
  have B'_p : Bk W9 (g_p) #[.int .i64 (-a1), .int .i64 a0] 55 := Bk.below ((Bk.far (Bk.far (Bk.put (Bk.put B_p 0 _) 1 _) (by first | assumption | (simp; done) | (exact Ne.symm (by assumption)) | (simp; omega)) _) (by first | assumption | (simp; done) | (exact Ne.symm (by assumption)) | (simp; omega)) _)) hb
  have B'_q : Bk W9 (g_q) #[.int .i64 (-a3), .int .i64 a2] 55 := Bk.below ((Bk.put (Bk.put (Bk.far (Bk.far B_q (by first | assumption | (simp; done) | (exact Ne.symm (by assumption)) | (simp; omega)) _) (by first | assumption | (simp; done) | (exact Ne.symm (by assumption)) | (simp; omega)) _) 0 _) 1 _)) hb
  obtain ⟨hB', hS'⟩ := below_c (w := w) hb ((Below.setCell (p := ⟨g_q, 1, none⟩) (Below.setCell (p := ⟨g_q, 0, none⟩) (Below.setCell (p := ⟨g_p, 1, none⟩) (Below.setCell (p := ⟨g_p, 0, none⟩) hB o_p _) o_p _) o_q _) o_q _))
  clear hb hB hS B_a B_b B_p B_q
  have B_a := B'_a
  have B_b := B'_b
  have B_p := B'_p
  have B_q := B'_q
  have hB := hB'; have hS := hS'; clear hB' hS' B'_a B'_b B'_p B'_q
  have c_p_0 := B_p.cell (v := .int .i64 (-a1)) 0 rfl
  have c_p_1 := B_p.cell (v := .int .i64 a0) 1 rfl
  have lt_p := B_p.lt
  have c_q_0 := B_q.cell (v := .int .i64 (-a3)) 0 rfl
  have c_q_1 := B_q.cell (v := .int .i64 a2) 1 rfl
  have lt_q := B_q.lt
  go_wp2_with fail
  with_reducible refine (vcross_is _ _ _ _ _ C4.out _).mono ?_
  rintro e W10 ⟨rfl, hb⟩
  clear c_p_0 c_p_1 lt_p c_q_0 c_q_1 lt_q
  have B'_a : Bk W10 (W2.heap.size) #[.int .i64 a0, .int .i64 a1] 55 := Bk.below (by (repeat (first | with_reducible assumption | ((with_reducible refine Bk.at_ ?_); first | rfl | (simp; done)) | with_reducible apply Bk.alloc))) hb
  have B'_b : Bk W10 (W2.heap.size + 1) #[.int .i64 a2, .int .i64 a3] 55 := Bk.below (by (repeat (first | with_reducible assumption | ((with_reducible refine Bk.at_ ?_); first | rfl | (simp; done)) | with_reducible apply Bk.alloc))) hb
  have B'_p : Bk W10 (g_p) #[.int .i64 (-a1), .int .i64 a0] 55 := Bk.below (by (repeat (first | with_reducible assumption | ((with_reducible refine Bk.at_ ?_); first | rfl | (simp; done)) | with_reducible apply Bk.alloc))) hb
  have B'_q : Bk W10 (g_q) #[.int .i64 (-a3), .int .i64 a2] 55 := Bk.below (by (repeat (first | with_reducible assumption | ((with_reducible refine Bk.at_ ?_); first | rfl | (simp; done)) | with_reducible apply Bk.alloc))) hb
  obtain ⟨hB', hS'⟩ := below_c (w := w) hb (by (first | (go_grown; done) | (repeat (first | assumption | (refine Below.setCell ?_ (by first | assumption | (simp; omega) | omega) _) | (refine Below.alloc ?_ (by assumption) _)))))
  clear hb hB hS B_a B_b B_p B_q
  have B_a := B'_a
  have B_b := B'_b
  have B_p := B'_p
  have B_q := B'_q
  have hB := hB'; have hS := hS'; clear hB' hS' B'_a B'_b B'_p B'_q
  have c_a_0 := B_a.cell (v := .int .i64 a0) 0 rfl
  have c_a_1 := B_a.cell (v := .int .i64 a1) 1 rfl
  have lt_a := B_a.lt
  have c_p_0 := B_p.cell (v := .int .i64 (-a1)) 0 rfl
  have c_p_1 := B_p.cell (v := .int .i64 a0) 1 rfl
  have lt_p := B_p.lt
  go_wp2_with fail
  with_reducible refine (vdot_is _ _ _ _ _ D6.out _).mono ?_
  rintro e W11 ⟨rfl, hb⟩
  clear c_a_0 c_a_1 lt_a c_p_0 c_p_1 lt_p
  have B'_a : Bk W11 (W2.heap.size) #[.int .i64 a0, .int .i64 a1] 55 := Bk.below (by (repeat (first | with_reducible assumption | ((with_reducible refine Bk.at_ ?_); first | rfl | (simp; done)) | with_reducible apply Bk.alloc))) hb
  have B'_b : Bk W11 (W2.heap.size + 1) #[.int .i64 a2, .int .i64 a3] 55 := Bk.below (by (repeat (first | with_reducible assumption | ((with_reducible refine Bk.at_ ?_); first | rfl | (simp; done)) | with_reducible apply Bk.alloc))) hb
  have B'_p : Bk W11 (g_p) #[.int .i64 (-a1), .int .i64 a0] 55 := Bk.below (by (repeat (first | with_reducible assumption | ((with_reducible refine Bk.at_ ?_); first | rfl | (simp; done)) | with_reducible apply Bk.alloc))) hb
  have B'_q : Bk W11 (g_q) #[.int .i64 (-a3), .int .i64 a2] 55 := Bk.below (by (repeat (first | with_reducible assumption | ((with_reducible refine Bk.at_ ?_); first | rfl | (simp; done)) | with_reducible apply Bk.alloc))) hb
  obtain ⟨hB', hS'⟩ := below_c (w := w) hb (by (first | (go_grown; done) | (repeat (first | assumption | (refine Below.setCell ?_ (by first | assumption | (simp; omega) | omega) _) | (refine Below.alloc ?_ (by assumption) _)))))
  clear hb hB hS B_a B_b B_p B_q
  have B_a := B'_a
  have B_b := B'_b
  have B_p := B'_p
  have B_q := B'_q
  have hB := hB'; have hS := hS'; clear hB' hS' B'_a B'_b B'_p B'_q
  have c_a_0 := B_a.cell (v := .int .i64 a0) 0 rfl
  have c_a_1 := B_a.cell (v := .int .i64 a1) 1 rfl
  have lt_a := B_a.lt
  have c_p_0 := B_p.cell (v := .int .i64 (-a1)) 0 rfl
  have c_p_1 := B_p.cell (v := .int .i64 a0) 1 rfl
  have lt_p := B_p.lt
  go_wp2_with fail
  with_reducible refine (vcross_is _ _ _ _ _ C5.out _).mono ?_
  rintro e W12 ⟨rfl, hb⟩
  clear c_a_0 c_a_1 lt_a c_p_0 c_p_1 lt_p
  have B'_a : Bk W12 (W2.heap.size) #[.int .i64 a0, .int .i64 a1] 55 := Bk.below (by (repeat (first | with_reducible assumption | ((with_reducible refine Bk.at_ ?_); first | rfl | (simp; done)) | with_reducible apply Bk.alloc))) hb
  have B'_b : Bk W12 (W2.heap.size + 1) #[.int .i64 a2, .int .i64 a3] 55 := Bk.below (by (repeat (first | with_reducible assumption | ((with_reducible refine Bk.at_ ?_); first | rfl | (simp; done)) | with_reducible apply Bk.alloc))) hb
  have B'_p : Bk W12 (g_p) #[.int .i64 (-a1), .int .i64 a0] 55 := Bk.below (by (repeat (first | with_reducible assumption | ((with_reducible refine Bk.at_ ?_); first | rfl | (simp; done)) | with_reducible apply Bk.alloc))) hb
  have B'_q : Bk W12 (g_q) #[.int .i64 (-a3), .int .i64 a2] 55 := Bk.below (by (repeat (first | with_reducible assumption | ((with_reducible refine Bk.at_ ?_); first | rfl | (simp; done)) | with_reducible apply Bk.alloc))) hb
  obtain ⟨hB', hS'⟩ := below_c (w := w) hb (by (first | (go_grown; done) | (repeat (first | assumption | (refine Below.setCell ?_ (by first | assumption | (simp; omega) | omega) _) | (refine Below.alloc ?_ (by assumption) _)))))
  clear hb hB hS B_a B_b B_p B_q
  have B_a := B'_a
  have B_b := B'_b
  have B_p := B'_p
  have B_q := B'_q
  have hB := hB'; have hS := hS'; clear hB' hS' B'_a B'_b B'_p B'_q
  go_wp2_with fail
  with_reducible refine (sqrt_is _ _ Q1.out _).mono ?_
  rintro e W13 ⟨rfl, hb⟩
  have B'_a : Bk W13 (W2.heap.size) #[.int .i64 a0, .int .i64 a1] 55 := Bk.below (by (repeat (first | with_reducible assumption | ((with_reducible refine Bk.at_ ?_); first | rfl | (simp; done)) | with_reducible apply Bk.alloc))) hb
  have B'_b : Bk W13 (W2.heap.size + 1) #[.int .i64 a2, .int .i64 a3] 55 := Bk.below (by (repeat (first | with_reducible assumption | ((with_reducible refine Bk.at_ ?_); first | rfl | (simp; done)) | with_reducible apply Bk.alloc))) hb
  have B'_p : Bk W13 (g_p) #[.int .i64 (-a1), .int .i64 a0] 55 := Bk.below (by (repeat (first | with_reducible assumption | ((with_reducible refine Bk.at_ ?_); first | rfl | (simp; done)) | with_reducible apply Bk.alloc))) hb
  have B'_q : Bk W13 (g_q) #[.int .i64 (-a3), .int .i64 a2] 55 := Bk.below (by (repeat (first | with_reducible assumption | ((with_reducible refine Bk.at_ ?_); first | rfl | (simp; done)) | with_reducible apply Bk.alloc))) hb
  obtain ⟨hB', hS'⟩ := below_c (w := w) hb (by (first | (go_grown; done) | (repeat (first | assumption | (refine Below.setCell ?_ (by first | assumption | (simp; omega) | omega) _) | (refine Below.alloc ?_ (by assumption) _)))))
  clear hb hB hS B_a B_b B_p B_q
  have B_a := B'_a
  have B_b := B'_b
  have B_p := B'_p
  have B_q := B'_q
  have hB := hB'; have hS := hS'; clear hB' hS' B'_a B'_b B'_p B'_q
  go_wp2_with fail
  have k_a_0 := cell_regrown (B_a.cell (v := .int .i64 a0) 0 rfl)
  have k_a_1 := cell_regrown (B_a.cell (v := .int .i64 a1) 1 rfl)
  have k_b_0 := cell_regrown (B_b.cell (v := .int .i64 a2) 0 rfl)
  have k_b_1 := cell_regrown (B_b.cell (v := .int .i64 a3) 1 rfl)
  have k_p_0 := cell_regrown (B_p.cell (v := .int .i64 (-a1)) 0 rfl)
  have k_p_1 := cell_regrown (B_p.cell (v := .int .i64 a0) 1 rfl)
  have k_q_0 := cell_regrown (B_q.cell (v := .int .i64 (-a3)) 0 rfl)
  have k_q_1 := cell_regrown (B_q.cell (v := .int .i64 a2) 1 rfl)
  refine wp_region_low 6 (by kernel_rfl) (by kernel_rfl) ?_
  simp only [List.take, List.drop]
  iterate 6 (refine low_step (fun K hK => ?_); go_simp; first | (refine hK _ ?_; clear hK K) | (apply Exists.intro; refine ⟨fun p => ?_, hK _ ?_⟩; (first | with_reducible exact abs_is _ _ A1.out _ | with_reducible exact abs_is _ _ A2.out _); clear hK K))
  refine low_nil ?_
  intro W14 hC
  have hb := hC.1
  clear k_a_0 k_a_1 k_b_0 k_b_1 k_p_0 k_p_1 k_q_0 k_q_1
  replace B_a := B_a.below hb
  replace B_b := B_b.below hb
  replace B_p := B_p.below hb
  replace B_q := B_q.below hb
  obtain ⟨hB', hS'⟩ := below_c (w := w) hb hB
  clear hC hb hB hS
  have hB := hB'; have hS := hS'; clear hB' hS'
  have t3 : X ≤ r := by omega
  have t4 : Y ≤ r := by omega
  clear ht t1
  by_cases hxy : X < Y
  · skip
    have c_a_0 := B_a.cell (v := .int .i64 a0) 0 rfl
    have c_a_1 := B_a.cell (v := .int .i64 a1) 1 rfl
    have lt_a := B_a.lt
    go_wp2_with fail
    with_reducible refine (vlen_is _ _ _ _ Q2.out _).mono ?_
    rintro e W15 ⟨rfl, hb⟩
    clear c_a_0 c_a_1 lt_a
    have B'_a : Bk W15 (W2.heap.size) #[.int .i64 a0, .int .i64 a1] 55 := Bk.below (by (repeat (first | with_reducible assumption | ((with_reducible refine Bk.at_ ?_); first | rfl | (simp; done)) | with_reducible apply Bk.alloc))) hb
    have B'_b : Bk W15 (W2.heap.size + 1) #[.int .i64 a2, .int .i64 a3] 55 := Bk.below (by (repeat (first | with_reducible assumption | ((with_reducible refine Bk.at_ ?_); first | rfl | (simp; done)) | with_reducible apply Bk.alloc))) hb
    have B'_p : Bk W15 (g_p) #[.int .i64 (-a1), .int .i64 a0] 55 := Bk.below (by (repeat (first | with_reducible assumption | ((with_reducible refine Bk.at_ ?_); first | rfl | (simp; done)) | with_reducible apply Bk.alloc))) hb
    have B'_q : Bk W15 (g_q) #[.int .i64 (-a3), .int .i64 a2] 55 := Bk.below (by (repeat (first | with_reducible assumption | ((with_reducible refine Bk.at_ ?_); first | rfl | (simp; done)) | with_reducible apply Bk.alloc))) hb
    obtain ⟨hB', hS'⟩ := below_c (w := w) hb (by (first | (go_grown; done) | (repeat (first | assumption | (refine Below.setCell ?_ (by first | assumption | (simp; omega) | omega) _) | (refine Below.alloc ?_ (by assumption) _)))))
    clear hb hB hS B_a B_b B_p B_q
    have B_a := B'_a
    have B_b := B'_b
    have B_p := B'_p
    have B_q := B'_q
    have hB := hB'; have hS := hS'; clear hB' hS' B'_a B'_b B'_p B'_q
    go_wp2_with fail
    with_reducible refine (awake02 _).mono ?_
    rintro e W16 ⟨rfl, hb⟩
    have B'_a : Bk W16 (W2.heap.size) #[.int .i64 a0, .int .i64 a1] 55 := Bk.below (by (repeat (first | with_reducible assumption | ((with_reducible refine Bk.at_ ?_); first | rfl | (simp; done)) | with_reducible apply Bk.alloc))) hb
    have B'_b : Bk W16 (W2.heap.size + 1) #[.int .i64 a2, .int .i64 a3] 55 := Bk.below (by (repeat (first | with_reducible assumption | ((with_reducible refine Bk.at_ ?_); first | rfl | (simp; done)) | with_reducible apply Bk.alloc))) hb
    have B'_p : Bk W16 (g_p) #[.int .i64 (-a1), .int .i64 a0] 55 := Bk.below (by (repeat (first | with_reducible assumption | ((with_reducible refine Bk.at_ ?_); first | rfl | (simp; done)) | with_reducible apply Bk.alloc))) hb
    have B'_q : Bk W16 (g_q) #[.int .i64 (-a3), .int .i64 a2] 55 := Bk.below (by (repeat (first | with_reducible assumption | ((with_reducible refine Bk.at_ ?_); first | rfl | (simp; done)) | with_reducible apply Bk.alloc))) hb
    obtain ⟨hB', hS'⟩ := below_c (w := w) hb (by (first | (go_grown; done) | (repeat (first | assumption | (refine Below.setCell ?_ (by first | assumption | (simp; omega) | omega) _) | (refine Below.alloc ?_ (by assumption) _)))))
    clear hb hB hS B_a B_b B_p B_q
    have B_a := B'_a
    have B_b := B'_b
    have B_p := B'_p
    have B_q := B'_q
    have hB := hB'; have hS := hS'; clear hB' hS' B'_a B'_b B'_p B'_q
    go_wp2
    go_returns
    exact ⟨rfl, by (first | (go_grown; done) | (repeat (first | assumption | (refine Below.setCell ?_ (by first | assumption | (simp; omega) | omega) _) | (refine Below.alloc ?_ (by assumption) _))))⟩
  · skip
    have c_a_0 := B_a.cell (v := .int .i64 a0) 0 rfl
    have c_a_1 := B_a.cell (v := .int .i64 a1) 1 rfl
    have lt_a := B_a.lt
    go_wp2_with fail
    with_reducible refine (vlen_is _ _ _ _ Q2.out _).mono ?_
    rintro e W15 ⟨rfl, hb⟩
    clear c_a_0 c_a_1 lt_a
    have B'_a : Bk W15 (W2.heap.size) #[.int .i64 a0, .int .i64 a1] 55 := Bk.below (by (repeat (first | with_reducible assumption | ((with_reducible refine Bk.at_ ?_); first | rfl | (simp; done)) | with_reducible apply Bk.alloc))) hb
    have B'_b : Bk W15 (W2.heap.size + 1) #[.int .i64 a2, .int .i64 a3] 55 := Bk.below (by (repeat (first | with_reducible assumption | ((with_reducible refine Bk.at_ ?_); first | rfl | (simp; done)) | with_reducible apply Bk.alloc))) hb
    have B'_p : Bk W15 (g_p) #[.int .i64 (-a1), .int .i64 a0] 55 := Bk.below (by (repeat (first | with_reducible assumption | ((with_reducible refine Bk.at_ ?_); first | rfl | (simp; done)) | with_reducible apply Bk.alloc))) hb
    have B'_q : Bk W15 (g_q) #[.int .i64 (-a3), .int .i64 a2] 55 := Bk.below (by (repeat (first | with_reducible assumption | ((with_reducible refine Bk.at_ ?_); first | rfl | (simp; done)) | with_reducible apply Bk.alloc))) hb
    obtain ⟨hB', hS'⟩ := below_c (w := w) hb (by (first | (go_grown; done) | (repeat (first | assumption | (refine Below.setCell ?_ (by first | assumption | (simp; omega) | omega) _) | (refine Below.alloc ?_ (by assumption) _)))))
    clear hb hB hS B_a B_b B_p B_q
    have B_a := B'_a
    have B_b := B'_b
    have B_p := B'_p
    have B_q := B'_q
    have hB := hB'; have hS := hS'; clear hB' hS' B'_a B'_b B'_p B'_q
    go_wp2_with fail
    with_reducible refine (awake02 _).mono ?_
    rintro e W16 ⟨rfl, hb⟩
    have B'_a : Bk W16 (W2.heap.size) #[.int .i64 a0, .int .i64 a1] 55 := Bk.below (by (repeat (first | with_reducible assumption | ((with_reducible refine Bk.at_ ?_); first | rfl | (simp; done)) | with_reducible apply Bk.alloc))) hb
    have B'_b : Bk W16 (W2.heap.size + 1) #[.int .i64 a2, .int .i64 a3] 55 := Bk.below (by (repeat (first | with_reducible assumption | ((with_reducible refine Bk.at_ ?_); first | rfl | (simp; done)) | with_reducible apply Bk.alloc))) hb
    have B'_p : Bk W16 (g_p) #[.int .i64 (-a1), .int .i64 a0] 55 := Bk.below (by (repeat (first | with_reducible assumption | ((with_reducible refine Bk.at_ ?_); first | rfl | (simp; done)) | with_reducible apply Bk.alloc))) hb
    have B'_q : Bk W16 (g_q) #[.int .i64 (-a3), .int .i64 a2] 55 := Bk.below (by (repeat (first | with_reducible assumption | ((with_reducible refine Bk.at_ ?_); first | rfl | (simp; done)) | with_reducible apply Bk.alloc))) hb
    obtain ⟨hB', hS'⟩ := below_c (w := w) hb (by (first | (go_grown; done) | (repeat (first | assumption | (refine Below.setCell ?_ (by first | assumption | (simp; omega) | omega) _) | (refine Below.alloc ?_ (by assumption) _)))))
    clear hb hB hS B_a B_b B_p B_q
    have B_a := B'_a
    have B_b := B'_b
    have B_p := B'_p
    have B_q := B'_q
    have hB := hB'; have hS := hS'; clear hB' hS' B'_a B'_b B'_p B'_q
    go_wp2
    go_returns
    exact ⟨rfl, by (first | (go_grown; done) | (repeat (first | assumption | (refine Below.setCell ?_ (by first | assumption | (simp; omega) | omega) _) | (refine Below.alloc ?_ (by assumption) _))))⟩
end Go.Proofs.Ytolifgjkejhlhaa
