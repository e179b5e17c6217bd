/- VecArrives: the walk: whatever the arguments are, it returns true and writes nothing that was there. -/
import Derived.Test.YtolifgjkejhlhaaVLaw
import Derived.OpenShut
import Derived.Test.YtolifgjkejhlhaaMinMax
import Derived.Test.YtolifgjkejhlhaaVMore
set_option linter.unusedVariables false
set_option linter.unusedSimpArgs false
namespace Go.Proofs.Ytolifgjkejhlhaa
open Go.RowKit

open Go Go.Sort
attribute [local go_sem] opLow opUpon
set_option maxHeartbeats 4000000 in
/-- one step of the way, within the world -/
theorem arrives_facts (x y bx cy s f : Int) (hx : -1048576 ≤ x ∧ x ≤ 1048576) (hy : -1048576 ≤ y ∧ y ≤ 1048576) (hbx : -1048576 ≤ bx ∧ bx ≤ 1048576) (hcy : -1048576 ≤ cy ∧ cy ≤ 1048576) (hs : 0 < s ∧ s ≤ 16777216) (hf : vfar (x - bx) (y - cy) = f) :
    ∃ nx ny r : Int, (-1048576 ≤ nx ∧ nx ≤ 1048576) ∧ (-1048576 ≤ ny ∧ ny ≤ 1048576) ∧ max (f - s) 0 = r ∧ (0 ≤ f ∧ f ≤ 2097152) ∧ vfar (nx - bx) (ny - cy) = r ∧
    Hid ((I64 x ∧ I64 y ∧ I64 bx ∧ I64 cy ∧ I64 s) ∧ x + wst (bx - x) (vfar (bx - x) (cy - y)) s = nx ∧ y + wst (cy - y) (vfar (bx - x) (cy - y)) s = ny) ∧
    Hid (((-4194304 ≤ nx ∧ nx ≤ 4194304) ∧ (-4194304 ≤ ny ∧ ny ≤ 4194304) ∧ (-4194304 ≤ bx ∧ bx ≤ 4194304) ∧ (-4194304 ≤ cy ∧ cy ≤ 4194304)) ∧ vfar (nx - bx) (ny - cy) = r) ∧
    Hid ((I64 nx ∧ I64 ny ∧ I64 bx ∧ I64 cy) ∧ sat (vfar (bx - nx) (cy - ny)) = r) ∧ Hid ((I64 x ∧ I64 y ∧ I64 nx ∧ I64 ny) ∧ sat (vfar (nx - x) (ny - y)) = f - r) ∧
    Hid (min (max x bx) (max nx (min x bx)) = nx ∧ min (max y cy) (max ny (min y cy)) = ny) := by
  have e : vfar (bx - x) (cy - y) = f := by rw [← hf]; unfold vfar; congr 1 <;> omega
  have hv := vfar_bd (bx - x) (cy - y)
  have h1 := wst_any (bx - x) (vfar (bx - x) (cy - y)) s hv.1
  have h2 := wst_any (cy - y) (vfar (bx - x) (cy - y)) s hv.2.1
  have h3 := vfar_step (bx - x) (cy - y) s
  rw [e] at hv h1 h2 h3
  rw [e]
  obtain ⟨p, hp⟩ : ∃ p, wst (bx - x) f s = p := ⟨_, rfl⟩
  obtain ⟨q, hq⟩ : ∃ q, wst (cy - y) f s = q := ⟨_, rfl⟩
  rw [hp] at h1 h3
  rw [hq] at h2 h3
  rw [hp, hq]
  have f1 : 0 ≤ f ∧ f ≤ 2097152 := by omega
  have n1 : -1048576 ≤ x + p ∧ x + p ≤ 1048576 := by omega
  have n2 : -1048576 ≤ y + q ∧ y + q ≤ 1048576 := by omega
  have v1 : vfar (x + p - bx) (y + q - cy) = max (f - s) 0 := by
    rw [show x + p - bx = -(bx - x - p) by omega, show y + q - cy = -(cy - y - q) by omega]
    have : vfar (-(bx - x - p)) (-(cy - y - q)) = vfar (bx - x - p) (cy - y - q) := by unfold vfar; omega
    rw [this, h3.1]; omega
  have v2 : vfar (bx - (x + p)) (cy - (y + q)) = max (f - s) 0 := by rw [show bx - (x + p) = bx - x - p by omega, show cy - (y + q) = cy - y - q by omega, h3.1]; omega
  have v3 : vfar (x + p - x) (y + q - y) = f - max (f - s) 0 := by rw [show x + p - x = p by omega, show y + q - y = q by omega, h3.2]; omega
  clear h3
  refine ⟨x + p, y + q, _, n1, n2, rfl, f1, v1, Lib.hid ⟨⟨i64_small (by omega) (by omega), i64_small (by omega) (by omega), i64_small (by omega) (by omega), i64_small (by omega) (by omega), i64_small (by omega) (by omega)⟩, rfl, rfl⟩,
    Lib.hid ⟨⟨⟨by omega, by omega⟩, ⟨by omega, by omega⟩, ⟨by omega, by omega⟩, by omega, by omega⟩, v1⟩,
    Lib.hid ⟨⟨i64_small (by omega) (by omega), i64_small (by omega) (by omega), i64_small (by omega) (by omega), i64_small (by omega) (by omega)⟩, by rw [v2]; exact sat_in _ (by omega) (by omega)⟩,
    Lib.hid ⟨⟨i64_small (by omega) (by omega), i64_small (by omega) (by omega), i64_small (by omega) (by omega), i64_small (by omega) (by omega)⟩, by rw [v3]; exact sat_in _ (by omega) (by omega)⟩, Lib.hid ⟨by omega, by omega⟩⟩

set_option maxRecDepth 100000 in
set_option maxHeartbeats 8000000 in
theorem walk_VecArrives (a0 a1 a2 a3 a4 : Int) (w0 : (Lit.int .i32 a0).wf = true) (w1 : (Lit.int .i32 a1).wf = true) (w2 : (Lit.int .i32 a2).wf = true) (w3 : (Lit.int .i32 a3).wf = true) (w4 : (Lit.int .u16 a4).wf = true) (w : World) :
    Calls Try.prog 20 #[.int .i32 a0, .int .i32 a1, .int .i32 a2, .int .i32 a3, .int .u16 a4] w fun e w' => e = .returned (.bool true) ∧ Below w.heap.size w w' := by
  have w0 := bounds_i32 w0
  have w1 := bounds_i32 w1
  have w2 := bounds_i32 w2
  have w3 := bounds_i32 w3
  have w4 := bounds_u16 w4
  obtain ⟨ax, hax⟩ : ∃ ax, wco a0 = ax := ⟨_, rfl⟩
  have bax := wco_bd a0
  rw [hax] at bax
  obtain ⟨ay, hay⟩ : ∃ ay, wco a1 = ay := ⟨_, rfl⟩
  have bay := wco_bd a1
  rw [hay] at bay
  have HW0 := Lib.hid (show ((-2147483648 ≤ a0 ∧ a0 ≤ 2147483647) ∧ (-2147483648 ≤ a1 ∧ a1 ≤ 2147483647)) ∧ wco a0 = ax ∧ wco a1 = ay from ⟨⟨w0, w1⟩, hax, hay⟩)
  clear hax hay
  obtain ⟨bx, hbx⟩ : ∃ bx, wco a2 = bx := ⟨_, rfl⟩
  have bbx := wco_bd a2
  rw [hbx] at bbx
  obtain ⟨cy, hcy⟩ : ∃ cy, wco a3 = cy := ⟨_, rfl⟩
  have bcy := wco_bd a3
  rw [hcy] at bcy
  have HW2 := Lib.hid (show ((-2147483648 ≤ a2 ∧ a2 ≤ 2147483647) ∧ (-2147483648 ≤ a3 ∧ a3 ≤ 2147483647)) ∧ wco a2 = bx ∧ wco a3 = cy from ⟨⟨w2, w3⟩, hbx, hcy⟩)
  clear hbx hcy
  obtain ⟨f0, hf0⟩ : ∃ f, vfar (ax - bx) (ay - cy) = f := ⟨_, rfl⟩
  have hf1 : 0 ≤ f0 ∧ f0 ≤ 2097152 := by rw [← hf0]; unfold vfar; omega
  have HF := Lib.hid (show ((-4194304 ≤ ax ∧ ax ≤ 4194304) ∧ (-4194304 ≤ ay ∧ ay ≤ 4194304) ∧ (-4194304 ≤ bx ∧ bx ≤ 4194304) ∧ (-4194304 ≤ cy ∧ cy ≤ 4194304)) ∧ vfar (ax - bx) (ay - cy) = f0 from ⟨⟨⟨by omega, by omega⟩, ⟨by omega, by omega⟩, ⟨by omega, by omega⟩, by omega, by omega⟩, hf0⟩)
  obtain ⟨s, hs⟩ : ∃ s, max a4 (f0 / 300 + 1) = s := ⟨_, rfl⟩
  have hs1 : 0 < s ∧ s ≤ 16777216 ∧ f0 ≤ 300 * s := by omega
  have HF0 := Lib.hid hf0
  clear hf0 w0 w1 w2 w3
  obtain ⟨r1, r2⟩ := w4
  obtain ⟨f1, f2⟩ := hf1
  obtain ⟨s1, s2, s3⟩ := hs1
  go_enter Try.func20, Try.ntmps20
  go_wp2_with fail
  with_reducible refine (world_is _ _ _ _ HW0.out _).mono ?_
  rintro e W1 ⟨rfl, hb⟩
  obtain ⟨hB', hS'⟩ := below_c (w := w) hb (by (first | (go_grown; done) | (repeat (first | assumption | (refine Below.setCell ?_ (by first | assumption | (simp; omega) | omega) _) | (refine Below.alloc ?_ (by assumption) _)))))
  clear hb
  have hB := hB'; have hS := hS'; clear hB' hS' 
  go_wp2_with fail
  with_reducible refine (world_is _ _ _ _ HW2.out _).mono ?_
  rintro e W2 ⟨rfl, hb⟩
  obtain ⟨hB', hS'⟩ := below_c (w := w) hb (by (first | (go_grown; done) | (repeat (first | assumption | (refine Below.setCell ?_ (by first | assumption | (simp; omega) | omega) _) | (refine Below.alloc ?_ (by assumption) _)))))
  clear hb hB hS
  have hB := hB'; have hS := hS'; clear hB' hS' 
  go_wp2_with fail
  with_reducible refine (far_is _ _ _ _ _ HF.out _).mono ?_
  rintro e W3 ⟨rfl, hb⟩
  have o_a : w.heap.size ≤ W2.heap.size := Nat.le_trans hS (Nat.le_add_right _ 0)
  have B'_a : Bk W3 (W2.heap.size) #[.int .i64 ax, .int .i64 ay] 55 := Bk.below (by (repeat (first | with_reducible assumption | ((with_reducible refine Bk.at_ ?_); first | rfl | (simp; done)) | with_reducible apply Bk.alloc))) hb
  have B'_b : Bk W3 (W2.heap.size + 1) #[.int .i64 bx, .int .i64 cy] 55 := Bk.below (by (repeat (first | with_reducible assumption | ((with_reducible refine Bk.at_ ?_); first | rfl | (simp; done)) | with_reducible apply Bk.alloc))) hb
  obtain ⟨hB', hS'⟩ := below_c (w := w) hb (by (first | (go_grown; done) | (repeat (first | assumption | (refine Below.setCell ?_ (by first | assumption | (simp; omega) | omega) _) | (refine Below.alloc ?_ (by assumption) _)))))
  clear hb hB hS
  have B_a := B'_a
  have B_b := B'_b
  have hB := hB'; have hS := hS'; clear hB' hS' B'_a B'_b
  go_wp2_with (first | refine wpList_min2 _ rfl _ _ _ rfl _ _ _ rfl rfl ?_ | refine wpList_max2 _ rfl _ _ _ rfl _ _ _ rfl rfl ?_)
  go_loopw [13, 33] (fun v13 v33 wr => ∃ (k : Nat) (x y f : Int), k ≤ 300 ∧ v33 = .int .i64 k ∧ v13 = .int .i64 f ∧ Hid (((-1048576 ≤ x ∧ x ≤ 1048576) ∧ (-1048576 ≤ y ∧ y ≤ 1048576)) ∧ vfar (x - bx) (y - cy) = f ∧ f ≤ (300 - (k : Int)) * s) ∧
      Bk wr W2.heap.size #[.int .i64 x, .int .i64 y] 55 ∧ Bk wr (W2.heap.size + 1) #[.int .i64 bx, .int .i64 cy] 55 ∧ Below w.heap.size w wr) (fun _ v33 _ => 300 - (intOf v33).toNat)
  case atStart => exact ⟨0, ax, ay, f0, by omega, rfl, rfl, Lib.hid ⟨⟨bax, bay⟩, HF0.out, by show f0 ≤ (300 - 0) * s; omega⟩, B_a, B_b, hB⟩
  case round =>
    obtain ⟨k, x, y, f, hk, rfl, rfl, HX, B_a, B_b, hB⟩ := hrel
    obtain ⟨W20, rfl⟩ : ∃ W20 : World, W20 = wr := ⟨_, rfl⟩
    have hS := hB.size
    by_cases h0 : f = 0
    · subst h0
      obtain ⟨rfl, rfl⟩ : x = bx ∧ y = cy := by
        have := HX.out.2.1; unfold vfar at this; omega
      have HT := Lib.hid (show (I64 x ∧ I64 y ∧ I64 x ∧ I64 y ∧ I64 s) ∧ x + wst (x - x) (vfar (x - x) (y - y)) s = x ∧ y + wst (y - y) (vfar (x - x) (y - y)) s = y from ⟨⟨i64_small (by omega) (by omega), i64_small (by omega) (by omega), i64_small (by omega) (by omega), i64_small (by omega) (by omega), i64_small (by omega) (by omega)⟩, by rw [Int.sub_self, wst_zero]; omega, by rw [Int.sub_self (y), wst_zero]; omega⟩)
      go_wp2
      have k_a_0 := cell_regrown (B_a.cell (v := .int .i64 x) 0 rfl)
      have k_a_1 := cell_regrown (B_a.cell (v := .int .i64 y) 1 rfl)
      have k_b_0 := cell_regrown (B_b.cell (v := .int .i64 x) 0 rfl)
      have k_b_1 := cell_regrown (B_b.cell (v := .int .i64 y) 1 rfl)
      refine wp_region_low 14 (by kernel_rfl) (by kernel_rfl) ?_
      simp only [List.take, List.drop]
      iterate 14 (refine low_step (fun K hK => ?_); go_simp; first | (refine hK _ ?_; clear hK K) | (apply Exists.intro; refine ⟨fun p => ?_, hK _ ?_⟩; (first | with_reducible exact vtoward_is _ _ _ _ _ _ _ HT.out _ | with_reducible exact awake02 _); clear hK K))
      refine low_nil ?_
      intro W21 hC
      have hb := hC.1
      clear k_a_0 k_a_1 k_b_0 k_b_1
      replace B_a := B_a.below hb
      replace B_b := B_b.below hb
      obtain ⟨hB', hS'⟩ := below_c (w := w) hb hB
      clear hC hb hB hS
      have hB := hB'; have hS := hS'; clear hB' hS'
      go_wp2
      go_returns
      exact ⟨rfl, by (first | (go_grown; done) | (repeat (first | assumption | (refine Below.setCell ?_ (by first | assumption | (simp; omega) | omega) _) | (refine Below.alloc ?_ (by assumption) _))))⟩
    · have h3 : k < 300 := by
        rcases Nat.lt_or_ge k 300 with h | h
        · exact h
        · exfalso
          obtain rfl : k = 300 := by omega
          have h1 := HX.out.2.2
          have h2 := vfar_bd (x - bx) (y - cy)
          rw [HX.out.2.1] at h2
          rw [show (300 : Int) - ((300 : Nat) : Int) = 0 by rfl, Int.zero_mul] at h1
          omega
      obtain ⟨nx, ny, r, hnx, hny, hr, ⟨g1, g2⟩, hv, T1, T2, T3, T4, T5⟩ := arrives_facts x y bx cy s f HX.out.1.1 HX.out.1.2 bbx bcy ⟨s1, s2⟩ HX.out.2.1
      have HR := Lib.hid (show ((-1048576 ≤ nx ∧ nx ≤ 1048576) ∧ (-1048576 ≤ ny ∧ ny ≤ 1048576)) ∧ vfar (nx - bx) (ny - cy) = r ∧ r ≤ (300 - ((k + 1 : Nat) : Int)) * s from ⟨⟨hnx, hny⟩, hv, by
        have h1 := HX.out.2.2
        have h4 := Int.mul_nonneg (show 0 ≤ 300 - ((k + 1 : Nat) : Int) by omega) (show 0 ≤ s by omega)
        have e : (300 - ((k + 1 : Nat) : Int)) * s = (300 - (k : Int)) * s - s := by rw [show (300 - ((k + 1 : Nat) : Int)) = (300 - (k : Int)) - 1 by omega, Int.sub_mul (300 - (k : Int)), Int.one_mul]
        omega⟩)
      have r1' : 0 ≤ r ∧ r ≤ f := by omega
      obtain ⟨q1, q2⟩ := r1'
      have z1 : (f == 0) = false := by simpa using h0
      clear hv hnx hny
      have c_a_0 := B_a.cell (v := .int .i64 x) 0 rfl
      have c_a_1 := B_a.cell (v := .int .i64 y) 1 rfl
      have lt_a := B_a.lt
      have c_b_0 := B_b.cell (v := .int .i64 bx) 0 rfl
      have c_b_1 := B_b.cell (v := .int .i64 cy) 1 rfl
      have lt_b := B_b.lt
      go_wp2_with fail
      with_reducible refine (vtoward_is _ _ _ _ _ _ _ T1.out _).mono ?_
      rintro e W21 ⟨rfl, hb⟩
      clear c_a_0 c_a_1 lt_a c_b_0 c_b_1 lt_b
      have B'_a : Bk W21 (W2.heap.size) #[.int .i64 x, .int .i64 y] 55 := Bk.below (by (repeat (first | with_reducible assumption | ((with_reducible refine Bk.at_ ?_); first | rfl | (simp; done)) | with_reducible apply Bk.alloc))) hb
      have B'_b : Bk W21 (W2.heap.size + 1) #[.int .i64 bx, .int .i64 cy] 55 := Bk.below (by (repeat (first | with_reducible assumption | ((with_reducible refine Bk.at_ ?_); first | rfl | (simp; done)) | with_reducible apply Bk.alloc))) hb
      obtain ⟨hB', hS'⟩ := below_c (w := w) hb (by (first | (go_grown; done) | (repeat (first | assumption | (refine Below.setCell ?_ (by first | assumption | (simp; omega) | omega) _) | (refine Below.alloc ?_ (by assumption) _)))))
      clear hb hB hS B_a B_b
      have B_a := B'_a
      have B_b := B'_b
      have hB := hB'; have hS := hS'; clear hB' hS' B'_a B'_b
      have c_b_0 := B_b.cell (v := .int .i64 bx) 0 rfl
      have c_b_1 := B_b.cell (v := .int .i64 cy) 1 rfl
      have lt_b := B_b.lt
      go_wp2_with (first | refine wpList_min2 _ rfl _ _ _ rfl _ _ _ rfl rfl ?_ | refine wpList_max2 _ rfl _ _ _ rfl _ _ _ rfl rfl ?_)
      with_reducible refine (far_is _ _ _ _ _ T2.out _).mono ?_
      rintro e W22 ⟨rfl, hb⟩
      clear c_b_0 c_b_1 lt_b
      have B'_a : Bk W22 (W2.heap.size) #[.int .i64 x, .int .i64 y] 55 := Bk.below (by (repeat (first | with_reducible assumption | ((with_reducible refine Bk.at_ ?_); first | rfl | (simp; done)) | with_reducible apply Bk.alloc))) hb
      have B'_b : Bk W22 (W2.heap.size + 1) #[.int .i64 bx, .int .i64 cy] 55 := Bk.below (by (repeat (first | with_reducible assumption | ((with_reducible refine Bk.at_ ?_); first | rfl | (simp; done)) | with_reducible apply Bk.alloc))) hb
      have B'_n : Bk W22 (W21.heap.size) #[.int .i64 nx, .int .i64 ny] 55 := Bk.below (by (repeat (first | with_reducible assumption | ((with_reducible refine Bk.at_ ?_); first | rfl | (simp; done)) | with_reducible apply Bk.alloc))) hb
      obtain ⟨hB', hS'⟩ := below_c (w := w) hb (by (first | (go_grown; done) | (repeat (first | assumption | (refine Below.setCell ?_ (by first | assumption | (simp; omega) | omega) _) | (refine Below.alloc ?_ (by assumption) _)))))
      clear hb hB hS B_a B_b
      have B_a := B'_a
      have B_b := B'_b
      have B_n := B'_n
      have hB := hB'; have hS := hS'; clear hB' hS' B'_a B'_b B'_n
      have c_n_0 := B_n.cell (v := .int .i64 nx) 0 rfl
      have c_n_1 := B_n.cell (v := .int .i64 ny) 1 rfl
      have lt_n := B_n.lt
      have c_b_0 := B_b.cell (v := .int .i64 bx) 0 rfl
      have c_b_1 := B_b.cell (v := .int .i64 cy) 1 rfl
      have lt_b := B_b.lt
      go_wp2_with fail
      with_reducible refine (vdist_is _ _ _ _ _ T3.out _).mono ?_
      rintro e W23 ⟨rfl, hb⟩
      clear c_n_0 c_n_1 lt_n c_b_0 c_b_1 lt_b
      have B'_a : Bk W23 (W2.heap.size) #[.int .i64 x, .int .i64 y] 55 := Bk.below (by (repeat (first | with_reducible assumption | ((with_reducible refine Bk.at_ ?_); first | rfl | (simp; done)) | with_reducible apply Bk.alloc))) hb
      have B'_b : Bk W23 (W2.heap.size + 1) #[.int .i64 bx, .int .i64 cy] 55 := Bk.below (by (repeat (first | with_reducible assumption | ((with_reducible refine Bk.at_ ?_); first | rfl | (simp; done)) | with_reducible apply Bk.alloc))) hb
      have B'_n : Bk W23 (W21.heap.size) #[.int .i64 nx, .int .i64 ny] 55 := Bk.below (by (repeat (first | with_reducible assumption | ((with_reducible refine Bk.at_ ?_); first | rfl | (simp; done)) | with_reducible apply Bk.alloc))) hb
      obtain ⟨hB', hS'⟩ := below_c (w := w) hb (by (first | (go_grown; done) | (repeat (first | assumption | (refine Below.setCell ?_ (by first | assumption | (simp; omega) | omega) _) | (refine Below.alloc ?_ (by assumption) _)))))
      clear hb hB hS B_a B_b B_n
      have B_a := B'_a
      have B_b := B'_b
      have B_n := B'_n
      have hB := hB'; have hS := hS'; clear hB' hS' B'_a B'_b B'_n
      have c_n_0 := B_n.cell (v := .int .i64 nx) 0 rfl
      have c_n_1 := B_n.cell (v := .int .i64 ny) 1 rfl
      have lt_n := B_n.lt
      have c_a_0 := B_a.cell (v := .int .i64 x) 0 rfl
      have c_a_1 := B_a.cell (v := .int .i64 y) 1 rfl
      have lt_a := B_a.lt
      go_wp2_with fail
      with_reducible refine (vdist_is _ _ _ _ _ T4.out _).mono ?_
      rintro e W24 ⟨rfl, hb⟩
      clear c_n_0 c_n_1 lt_n c_a_0 c_a_1 lt_a
      have B'_a : Bk W24 (W2.heap.size) #[.int .i64 x, .int .i64 y] 55 := Bk.below (by (repeat (first | with_reducible assumption | ((with_reducible refine Bk.at_ ?_); first | rfl | (simp; done)) | with_reducible apply Bk.alloc))) hb
      have B'_b : Bk W24 (W2.heap.size + 1) #[.int .i64 bx, .int .i64 cy] 55 := Bk.below (by (repeat (first | with_reducible assumption | ((with_reducible refine Bk.at_ ?_); first | rfl | (simp; done)) | with_reducible apply Bk.alloc))) hb
      have B'_n : Bk W24 (W21.heap.size) #[.int .i64 nx, .int .i64 ny] 55 := Bk.below (by (repeat (first | with_reducible assumption | ((with_reducible refine Bk.at_ ?_); first | rfl | (simp; done)) | with_reducible apply Bk.alloc))) hb
      obtain ⟨hB', hS'⟩ := below_c (w := w) hb (by (first | (go_grown; done) | (repeat (first | assumption | (refine Below.setCell ?_ (by first | assumption | (simp; omega) | omega) _) | (refine Below.alloc ?_ (by assumption) _)))))
      clear hb hB hS B_a B_b B_n
      have B_a := B'_a
      have B_b := B'_b
      have B_n := B'_n
      have hB := hB'; have hS := hS'; clear hB' hS' B'_a B'_b B'_n
      go_wp2_with fail
      have k_a_0 := cell_regrown (B_a.cell (v := .int .i64 x) 0 rfl)
      have k_a_1 := cell_regrown (B_a.cell (v := .int .i64 y) 1 rfl)
      have k_b_0 := cell_regrown (B_b.cell (v := .int .i64 bx) 0 rfl)
      have k_b_1 := cell_regrown (B_b.cell (v := .int .i64 cy) 1 rfl)
      have k_n_0 := cell_regrown (B_n.cell (v := .int .i64 nx) 0 rfl)
      have k_n_1 := cell_regrown (B_n.cell (v := .int .i64 ny) 1 rfl)
      refine wp_region_low 25 (by kernel_rfl) (by kernel_rfl) ?_
      simp only [List.take, List.drop]
      iterate 5 (refine low_step (fun K hK => ?_); go_simp; first | (refine hK _ ?_; clear hK K) | (apply Exists.intro; refine ⟨fun p => ?_, hK _ ?_⟩; (first | with_reducible exact at_any _ _ _ | with_reducible exact vclamp_is _ _ _ _ _ _ _ _ T5.out _); clear hK K))
      refine low_min (.tmp 87) (.tmp 89) _ (by rfl) rfl .i64 x bx rfl rfl ?_
      iterate 4 (refine low_step (fun K hK => ?_); go_simp; first | (refine hK _ ?_; clear hK K) | (apply Exists.intro; refine ⟨fun p => ?_, hK _ ?_⟩; (first | with_reducible exact at_any _ _ _ | with_reducible exact vclamp_is _ _ _ _ _ _ _ _ T5.out _); clear hK K))
      refine low_min (.tmp 92) (.tmp 94) _ (by rfl) rfl .i64 y cy rfl rfl ?_
      iterate 5 (refine low_step (fun K hK => ?_); go_simp; first | (refine hK _ ?_; clear hK K) | (apply Exists.intro; refine ⟨fun p => ?_, hK _ ?_⟩; (first | with_reducible exact at_any _ _ _ | with_reducible exact vclamp_is _ _ _ _ _ _ _ _ T5.out _); clear hK K))
      refine low_max (.tmp 98) (.tmp 100) _ (by rfl) rfl .i64 x bx rfl rfl ?_
      iterate 4 (refine low_step (fun K hK => ?_); go_simp; first | (refine hK _ ?_; clear hK K) | (apply Exists.intro; refine ⟨fun p => ?_, hK _ ?_⟩; (first | with_reducible exact at_any _ _ _ | with_reducible exact vclamp_is _ _ _ _ _ _ _ _ T5.out _); clear hK K))
      refine low_max (.tmp 103) (.tmp 105) _ (by rfl) rfl .i64 y cy rfl rfl ?_
      iterate 3 (refine low_step (fun K hK => ?_); go_simp; first | (refine hK _ ?_; clear hK K) | (apply Exists.intro; refine ⟨fun p => ?_, hK _ ?_⟩; (first | with_reducible exact at_any _ _ _ | with_reducible exact vclamp_is _ _ _ _ _ _ _ _ T5.out _); clear hK K))
      refine low_nil ?_
      intro W25 hC
      have hb := hC.1
      clear k_a_0 k_a_1 k_b_0 k_b_1 k_n_0 k_n_1
      replace B_a := B_a.below hb
      replace B_b := B_b.below hb
      replace B_n := B_n.below hb
      obtain ⟨hB', hS'⟩ := below_c (w := w) hb hB
      clear hC hb hB hS
      have hB := hB'; have hS := hS'; clear hB' hS'
      have c_n_0 := B_n.cell (v := .int .i64 nx) 0 rfl
      have c_n_1 := B_n.cell (v := .int .i64 ny) 1 rfl
      have lt_n := B_n.lt
      have c_a_0 := B_a.cell (v := .int .i64 x) 0 rfl
      have c_a_1 := B_a.cell (v := .int .i64 y) 1 rfl
      have lt_a := B_a.lt
      have f_a_0 := B_a.free 0
      have f_a_1 := B_a.free 1
      go_wp2
      go_roundw
      case rel => exact ⟨k + 1, nx, ny, r, by omega, by go_num, rfl, HR, (Bk.put (Bk.put B_a 0 _) 1 _), (Bk.far (Bk.far B_b (by first | assumption | (simp; done) | (exact Ne.symm (by assumption)) | (simp; omega)) _) (by first | assumption | (simp; done) | (exact Ne.symm (by assumption)) | (simp; omega)) _), (Below.setCell (p := ⟨W2.heap.size, 1, none⟩) (Below.setCell (p := ⟨W2.heap.size, 0, none⟩) hB o_a _) o_a _)⟩
      case measure => simp [intOf]; omega
end Go.Proofs.Ytolifgjkejhlhaa
