/- VecScales: the walk: whatever the arguments are, it returns true and writes nothing that was there. -/
import Derived.Test.YtolifgjkejhlhaaVLaw
import Derived.OpenShut
import Derived.Test.YtolifgjkejhlhaaMinMax
set_option linter.unusedVariables false
set_option linter.unusedSimpArgs false
namespace Go.Proofs.Ytolifgjkejhlhaa
open Go.RowKit

open Go Go.Sort
attribute [local go_sem] opLow opUpon
theorem scales_facts (vx vy k p : Int) (hx : -1048576 ≤ vx ∧ vx ≤ 1048576) (hy : -1048576 ≤ vy ∧ vy ≤ 1048576) (hk : -32768 ≤ k ∧ k ≤ 32767) (h0 : k ≠ 0) (hp : 0 ≤ p ∧ p ≤ 65535) :
    ∃ mx my lx ly d1 d2 : Int, k * vx = mx ∧ k * vy = my ∧ (-34359738368 ≤ mx ∧ mx ≤ 34359738368) ∧ (-34359738368 ≤ my ∧ my ≤ 34359738368) ∧ (-1048576 ≤ lx ∧ lx ≤ 1048576) ∧ (-1048576 ≤ ly ∧ ly ≤ 1048576) ∧ d1 ≤ d2 ∧
    Hid ((I64 vx ∧ I64 vy ∧ I64 k ∧ I64 1 ∧ (1 : Int) ≠ 0) ∧ sat (tq (vx * k) 1) = mx ∧ sat (tq (vy * k) 1) = my) ∧
    Hid ((I64 mx ∧ I64 my ∧ I64 1 ∧ I64 k ∧ k ≠ 0) ∧ sat (tq (mx * 1) k) = vx ∧ sat (tq (my * 1) k) = vy) ∧
    Hid ((I64 vx ∧ I64 vy ∧ I64 (-k) ∧ I64 1 ∧ (1 : Int) ≠ 0) ∧ sat (tq (vx * -k) 1) = -mx ∧ sat (tq (vy * -k) 1) = -my) ∧
    Hid ((I64 (-vx) ∧ I64 (-vy) ∧ I64 k ∧ I64 1 ∧ (1 : Int) ≠ 0) ∧ sat (tq (-vx * k) 1) = -mx ∧ sat (tq (-vy * k) 1) = -my) ∧
    Hid ((I64 vx ∧ I64 vy ∧ I64 p ∧ I64 65535 ∧ (65535 : Int) ≠ 0) ∧ sat (tq (vx * p) 65535) = lx ∧ sat (tq (vy * p) 65535) = ly) ∧
    Hid ((I64 vx ∧ I64 vy ∧ I64 p ∧ I64 (-65535) ∧ (-65535 : Int) ≠ 0) ∧ sat (tq (vx * p) (-65535)) = -lx ∧ sat (tq (vy * p) (-65535)) = -ly) ∧
    Hid ((I64 vx ∧ I64 vy ∧ I64 mx ∧ I64 my) ∧ sat (vx * my + -(vy * mx)) = 0) ∧
    Hid ((I64 0 ∧ I64 0 ∧ I64 lx ∧ I64 ly) ∧ sat (vfar (lx - 0) (ly - 0)) = d1) ∧ Hid ((I64 0 ∧ I64 0 ∧ I64 vx ∧ I64 vy) ∧ sat (vfar (vx - 0) (vy - 0)) = d2) ∧
    Hid ((I64 vx ∧ I64 vy ∧ I64 (-vx) ∧ I64 (-vy)) ∧ sat (vx + -vx) = 0 ∧ sat (vy + -vy) = 0) ∧ Hid ((I64 vx ∧ I64 vy ∧ I64 mx ∧ I64 my) ∧ sat (vx + mx) = vx + mx ∧ sat (vy + my) = vy + my) ∧
    Hid ((I64 (vx + mx) ∧ I64 (vy + my) ∧ I64 mx ∧ I64 my) ∧ sat (vx + mx - mx) = vx ∧ sat (vy + my - my) = vy) := by
  have part : ∀ v : Int, -1048576 ≤ v ∧ v ≤ 1048576 → ((tq (v * p) 65535).natAbs : Int) ≤ (v.natAbs : Int) := fun v hv => by
    have key : ∀ u : Int, 0 ≤ u → tq (u * p) 65535 ≤ u ∧ 0 ≤ tq (u * p) 65535 := fun u hu => by
      have hm := Int.mul_nonneg hu hp.1
      rw [tq_pos _ _ hm (by decide)]
      have := Int.mul_le_mul_of_nonneg_left hp.2 hu
      omega
    rcases (by omega : 0 ≤ v ∨ 0 ≤ -v) with h | h
    · have := key v h; omega
    · have := key (-v) h; rw [Int.neg_mul, tq_neg_l] at this; omega
  have many : ∀ v : Int, -1048576 ≤ v ∧ v ≤ 1048576 → -34359738368 ≤ k * v ∧ k * v ≤ 34359738368 := fun v hv => by
    have := natAbs_mul_lt k v 32768 1048576 (by omega) (by omega); omega
  have px := part vx hx
  have py := part vy hy
  have mx := many vx hx
  have my := many vy hy
  have e65 : ∀ v : Int, tq (v * p) (-65535) = -(tq (v * p) 65535) := fun v => tq_neg_r (v * p) 65535
  refine ⟨_, _, _, _, _, _, rfl, rfl, mx, my, (by omega : -1048576 ≤ tq (vx * p) 65535 ∧ tq (vx * p) 65535 ≤ 1048576), (by omega : -1048576 ≤ tq (vy * p) 65535 ∧ tq (vy * p) 65535 ≤ 1048576), ?_,
    Lib.hid ⟨⟨i64_small (by omega) (by omega), i64_small (by omega) (by omega), i64_small (by omega) (by omega), i64_small (by omega) (by omega), by decide⟩, ?_, ?_⟩,
    Lib.hid ⟨⟨i64_small (by omega) (by omega), i64_small (by omega) (by omega), i64_small (by omega) (by omega), i64_small (by omega) (by omega), h0⟩, ?_, ?_⟩,
    Lib.hid ⟨⟨i64_small (by omega) (by omega), i64_small (by omega) (by omega), i64_small (by omega) (by omega), i64_small (by omega) (by omega), by decide⟩, ?_, ?_⟩,
    Lib.hid ⟨⟨i64_small (by omega) (by omega), i64_small (by omega) (by omega), i64_small (by omega) (by omega), i64_small (by omega) (by omega), by decide⟩, ?_, ?_⟩,
    Lib.hid ⟨⟨i64_small (by omega) (by omega), i64_small (by omega) (by omega), i64_small (by omega) (by omega), i64_small (by omega) (by omega), by decide⟩, ?_, ?_⟩,
    Lib.hid ⟨⟨i64_small (by omega) (by omega), i64_small (by omega) (by omega), i64_small (by omega) (by omega), i64_small (by omega) (by omega), by decide⟩, ?_, ?_⟩,
    Lib.hid ⟨⟨i64_small (by omega) (by omega), i64_small (by omega) (by omega), i64_small (by omega) (by omega), i64_small (by omega) (by omega)⟩, ?_⟩,
    Lib.hid ⟨⟨i64_small (by omega) (by omega), i64_small (by omega) (by omega), i64_small (by omega) (by omega), i64_small (by omega) (by omega)⟩, rfl⟩,
    Lib.hid ⟨⟨i64_small (by omega) (by omega), i64_small (by omega) (by omega), i64_small (by omega) (by omega), i64_small (by omega) (by omega)⟩, rfl⟩,
    Lib.hid ⟨⟨i64_small (by omega) (by omega), i64_small (by omega) (by omega), i64_small (by omega) (by omega), i64_small (by omega) (by omega)⟩, ?_, ?_⟩,
    Lib.hid ⟨⟨i64_small (by omega) (by omega), i64_small (by omega) (by omega), i64_small (by omega) (by omega), i64_small (by omega) (by omega)⟩, ?_, ?_⟩,
    Lib.hid ⟨⟨i64_small (by omega) (by omega), i64_small (by omega) (by omega), i64_small (by omega) (by omega), i64_small (by omega) (by omega)⟩, ?_, ?_⟩⟩
  · refine sat_mono _ _ ?_; unfold vfar; omega
  · rw [tq_one, Int.mul_comm, sat_in _ (by omega) (by omega)]
  · rw [tq_one, Int.mul_comm, sat_in _ (by omega) (by omega)]
  · rw [Int.mul_one, Int.mul_comm, tq_mul _ _ h0, sat_in _ (by omega) (by omega)]
  · rw [Int.mul_one, Int.mul_comm, tq_mul _ _ h0, sat_in _ (by omega) (by omega)]
  · rw [tq_one, Int.mul_comm, Int.neg_mul, sat_in _ (by omega) (by omega)]
  · rw [tq_one, Int.mul_comm, Int.neg_mul, sat_in _ (by omega) (by omega)]
  · rw [tq_one, Int.mul_comm, Int.mul_neg, sat_in _ (by omega) (by omega)]
  · rw [tq_one, Int.mul_comm, Int.mul_neg, sat_in _ (by omega) (by omega)]
  · exact sat_in _ (by omega) (by omega)
  · exact sat_in _ (by omega) (by omega)
  · rw [e65]; exact sat_in _ (by omega) (by omega)
  · rw [e65]; exact sat_in _ (by omega) (by omega)
  · rw [show vx * (k * vy) + -(vy * (k * vx)) = 0 by grind]; rfl
  · rw [Int.add_right_neg]; rfl
  · rw [Int.add_right_neg]; rfl
  · exact sat_in _ (by omega) (by omega)
  · exact sat_in _ (by omega) (by omega)
  · rw [Int.add_sub_cancel]; exact sat_in _ (by omega) (by omega)
  · rw [Int.add_sub_cancel]; exact sat_in _ (by omega) (by omega)

set_option maxRecDepth 100000 in
set_option maxHeartbeats 8000000 in
theorem walk_VecScales (a0 a1 a2 a3 : Int) (w0 : (Lit.int .i32 a0).wf = true) (w1 : (Lit.int .i32 a1).wf = true) (w2 : (Lit.int .i16 a2).wf = true) (w3 : (Lit.int .u16 a3).wf = true) (w : World) :
    Calls Try.prog 15 #[.int .i32 a0, .int .i32 a1, .int .i16 a2, .int .u16 a3] w fun e w' => e = .returned (.bool true) ∧ Below w.heap.size w w' := by
  have w0 := bounds_i32 w0
  have w1 := bounds_i32 w1
  have w2 := bounds_i16 w2
  have w3 := bounds_u16 w3
  obtain ⟨vx, hvx⟩ : ∃ vx, wco a0 = vx := ⟨_, rfl⟩
  have bvx := wco_bd a0
  rw [hvx] at bvx
  obtain ⟨vy, hvy⟩ : ∃ vy, wco a1 = vy := ⟨_, rfl⟩
  have bvy := wco_bd a1
  rw [hvy] at bvy
  have HW0 := Lib.hid (show ((-2147483648 ≤ a0 ∧ a0 ≤ 2147483647) ∧ (-2147483648 ≤ a1 ∧ a1 ≤ 2147483647)) ∧ wco a0 = vx ∧ wco a1 = vy from ⟨⟨w0, w1⟩, hvx, hvy⟩)
  clear hvx hvy
  by_cases h0 : a2 = 0
  · subst h0
    obtain ⟨mx, my, lx, ly, d1, d2, hmx, hmy, ⟨c1, c2⟩, ⟨c3, c4⟩, ⟨c5, c6⟩, ⟨c7, c8⟩, hd, H1, H2, H3, H4, H5, H6, H7, H8, H9, H10, H11, H12⟩ := scales_facts vx vy 1 a3 bvx bvy (by omega) (by omega) w3
    obtain ⟨x1, x2⟩ := bvx
    obtain ⟨y1, y2⟩ := bvy
    obtain ⟨z1, z2⟩ := w2
    obtain ⟨z3, z4⟩ := w3
    clear w0 w1
    simp only [Int.one_mul] at hmx hmy
    subst hmx
    subst hmy
    
    go_enter Try.func15, Try.ntmps15
    go_wp2_with fail
    with_reducible refine (world_is _ _ _ _ HW0.out _).mono ?_
    rintro e W1 ⟨rfl, hb⟩
    obtain ⟨hB', hS'⟩ := below_c (w := w) hb (by (first | (go_grown; done) | (repeat (first | assumption | (refine Below.setCell ?_ (by first | assumption | (simp; omega) | omega) _) | (refine Below.alloc ?_ (by assumption) _)))))
    clear hb
    have hB := hB'; have hS := hS'; clear hB' hS' 
    go_wp2_with fail
    with_reducible refine (vscale_is _ _ _ 1 _ _ H1.out _).mono ?_
    rintro e W2 ⟨rfl, hb⟩
    have B'_v : Bk W2 (W1.heap.size) #[.int .i64 vx, .int .i64 vy] 55 := Bk.below (by (repeat (first | with_reducible assumption | ((with_reducible refine Bk.at_ ?_); first | rfl | (simp; done)) | with_reducible apply Bk.alloc))) hb
    obtain ⟨hB', hS'⟩ := below_c (w := w) hb (by (first | (go_grown; done) | (repeat (first | assumption | (refine Below.setCell ?_ (by first | assumption | (simp; omega) | omega) _) | (refine Below.alloc ?_ (by assumption) _)))))
    clear hb hB hS
    have B_v := B'_v
    have hB := hB'; have hS := hS'; clear hB' hS' B'_v
    have c_v_0 := B_v.cell (v := .int .i64 vx) 0 rfl
    have c_v_1 := B_v.cell (v := .int .i64 vy) 1 rfl
    have lt_v := B_v.lt
    go_wp2_with fail
    with_reducible refine (vscale_is _ _ 1 _ _ _ H2.out _).mono ?_
    rintro e W3 ⟨rfl, hb⟩
    clear c_v_0 c_v_1 lt_v
    have B'_v : Bk W3 (W1.heap.size) #[.int .i64 vx, .int .i64 vy] 55 := Bk.below (by (repeat (first | with_reducible assumption | ((with_reducible refine Bk.at_ ?_); first | rfl | (simp; done)) | with_reducible apply Bk.alloc))) hb
    have B'_m : Bk W3 (W2.heap.size) #[.int .i64 vx, .int .i64 vy] 55 := Bk.below (by (repeat (first | with_reducible assumption | ((with_reducible refine Bk.at_ ?_); first | rfl | (simp; done)) | with_reducible apply Bk.alloc))) hb
    obtain ⟨hB', hS'⟩ := below_c (w := w) hb (by (first | (go_grown; done) | (repeat (first | assumption | (refine Below.setCell ?_ (by first | assumption | (simp; omega) | omega) _) | (refine Below.alloc ?_ (by assumption) _)))))
    clear hb hB hS B_v
    have B_v := B'_v
    have B_m := B'_m
    have hB := hB'; have hS := hS'; clear hB' hS' B'_v B'_m
    have c_v_0 := B_v.cell (v := .int .i64 vx) 0 rfl
    have c_v_1 := B_v.cell (v := .int .i64 vy) 1 rfl
    have lt_v := B_v.lt
    go_wp2_with fail
    with_reducible refine (vscale_is _ _ _ 1 _ _ H3.out _).mono ?_
    rintro e W4 ⟨rfl, hb⟩
    clear c_v_0 c_v_1 lt_v
    have B'_v : Bk W4 (W1.heap.size) #[.int .i64 vx, .int .i64 vy] 55 := Bk.below (by (repeat (first | with_reducible assumption | ((with_reducible refine Bk.at_ ?_); first | rfl | (simp; done)) | with_reducible apply Bk.alloc))) hb
    have B'_m : Bk W4 (W2.heap.size) #[.int .i64 vx, .int .i64 vy] 55 := Bk.below (by (repeat (first | with_reducible assumption | ((with_reducible refine Bk.at_ ?_); first | rfl | (simp; done)) | with_reducible apply Bk.alloc))) hb
    have B'_b : Bk W4 (W3.heap.size) #[.int .i64 vx, .int .i64 vy] 55 := Bk.below (by (repeat (first | with_reducible assumption | ((with_reducible refine Bk.at_ ?_); first | rfl | (simp; done)) | with_reducible apply Bk.alloc))) hb
    obtain ⟨hB', hS'⟩ := below_c (w := w) hb (by (first | (go_grown; done) | (repeat (first | assumption | (refine Below.setCell ?_ (by first | assumption | (simp; omega) | omega) _) | (refine Below.alloc ?_ (by assumption) _)))))
    clear hb hB hS B_v B_m
    have B_v := B'_v
    have B_m := B'_m
    have B_b := B'_b
    have hB := hB'; have hS := hS'; clear hB' hS' B'_v B'_m B'_b
    have c_v_0 := B_v.cell (v := .int .i64 vx) 0 rfl
    have c_v_1 := B_v.cell (v := .int .i64 vy) 1 rfl
    have lt_v := B_v.lt
    go_wp2_with fail
    with_reducible refine (at_any _ _ _).mono ?_
    rintro e W5 ⟨rfl, hb⟩
    clear c_v_0 c_v_1 lt_v
    have B'_v : Bk W5 (W1.heap.size) #[.int .i64 vx, .int .i64 vy] 55 := Bk.below (by (repeat (first | with_reducible assumption | ((with_reducible refine Bk.at_ ?_); first | rfl | (simp; done)) | with_reducible apply Bk.alloc))) hb
    have B'_m : Bk W5 (W2.heap.size) #[.int .i64 vx, .int .i64 vy] 55 := Bk.below (by (repeat (first | with_reducible assumption | ((with_reducible refine Bk.at_ ?_); first | rfl | (simp; done)) | with_reducible apply Bk.alloc))) hb
    have B'_b : Bk W5 (W3.heap.size) #[.int .i64 vx, .int .i64 vy] 55 := Bk.below (by (repeat (first | with_reducible assumption | ((with_reducible refine Bk.at_ ?_); first | rfl | (simp; done)) | with_reducible apply Bk.alloc))) hb
    have B'_n : Bk W5 (W4.heap.size) #[.int .i64 (-vx), .int .i64 (-vy)] 55 := Bk.below (by (repeat (first | with_reducible assumption | ((with_reducible refine Bk.at_ ?_); first | rfl | (simp; done)) | with_reducible apply Bk.alloc))) hb
    obtain ⟨hB', hS'⟩ := below_c (w := w) hb (by (first | (go_grown; done) | (repeat (first | assumption | (refine Below.setCell ?_ (by first | assumption | (simp; omega) | omega) _) | (refine Below.alloc ?_ (by assumption) _)))))
    clear hb hB hS B_v B_m B_b
    have B_v := B'_v
    have B_m := B'_m
    have B_b := B'_b
    have B_n := B'_n
    have hB := hB'; have hS := hS'; clear hB' hS' B'_v B'_m B'_b B'_n
    go_wp2_with fail
    with_reducible refine (vscale_is _ _ _ 1 _ _ H4.out _).mono ?_
    rintro e W6 ⟨rfl, hb⟩
    have B'_v : Bk W6 (W1.heap.size) #[.int .i64 vx, .int .i64 vy] 55 := Bk.below (by (repeat (first | with_reducible assumption | ((with_reducible refine Bk.at_ ?_); first | rfl | (simp; done)) | with_reducible apply Bk.alloc))) hb
    have B'_m : Bk W6 (W2.heap.size) #[.int .i64 vx, .int .i64 vy] 55 := Bk.below (by (repeat (first | with_reducible assumption | ((with_reducible refine Bk.at_ ?_); first | rfl | (simp; done)) | with_reducible apply Bk.alloc))) hb
    have B'_b : Bk W6 (W3.heap.size) #[.int .i64 vx, .int .i64 vy] 55 := Bk.below (by (repeat (first | with_reducible assumption | ((with_reducible refine Bk.at_ ?_); first | rfl | (simp; done)) | with_reducible apply Bk.alloc))) hb
    have B'_n : Bk W6 (W4.heap.size) #[.int .i64 (-vx), .int .i64 (-vy)] 55 := Bk.below (by (repeat (first | with_reducible assumption | ((with_reducible refine Bk.at_ ?_); first | rfl | (simp; done)) | with_reducible apply Bk.alloc))) hb
    obtain ⟨hB', hS'⟩ := below_c (w := w) hb (by (first | (go_grown; done) | (repeat (first | assumption | (refine Below.setCell ?_ (by first | assumption | (simp; omega) | omega) _) | (refine Below.alloc ?_ (by assumption) _)))))
    clear hb hB hS B_v B_m B_b B_n
    have B_v := B'_v
    have B_m := B'_m
    have B_b := B'_b
    have B_n := B'_n
    have hB := hB'; have hS := hS'; clear hB' hS' B'_v B'_m B'_b B'_n
    have c_v_0 := B_v.cell (v := .int .i64 vx) 0 rfl
    have c_v_1 := B_v.cell (v := .int .i64 vy) 1 rfl
    have lt_v := B_v.lt
    go_wp2_with fail
    with_reducible refine (vscale_is _ _ _ _ _ _ H5.out _).mono ?_
    rintro e W7 ⟨rfl, hb⟩
    clear c_v_0 c_v_1 lt_v
    have B'_v : Bk W7 (W1.heap.size) #[.int .i64 vx, .int .i64 vy] 55 := Bk.below (by (repeat (first | with_reducible assumption | ((with_reducible refine Bk.at_ ?_); first | rfl | (simp; done)) | with_reducible apply Bk.alloc))) hb
    have B'_m : Bk W7 (W2.heap.size) #[.int .i64 vx, .int .i64 vy] 55 := Bk.below (by (repeat (first | with_reducible assumption | ((with_reducible refine Bk.at_ ?_); first | rfl | (simp; done)) | with_reducible apply Bk.alloc))) hb
    have B'_b : Bk W7 (W3.heap.size) #[.int .i64 vx, .int .i64 vy] 55 := Bk.below (by (repeat (first | with_reducible assumption | ((with_reducible refine Bk.at_ ?_); first | rfl | (simp; done)) | with_reducible apply Bk.alloc))) hb
    have B'_n : Bk W7 (W4.heap.size) #[.int .i64 (-vx), .int .i64 (-vy)] 55 := Bk.below (by (repeat (first | with_reducible assumption | ((with_reducible refine Bk.at_ ?_); first | rfl | (simp; done)) | with_reducible apply Bk.alloc))) hb
    have B'_l : Bk W7 (W6.heap.size) #[.int .i64 (-vx), .int .i64 (-vy)] 55 := Bk.below (by (repeat (first | with_reducible assumption | ((with_reducible refine Bk.at_ ?_); first | rfl | (simp; done)) | with_reducible apply Bk.alloc))) hb
    obtain ⟨hB', hS'⟩ := below_c (w := w) hb (by (first | (go_grown; done) | (repeat (first | assumption | (refine Below.setCell ?_ (by first | assumption | (simp; omega) | omega) _) | (refine Below.alloc ?_ (by assumption) _)))))
    clear hb hB hS B_v B_m B_b B_n
    have B_v := B'_v
    have B_m := B'_m
    have B_b := B'_b
    have B_n := B'_n
    have B_l := B'_l
    have hB := hB'; have hS := hS'; clear hB' hS' B'_v B'_m B'_b B'_n B'_l
    have c_v_0 := B_v.cell (v := .int .i64 vx) 0 rfl
    have c_v_1 := B_v.cell (v := .int .i64 vy) 1 rfl
    have lt_v := B_v.lt
    go_wp2_with fail
    with_reducible refine (vscale_is _ _ _ _ _ _ H6.out _).mono ?_
    rintro e W8 ⟨rfl, hb⟩
    clear c_v_0 c_v_1 lt_v
    have B'_v : Bk W8 (W1.heap.size) #[.int .i64 vx, .int .i64 vy] 55 := Bk.below (by (repeat (first | with_reducible assumption | ((with_reducible refine Bk.at_ ?_); first | rfl | (simp; done)) | with_reducible apply Bk.alloc))) hb
    have B'_m : Bk W8 (W2.heap.size) #[.int .i64 vx, .int .i64 vy] 55 := Bk.below (by (repeat (first | with_reducible assumption | ((with_reducible refine Bk.at_ ?_); first | rfl | (simp; done)) | with_reducible apply Bk.alloc))) hb
    have B'_b : Bk W8 (W3.heap.size) #[.int .i64 vx, .int .i64 vy] 55 := Bk.below (by (repeat (first | with_reducible assumption | ((with_reducible refine Bk.at_ ?_); first | rfl | (simp; done)) | with_reducible apply Bk.alloc))) hb
    have B'_n : Bk W8 (W4.heap.size) #[.int .i64 (-vx), .int .i64 (-vy)] 55 := Bk.below (by (repeat (first | with_reducible assumption | ((with_reducible refine Bk.at_ ?_); first | rfl | (simp; done)) | with_reducible apply Bk.alloc))) hb
    have B'_l : Bk W8 (W6.heap.size) #[.int .i64 (-vx), .int .i64 (-vy)] 55 := Bk.below (by (repeat (first | with_reducible assumption | ((with_reducible refine Bk.at_ ?_); first | rfl | (simp; done)) | with_reducible apply Bk.alloc))) hb
    have B'_s : Bk W8 (W7.heap.size) #[.int .i64 lx, .int .i64 ly] 55 := Bk.below (by (repeat (first | with_reducible assumption | ((with_reducible refine Bk.at_ ?_); first | rfl | (simp; done)) | with_reducible apply Bk.alloc))) hb
    obtain ⟨hB', hS'⟩ := below_c (w := w) hb (by (first | (go_grown; done) | (repeat (first | assumption | (refine Below.setCell ?_ (by first | assumption | (simp; omega) | omega) _) | (refine Below.alloc ?_ (by assumption) _)))))
    clear hb hB hS B_v B_m B_b B_n B_l
    have B_v := B'_v
    have B_m := B'_m
    have B_b := B'_b
    have B_n := B'_n
    have B_l := B'_l
    have B_s := B'_s
    have hB := hB'; have hS := hS'; clear hB' hS' B'_v B'_m B'_b B'_n B'_l B'_s
    go_wp2_with fail
    refine wp_name (fun W => Below w.heap.size w W ∧ Bk W (W1.heap.size) #[.int .i64 vx, .int .i64 vy] 55 ∧ Bk W (W2.heap.size) #[.int .i64 vx, .int .i64 vy] 55 ∧ Bk W (W3.heap.size) #[.int .i64 vx, .int .i64 vy] 55 ∧ Bk W (W4.heap.size) #[.int .i64 (-vx), .int .i64 (-vy)] 55 ∧ Bk W (W6.heap.size) #[.int .i64 (-vx), .int .i64 (-vy)] 55 ∧ Bk W (W7.heap.size) #[.int .i64 lx, .int .i64 ly] 55 ∧ Bk W (W8.heap.size) #[.int .i64 (-lx), .int .i64 (-ly)] 55) ⟨by (first | (go_grown; done) | (repeat (first | assumption | (refine Below.setCell ?_ (by first | assumption | (simp; omega) | omega) _) | (refine Below.alloc ?_ (by assumption) _)))), by (repeat (first | with_reducible assumption | ((with_reducible refine Bk.at_ ?_); first | rfl | (simp; done)) | with_reducible apply Bk.alloc)), by (repeat (first | with_reducible assumption | ((with_reducible refine Bk.at_ ?_); first | rfl | (simp; done)) | with_reducible apply Bk.alloc)), by (repeat (first | with_reducible assumption | ((with_reducible refine Bk.at_ ?_); first | rfl | (simp; done)) | with_reducible apply Bk.alloc)), by (repeat (first | with_reducible assumption | ((with_reducible refine Bk.at_ ?_); first | rfl | (simp; done)) | with_reducible apply Bk.alloc)), by (repeat (first | with_reducible assumption | ((with_reducible refine Bk.at_ ?_); first | rfl | (simp; done)) | with_reducible apply Bk.alloc)), by (repeat (first | with_reducible assumption | ((with_reducible refine Bk.at_ ?_); first | rfl | (simp; done)) | with_reducible apply Bk.alloc)), by (repeat (first | with_reducible assumption | ((with_reducible refine Bk.at_ ?_); first | rfl | (simp; done)) | with_reducible apply Bk.alloc))⟩ ?_
    clear hB hS B_v B_m B_b B_n B_l B_s
    rintro W9 ⟨hB, B_v, B_m, B_b, B_n, B_l, B_s, B_o⟩
    have hS := hB.size
    have wr0 : IntKind.i64.wrap vx = vx := by rw [IntKind.wrap_i64]; omega
    have wr1 : IntKind.i64.wrap vy = vy := by rw [IntKind.wrap_i64]; omega
    have wr2 : IntKind.i64.wrap (-vx) = (-vx) := by rw [IntKind.wrap_i64]; omega
    have wr3 : IntKind.i64.wrap (-vy) = (-vy) := by rw [IntKind.wrap_i64]; omega
    have wr4 : IntKind.i64.wrap (-lx) = (-lx) := by rw [IntKind.wrap_i64]; omega
    have wr5 : IntKind.i64.wrap (-ly) = (-ly) := by rw [IntKind.wrap_i64]; omega
    have k_v_0 := cell_regrown (B_v.cell (v := .int .i64 vx) 0 rfl)
    have k_v_1 := cell_regrown (B_v.cell (v := .int .i64 vy) 1 rfl)
    have k_m_0 := cell_regrown (B_m.cell (v := .int .i64 vx) 0 rfl)
    have k_m_1 := cell_regrown (B_m.cell (v := .int .i64 vy) 1 rfl)
    have k_b_0 := cell_regrown (B_b.cell (v := .int .i64 vx) 0 rfl)
    have k_b_1 := cell_regrown (B_b.cell (v := .int .i64 vy) 1 rfl)
    have k_n_0 := cell_regrown (B_n.cell (v := .int .i64 (-vx)) 0 rfl)
    have k_n_1 := cell_regrown (B_n.cell (v := .int .i64 (-vy)) 1 rfl)
    have k_l_0 := cell_regrown (B_l.cell (v := .int .i64 (-vx)) 0 rfl)
    have k_l_1 := cell_regrown (B_l.cell (v := .int .i64 (-vy)) 1 rfl)
    have k_s_0 := cell_regrown (B_s.cell (v := .int .i64 lx) 0 rfl)
    have k_s_1 := cell_regrown (B_s.cell (v := .int .i64 ly) 1 rfl)
    have k_o_0 := cell_regrown (B_o.cell (v := .int .i64 (-lx)) 0 rfl)
    have k_o_1 := cell_regrown (B_o.cell (v := .int .i64 (-ly)) 1 rfl)
    refine wp_region_low 62 (by kernel_rfl) (by kernel_rfl) ?_
    simp only [List.take, List.drop]
    iterate 62 (refine low_step (fun K hK => ?_); go_simp; first | (refine hK _ ?_; clear hK K) | (apply Exists.intro; refine ⟨fun p => ?_, hK _ ?_⟩; (first | with_reducible exact at_any _ _ _ | with_reducible exact vcross_is _ _ _ _ _ H7.out _); clear hK K))
    refine low_nil ?_
    intro W10 hC
    have hb := hC.1
    clear k_v_0 k_v_1 k_m_0 k_m_1 k_b_0 k_b_1 k_n_0 k_n_1 k_l_0 k_l_1 k_s_0 k_s_1 k_o_0 k_o_1
    replace B_v := B_v.below hb
    replace B_m := B_m.below hb
    replace B_b := B_b.below hb
    replace B_n := B_n.below hb
    replace B_l := B_l.below hb
    replace B_s := B_s.below hb
    replace B_o := B_o.below hb
    obtain ⟨hB', hS'⟩ := below_c (w := w) hb hB
    clear hC hb hB hS
    have hB := hB'; have hS := hS'; clear hB' hS'
    have c_v_0 := B_v.cell (v := .int .i64 vx) 0 rfl
    have c_v_1 := B_v.cell (v := .int .i64 vy) 1 rfl
    have lt_v := B_v.lt
    go_wp2_with fail
    with_reducible refine (vscale_zero _ _ _ _).mono ?_
    rintro e W11 ⟨rfl, hb⟩
    clear c_v_0 c_v_1 lt_v
    have B'_v : Bk W11 (W1.heap.size) #[.int .i64 vx, .int .i64 vy] 55 := Bk.below (by (repeat (first | with_reducible assumption | ((with_reducible refine Bk.at_ ?_); first | rfl | (simp; done)) | with_reducible apply Bk.alloc))) hb
    have B'_m : Bk W11 (W2.heap.size) #[.int .i64 vx, .int .i64 vy] 55 := Bk.below (by (repeat (first | with_reducible assumption | ((with_reducible refine Bk.at_ ?_); first | rfl | (simp; done)) | with_reducible apply Bk.alloc))) hb
    have B'_b : Bk W11 (W3.heap.size) #[.int .i64 vx, .int .i64 vy] 55 := Bk.below (by (repeat (first | with_reducible assumption | ((with_reducible refine Bk.at_ ?_); first | rfl | (simp; done)) | with_reducible apply Bk.alloc))) hb
    have B'_n : Bk W11 (W4.heap.size) #[.int .i64 (-vx), .int .i64 (-vy)] 55 := Bk.below (by (repeat (first | with_reducible assumption | ((with_reducible refine Bk.at_ ?_); first | rfl | (simp; done)) | with_reducible apply Bk.alloc))) hb
    have B'_l : Bk W11 (W6.heap.size) #[.int .i64 (-vx), .int .i64 (-vy)] 55 := Bk.below (by (repeat (first | with_reducible assumption | ((with_reducible refine Bk.at_ ?_); first | rfl | (simp; done)) | with_reducible apply Bk.alloc))) hb
    have B'_s : Bk W11 (W7.heap.size) #[.int .i64 lx, .int .i64 ly] 55 := Bk.below (by (repeat (first | with_reducible assumption | ((with_reducible refine Bk.at_ ?_); first | rfl | (simp; done)) | with_reducible apply Bk.alloc))) hb
    have B'_o : Bk W11 (W8.heap.size) #[.int .i64 (-lx), .int .i64 (-ly)] 55 := Bk.below (by (repeat (first | with_reducible assumption | ((with_reducible refine Bk.at_ ?_); first | rfl | (simp; done)) | with_reducible apply Bk.alloc))) hb
    have B'_z : Bk W11 (W10.heap.size) #[.int .i64 0, .int .i64 0] 55 := Bk.below (by (repeat (first | with_reducible assumption | ((with_reducible refine Bk.at_ ?_); first | rfl | (simp; done)) | with_reducible apply Bk.alloc))) hb
    obtain ⟨hB', hS'⟩ := below_c (w := w) hb (by (first | (go_grown; done) | (repeat (first | assumption | (refine Below.setCell ?_ (by first | assumption | (simp; omega) | omega) _) | (refine Below.alloc ?_ (by assumption) _)))))
    clear hb hB hS B_v B_m B_b B_n B_l B_s B_o
    have B_v := B'_v
    have B_m := B'_m
    have B_b := B'_b
    have B_n := B'_n
    have B_l := B'_l
    have B_s := B'_s
    have B_o := B'_o
    have B_z := B'_z
    have hB := hB'; have hS := hS'; clear hB' hS' B'_v B'_m B'_b B'_n B'_l B'_s B'_o B'_z
    go_wp2_with fail
    refine wp_name (fun W => Below w.heap.size w W ∧ Bk W (W1.heap.size) #[.int .i64 vx, .int .i64 vy] 55 ∧ Bk W (W2.heap.size) #[.int .i64 vx, .int .i64 vy] 55 ∧ Bk W (W3.heap.size) #[.int .i64 vx, .int .i64 vy] 55 ∧ Bk W (W4.heap.size) #[.int .i64 (-vx), .int .i64 (-vy)] 55 ∧ Bk W (W6.heap.size) #[.int .i64 (-vx), .int .i64 (-vy)] 55 ∧ Bk W (W7.heap.size) #[.int .i64 lx, .int .i64 ly] 55 ∧ Bk W (W8.heap.size) #[.int .i64 (-lx), .int .i64 (-ly)] 55 ∧ Bk W (W10.heap.size) #[.int .i64 0, .int .i64 0] 55 ∧ Bk W (W11.heap.size) #[.int .i64 0, .int .i64 0] 55) ⟨by (first | (go_grown; done) | (repeat (first | assumption | (refine Below.setCell ?_ (by first | assumption | (simp; omega) | omega) _) | (refine Below.alloc ?_ (by assumption) _)))), by (repeat (first | with_reducible assumption | ((with_reducible refine Bk.at_ ?_); first | rfl | (simp; done)) | with_reducible apply Bk.alloc)), by (repeat (first | with_reducible assumption | ((with_reducible refine Bk.at_ ?_); first | rfl | (simp; done)) | with_reducible apply Bk.alloc)), by (repeat (first | with_reducible assumption | ((with_reducible refine Bk.at_ ?_); first | rfl | (simp; done)) | with_reducible apply Bk.alloc)), by (repeat (first | with_reducible assumption | ((with_reducible refine Bk.at_ ?_); first | rfl | (simp; done)) | with_reducible apply Bk.alloc)), by (repeat (first | with_reducible assumption | ((with_reducible refine Bk.at_ ?_); first | rfl | (simp; done)) | with_reducible apply Bk.alloc)), by (repeat (first | with_reducible assumption | ((with_reducible refine Bk.at_ ?_); first | rfl | (simp; done)) | with_reducible apply Bk.alloc)), by (repeat (first | with_reducible assumption | ((with_reducible refine Bk.at_ ?_); first | rfl | (simp; done)) | with_reducible apply Bk.alloc)), by (repeat (first | with_reducible assumption | ((with_reducible refine Bk.at_ ?_); first | rfl | (simp; done)) | with_reducible apply Bk.alloc)), by (repeat (first | with_reducible assumption | ((with_reducible refine Bk.at_ ?_); first | rfl | (simp; done)) | with_reducible apply Bk.alloc))⟩ ?_
    clear hB hS B_v B_m B_b B_n B_l B_s B_o B_z
    rintro W12 ⟨hB, B_v, B_m, B_b, B_n, B_l, B_s, B_o, B_z, B_q⟩
    have hS := hB.size
    have k_v_0 := cell_regrown (B_v.cell (v := .int .i64 vx) 0 rfl)
    have k_v_1 := cell_regrown (B_v.cell (v := .int .i64 vy) 1 rfl)
    have k_m_0 := cell_regrown (B_m.cell (v := .int .i64 vx) 0 rfl)
    have k_m_1 := cell_regrown (B_m.cell (v := .int .i64 vy) 1 rfl)
    have k_b_0 := cell_regrown (B_b.cell (v := .int .i64 vx) 0 rfl)
    have k_b_1 := cell_regrown (B_b.cell (v := .int .i64 vy) 1 rfl)
    have k_n_0 := cell_regrown (B_n.cell (v := .int .i64 (-vx)) 0 rfl)
    have k_n_1 := cell_regrown (B_n.cell (v := .int .i64 (-vy)) 1 rfl)
    have k_l_0 := cell_regrown (B_l.cell (v := .int .i64 (-vx)) 0 rfl)
    have k_l_1 := cell_regrown (B_l.cell (v := .int .i64 (-vy)) 1 rfl)
    have k_s_0 := cell_regrown (B_s.cell (v := .int .i64 lx) 0 rfl)
    have k_s_1 := cell_regrown (B_s.cell (v := .int .i64 ly) 1 rfl)
    have k_o_0 := cell_regrown (B_o.cell (v := .int .i64 (-lx)) 0 rfl)
    have k_o_1 := cell_regrown (B_o.cell (v := .int .i64 (-ly)) 1 rfl)
    have k_z_0 := cell_regrown (B_z.cell (v := .int .i64 0) 0 rfl)
    have k_z_1 := cell_regrown (B_z.cell (v := .int .i64 0) 1 rfl)
    have k_q_0 := cell_regrown (B_q.cell (v := .int .i64 0) 0 rfl)
    have k_q_1 := cell_regrown (B_q.cell (v := .int .i64 0) 1 rfl)
    refine wp_region_low 36 (by kernel_rfl) (by kernel_rfl) ?_
    simp only [List.take, List.drop]
    iterate 36 (refine low_step (fun K hK => ?_); go_simp; first | (refine hK _ ?_; clear hK K) | (apply Exists.intro; refine ⟨fun p => ?_, hK _ ?_⟩; (first | with_reducible exact vdist_is _ _ _ _ _ H8.out _ | with_reducible exact vdist_is _ _ _ _ _ H9.out _ | with_reducible exact at_any _ _ _ | with_reducible exact vadd_is _ _ _ _ _ _ H10.out _ | with_reducible exact vadd_is _ _ _ _ _ _ H11.out _ | with_reducible exact vsub_is _ _ _ _ _ _ H12.out _ | with_reducible exact awake02 _); clear hK K))
    refine low_nil ?_
    intro W13 hC
    have hb := hC.1
    clear k_v_0 k_v_1 k_m_0 k_m_1 k_b_0 k_b_1 k_n_0 k_n_1 k_l_0 k_l_1 k_s_0 k_s_1 k_o_0 k_o_1 k_z_0 k_z_1 k_q_0 k_q_1
    replace B_v := B_v.below hb
    replace B_m := B_m.below hb
    replace B_b := B_b.below hb
    replace B_n := B_n.below hb
    replace B_l := B_l.below hb
    replace B_s := B_s.below hb
    replace B_o := B_o.below hb
    replace B_z := B_z.below hb
    replace B_q := B_q.below hb
    obtain ⟨hB', hS'⟩ := below_c (w := w) hb hB
    clear hC hb hB hS
    have hB := hB'; have hS := hS'; clear hB' hS'
    go_wp2
    go_returns
    exact ⟨rfl, by (first | (go_grown; done) | (repeat (first | assumption | (refine Below.setCell ?_ (by first | assumption | (simp; omega) | omega) _) | (refine Below.alloc ?_ (by assumption) _))))⟩
  · skip
    obtain ⟨mx, my, lx, ly, d1, d2, hmx, hmy, ⟨c1, c2⟩, ⟨c3, c4⟩, ⟨c5, c6⟩, ⟨c7, c8⟩, hd, H1, H2, H3, H4, H5, H6, H7, H8, H9, H10, H11, H12⟩ := scales_facts vx vy a2 a3 bvx bvy (by omega) (by omega) w3
    obtain ⟨x1, x2⟩ := bvx
    obtain ⟨y1, y2⟩ := bvy
    obtain ⟨z1, z2⟩ := w2
    obtain ⟨z3, z4⟩ := w3
    clear w0 w1
    go_enter Try.func15, Try.ntmps15
    go_wp2_with fail
    with_reducible refine (world_is _ _ _ _ HW0.out _).mono ?_
    rintro e W1 ⟨rfl, hb⟩
    obtain ⟨hB', hS'⟩ := below_c (w := w) hb (by (first | (go_grown; done) | (repeat (first | assumption | (refine Below.setCell ?_ (by first | assumption | (simp; omega) | omega) _) | (refine Below.alloc ?_ (by assumption) _)))))
    clear hb
    have hB := hB'; have hS := hS'; clear hB' hS' 
    go_wp2_with fail
    with_reducible refine (vscale_is _ _ _ 1 _ _ H1.out _).mono ?_
    rintro e W2 ⟨rfl, hb⟩
    have B'_v : Bk W2 (W1.heap.size) #[.int .i64 vx, .int .i64 vy] 55 := Bk.below (by (repeat (first | with_reducible assumption | ((with_reducible refine Bk.at_ ?_); first | rfl | (simp; done)) | with_reducible apply Bk.alloc))) hb
    obtain ⟨hB', hS'⟩ := below_c (w := w) hb (by (first | (go_grown; done) | (repeat (first | assumption | (refine Below.setCell ?_ (by first | assumption | (simp; omega) | omega) _) | (refine Below.alloc ?_ (by assumption) _)))))
    clear hb hB hS
    have B_v := B'_v
    have hB := hB'; have hS := hS'; clear hB' hS' B'_v
    have c_v_0 := B_v.cell (v := .int .i64 vx) 0 rfl
    have c_v_1 := B_v.cell (v := .int .i64 vy) 1 rfl
    have lt_v := B_v.lt
    go_wp2_with fail
    with_reducible refine (vscale_is _ _ 1 _ _ _ H2.out _).mono ?_
    rintro e W3 ⟨rfl, hb⟩
    clear c_v_0 c_v_1 lt_v
    have B'_v : Bk W3 (W1.heap.size) #[.int .i64 vx, .int .i64 vy] 55 := Bk.below (by (repeat (first | with_reducible assumption | ((with_reducible refine Bk.at_ ?_); first | rfl | (simp; done)) | with_reducible apply Bk.alloc))) hb
    have B'_m : Bk W3 (W2.heap.size) #[.int .i64 mx, .int .i64 my] 55 := Bk.below (by (repeat (first | with_reducible assumption | ((with_reducible refine Bk.at_ ?_); first | rfl | (simp; done)) | with_reducible apply Bk.alloc))) hb
    obtain ⟨hB', hS'⟩ := below_c (w := w) hb (by (first | (go_grown; done) | (repeat (first | assumption | (refine Below.setCell ?_ (by first | assumption | (simp; omega) | omega) _) | (refine Below.alloc ?_ (by assumption) _)))))
    clear hb hB hS B_v
    have B_v := B'_v
    have B_m := B'_m
    have hB := hB'; have hS := hS'; clear hB' hS' B'_v B'_m
    have c_v_0 := B_v.cell (v := .int .i64 vx) 0 rfl
    have c_v_1 := B_v.cell (v := .int .i64 vy) 1 rfl
    have lt_v := B_v.lt
    go_wp2_with fail
    with_reducible refine (vscale_is _ _ _ 1 _ _ H3.out _).mono ?_
    rintro e W4 ⟨rfl, hb⟩
    clear c_v_0 c_v_1 lt_v
    have B'_v : Bk W4 (W1.heap.size) #[.int .i64 vx, .int .i64 vy] 55 := Bk.below (by (repeat (first | with_reducible assumption | ((with_reducible refine Bk.at_ ?_); first | rfl | (simp; done)) | with_reducible apply Bk.alloc))) hb
    have B'_m : Bk W4 (W2.heap.size) #[.int .i64 mx, .int .i64 my] 55 := Bk.below (by (repeat (first | with_reducible assumption | ((with_reducible refine Bk.at_ ?_); first | rfl | (simp; done)) | with_reducible apply Bk.alloc))) hb
    have B'_b : Bk W4 (W3.heap.size) #[.int .i64 vx, .int .i64 vy] 55 := Bk.below (by (repeat (first | with_reducible assumption | ((with_reducible refine Bk.at_ ?_); first | rfl | (simp; done)) | with_reducible apply Bk.alloc))) hb
    obtain ⟨hB', hS'⟩ := below_c (w := w) hb (by (first | (go_grown; done) | (repeat (first | assumption | (refine Below.setCell ?_ (by first | assumption | (simp; omega) | omega) _) | (refine Below.alloc ?_ (by assumption) _)))))
    clear hb hB hS B_v B_m
    have B_v := B'_v
    have B_m := B'_m
    have B_b := B'_b
    have hB := hB'; have hS := hS'; clear hB' hS' B'_v B'_m B'_b
    have c_v_0 := B_v.cell (v := .int .i64 vx) 0 rfl
    have c_v_1 := B_v.cell (v := .int .i64 vy) 1 rfl
    have lt_v := B_v.lt
    go_wp2_with fail
    with_reducible refine (at_any _ _ _).mono ?_
    rintro e W5 ⟨rfl, hb⟩
    clear c_v_0 c_v_1 lt_v
    have B'_v : Bk W5 (W1.heap.size) #[.int .i64 vx, .int .i64 vy] 55 := Bk.below (by (repeat (first | with_reducible assumption | ((with_reducible refine Bk.at_ ?_); first | rfl | (simp; done)) | with_reducible apply Bk.alloc))) hb
    have B'_m : Bk W5 (W2.heap.size) #[.int .i64 mx, .int .i64 my] 55 := Bk.below (by (repeat (first | with_reducible assumption | ((with_reducible refine Bk.at_ ?_); first | rfl | (simp; done)) | with_reducible apply Bk.alloc))) hb
    have B'_b : Bk W5 (W3.heap.size) #[.int .i64 vx, .int .i64 vy] 55 := Bk.below (by (repeat (first | with_reducible assumption | ((with_reducible refine Bk.at_ ?_); first | rfl | (simp; done)) | with_reducible apply Bk.alloc))) hb
    have B'_n : Bk W5 (W4.heap.size) #[.int .i64 (-mx), .int .i64 (-my)] 55 := Bk.below (by (repeat (first | with_reducible assumption | ((with_reducible refine Bk.at_ ?_); first | rfl | (simp; done)) | with_reducible apply Bk.alloc))) hb
    obtain ⟨hB', hS'⟩ := below_c (w := w) hb (by (first | (go_grown; done) | (repeat (first | assumption | (refine Below.setCell ?_ (by first | assumption | (simp; omega) | omega) _) | (refine Below.alloc ?_ (by assumption) _)))))
    clear hb hB hS B_v B_m B_b
    have B_v := B'_v
    have B_m := B'_m
    have B_b := B'_b
    have B_n := B'_n
    have hB := hB'; have hS := hS'; clear hB' hS' B'_v B'_m B'_b B'_n
    go_wp2_with fail
    with_reducible refine (vscale_is _ _ _ 1 _ _ H4.out _).mono ?_
    rintro e W6 ⟨rfl, hb⟩
    have B'_v : Bk W6 (W1.heap.size) #[.int .i64 vx, .int .i64 vy] 55 := Bk.below (by (repeat (first | with_reducible assumption | ((with_reducible refine Bk.at_ ?_); first | rfl | (simp; done)) | with_reducible apply Bk.alloc))) hb
    have B'_m : Bk W6 (W2.heap.size) #[.int .i64 mx, .int .i64 my] 55 := Bk.below (by (repeat (first | with_reducible assumption | ((with_reducible refine Bk.at_ ?_); first | rfl | (simp; done)) | with_reducible apply Bk.alloc))) hb
    have B'_b : Bk W6 (W3.heap.size) #[.int .i64 vx, .int .i64 vy] 55 := Bk.below (by (repeat (first | with_reducible assumption | ((with_reducible refine Bk.at_ ?_); first | rfl | (simp; done)) | with_reducible apply Bk.alloc))) hb
    have B'_n : Bk W6 (W4.heap.size) #[.int .i64 (-mx), .int .i64 (-my)] 55 := Bk.below (by (repeat (first | with_reducible assumption | ((with_reducible refine Bk.at_ ?_); first | rfl | (simp; done)) | with_reducible apply Bk.alloc))) hb
    obtain ⟨hB', hS'⟩ := below_c (w := w) hb (by (first | (go_grown; done) | (repeat (first | assumption | (refine Below.setCell ?_ (by first | assumption | (simp; omega) | omega) _) | (refine Below.alloc ?_ (by assumption) _)))))
    clear hb hB hS B_v B_m B_b B_n
    have B_v := B'_v
    have B_m := B'_m
    have B_b := B'_b
    have B_n := B'_n
    have hB := hB'; have hS := hS'; clear hB' hS' B'_v B'_m B'_b B'_n
    have c_v_0 := B_v.cell (v := .int .i64 vx) 0 rfl
    have c_v_1 := B_v.cell (v := .int .i64 vy) 1 rfl
    have lt_v := B_v.lt
    go_wp2_with fail
    with_reducible refine (vscale_is _ _ _ _ _ _ H5.out _).mono ?_
    rintro e W7 ⟨rfl, hb⟩
    clear c_v_0 c_v_1 lt_v
    have B'_v : Bk W7 (W1.heap.size) #[.int .i64 vx, .int .i64 vy] 55 := Bk.below (by (repeat (first | with_reducible assumption | ((with_reducible refine Bk.at_ ?_); first | rfl | (simp; done)) | with_reducible apply Bk.alloc))) hb
    have B'_m : Bk W7 (W2.heap.size) #[.int .i64 mx, .int .i64 my] 55 := Bk.below (by (repeat (first | with_reducible assumption | ((with_reducible refine Bk.at_ ?_); first | rfl | (simp; done)) | with_reducible apply Bk.alloc))) hb
    have B'_b : Bk W7 (W3.heap.size) #[.int .i64 vx, .int .i64 vy] 55 := Bk.below (by (repeat (first | with_reducible assumption | ((with_reducible refine Bk.at_ ?_); first | rfl | (simp; done)) | with_reducible apply Bk.alloc))) hb
    have B'_n : Bk W7 (W4.heap.size) #[.int .i64 (-mx), .int .i64 (-my)] 55 := Bk.below (by (repeat (first | with_reducible assumption | ((with_reducible refine Bk.at_ ?_); first | rfl | (simp; done)) | with_reducible apply Bk.alloc))) hb
    have B'_l : Bk W7 (W6.heap.size) #[.int .i64 (-mx), .int .i64 (-my)] 55 := Bk.below (by (repeat (first | with_reducible assumption | ((with_reducible refine Bk.at_ ?_); first | rfl | (simp; done)) | with_reducible apply Bk.alloc))) hb
    obtain ⟨hB', hS'⟩ := below_c (w := w) hb (by (first | (go_grown; done) | (repeat (first | assumption | (refine Below.setCell ?_ (by first | assumption | (simp; omega) | omega) _) | (refine Below.alloc ?_ (by assumption) _)))))
    clear hb hB hS B_v B_m B_b B_n
    have B_v := B'_v
    have B_m := B'_m
    have B_b := B'_b
    have B_n := B'_n
    have B_l := B'_l
    have hB := hB'; have hS := hS'; clear hB' hS' B'_v B'_m B'_b B'_n B'_l
    have c_v_0 := B_v.cell (v := .int .i64 vx) 0 rfl
    have c_v_1 := B_v.cell (v := .int .i64 vy) 1 rfl
    have lt_v := B_v.lt
    go_wp2_with fail
    with_reducible refine (vscale_is _ _ _ _ _ _ H6.out _).mono ?_
    rintro e W8 ⟨rfl, hb⟩
    clear c_v_0 c_v_1 lt_v
    have B'_v : Bk W8 (W1.heap.size) #[.int .i64 vx, .int .i64 vy] 55 := Bk.below (by (repeat (first | with_reducible assumption | ((with_reducible refine Bk.at_ ?_); first | rfl | (simp; done)) | with_reducible apply Bk.alloc))) hb
    have B'_m : Bk W8 (W2.heap.size) #[.int .i64 mx, .int .i64 my] 55 := Bk.below (by (repeat (first | with_reducible assumption | ((with_reducible refine Bk.at_ ?_); first | rfl | (simp; done)) | with_reducible apply Bk.alloc))) hb
    have B'_b : Bk W8 (W3.heap.size) #[.int .i64 vx, .int .i64 vy] 55 := Bk.below (by (repeat (first | with_reducible assumption | ((with_reducible refine Bk.at_ ?_); first | rfl | (simp; done)) | with_reducible apply Bk.alloc))) hb
    have B'_n : Bk W8 (W4.heap.size) #[.int .i64 (-mx), .int .i64 (-my)] 55 := Bk.below (by (repeat (first | with_reducible assumption | ((with_reducible refine Bk.at_ ?_); first | rfl | (simp; done)) | with_reducible apply Bk.alloc))) hb
    have B'_l : Bk W8 (W6.heap.size) #[.int .i64 (-mx), .int .i64 (-my)] 55 := Bk.below (by (repeat (first | with_reducible assumption | ((with_reducible refine Bk.at_ ?_); first | rfl | (simp; done)) | with_reducible apply Bk.alloc))) hb
    have B'_s : Bk W8 (W7.heap.size) #[.int .i64 lx, .int .i64 ly] 55 := Bk.below (by (repeat (first | with_reducible assumption | ((with_reducible refine Bk.at_ ?_); first | rfl | (simp; done)) | with_reducible apply Bk.alloc))) hb
    obtain ⟨hB', hS'⟩ := below_c (w := w) hb (by (first | (go_grown; done) | (repeat (first | assumption | (refine Below.setCell ?_ (by first | assumption | (simp; omega) | omega) _) | (refine Below.alloc ?_ (by assumption) _)))))
    clear hb hB hS B_v B_m B_b B_n B_l
    have B_v := B'_v
    have B_m := B'_m
    have B_b := B'_b
    have B_n := B'_n
    have B_l := B'_l
    have B_s := B'_s
    have hB := hB'; have hS := hS'; clear hB' hS' B'_v B'_m B'_b B'_n B'_l B'_s
    go_wp2_with fail
    refine wp_name (fun W => Below w.heap.size w W ∧ Bk W (W1.heap.size) #[.int .i64 vx, .int .i64 vy] 55 ∧ Bk W (W2.heap.size) #[.int .i64 mx, .int .i64 my] 55 ∧ Bk W (W3.heap.size) #[.int .i64 vx, .int .i64 vy] 55 ∧ Bk W (W4.heap.size) #[.int .i64 (-mx), .int .i64 (-my)] 55 ∧ Bk W (W6.heap.size) #[.int .i64 (-mx), .int .i64 (-my)] 55 ∧ Bk W (W7.heap.size) #[.int .i64 lx, .int .i64 ly] 55 ∧ Bk W (W8.heap.size) #[.int .i64 (-lx), .int .i64 (-ly)] 55) ⟨by (first | (go_grown; done) | (repeat (first | assumption | (refine Below.setCell ?_ (by first | assumption | (simp; omega) | omega) _) | (refine Below.alloc ?_ (by assumption) _)))), by (repeat (first | with_reducible assumption | ((with_reducible refine Bk.at_ ?_); first | rfl | (simp; done)) | with_reducible apply Bk.alloc)), by (repeat (first | with_reducible assumption | ((with_reducible refine Bk.at_ ?_); first | rfl | (simp; done)) | with_reducible apply Bk.alloc)), by (repeat (first | with_reducible assumption | ((with_reducible refine Bk.at_ ?_); first | rfl | (simp; done)) | with_reducible apply Bk.alloc)), by (repeat (first | with_reducible assumption | ((with_reducible refine Bk.at_ ?_); first | rfl | (simp; done)) | with_reducible apply Bk.alloc)), by (repeat (first | with_reducible assumption | ((with_reducible refine Bk.at_ ?_); first | rfl | (simp; done)) | with_reducible apply Bk.alloc)), by (repeat (first | with_reducible assumption | ((with_reducible refine Bk.at_ ?_); first | rfl | (simp; done)) | with_reducible apply Bk.alloc)), by (repeat (first | with_reducible assumption | ((with_reducible refine Bk.at_ ?_); first | rfl | (simp; done)) | with_reducible apply Bk.alloc))⟩ ?_
    clear hB hS B_v B_m B_b B_n B_l B_s
    rintro W9 ⟨hB, B_v, B_m, B_b, B_n, B_l, B_s, B_o⟩
    have hS := hB.size
    have wr0 : IntKind.i64.wrap mx = mx := by rw [IntKind.wrap_i64]; omega
    have wr1 : IntKind.i64.wrap my = my := by rw [IntKind.wrap_i64]; omega
    have wr2 : IntKind.i64.wrap (-vx) = (-vx) := by rw [IntKind.wrap_i64]; omega
    have wr3 : IntKind.i64.wrap (-vy) = (-vy) := by rw [IntKind.wrap_i64]; omega
    have wr4 : IntKind.i64.wrap (-lx) = (-lx) := by rw [IntKind.wrap_i64]; omega
    have wr5 : IntKind.i64.wrap (-ly) = (-ly) := by rw [IntKind.wrap_i64]; omega
    have wr6 : IntKind.i64.wrap (-mx) = (-mx) := by rw [IntKind.wrap_i64]; omega
    have wr7 : IntKind.i64.wrap (-my) = (-my) := by rw [IntKind.wrap_i64]; omega
    have k_v_0 := cell_regrown (B_v.cell (v := .int .i64 vx) 0 rfl)
    have k_v_1 := cell_regrown (B_v.cell (v := .int .i64 vy) 1 rfl)
    have k_m_0 := cell_regrown (B_m.cell (v := .int .i64 mx) 0 rfl)
    have k_m_1 := cell_regrown (B_m.cell (v := .int .i64 my) 1 rfl)
    have k_b_0 := cell_regrown (B_b.cell (v := .int .i64 vx) 0 rfl)
    have k_b_1 := cell_regrown (B_b.cell (v := .int .i64 vy) 1 rfl)
    have k_n_0 := cell_regrown (B_n.cell (v := .int .i64 (-mx)) 0 rfl)
    have k_n_1 := cell_regrown (B_n.cell (v := .int .i64 (-my)) 1 rfl)
    have k_l_0 := cell_regrown (B_l.cell (v := .int .i64 (-mx)) 0 rfl)
    have k_l_1 := cell_regrown (B_l.cell (v := .int .i64 (-my)) 1 rfl)
    have k_s_0 := cell_regrown (B_s.cell (v := .int .i64 lx) 0 rfl)
    have k_s_1 := cell_regrown (B_s.cell (v := .int .i64 ly) 1 rfl)
    have k_o_0 := cell_regrown (B_o.cell (v := .int .i64 (-lx)) 0 rfl)
    have k_o_1 := cell_regrown (B_o.cell (v := .int .i64 (-ly)) 1 rfl)
    refine wp_region_low 62 (by kernel_rfl) (by kernel_rfl) ?_
    simp only [List.take, List.drop]
    iterate 62 (refine low_step (fun K hK => ?_); go_simp; first | (refine hK _ ?_; clear hK K) | (apply Exists.intro; refine ⟨fun p => ?_, hK _ ?_⟩; (first | with_reducible exact at_any _ _ _ | with_reducible exact vcross_is _ _ _ _ _ H7.out _); clear hK K))
    refine low_nil ?_
    intro W10 hC
    have hb := hC.1
    clear k_v_0 k_v_1 k_m_0 k_m_1 k_b_0 k_b_1 k_n_0 k_n_1 k_l_0 k_l_1 k_s_0 k_s_1 k_o_0 k_o_1
    replace B_v := B_v.below hb
    replace B_m := B_m.below hb
    replace B_b := B_b.below hb
    replace B_n := B_n.below hb
    replace B_l := B_l.below hb
    replace B_s := B_s.below hb
    replace B_o := B_o.below hb
    obtain ⟨hB', hS'⟩ := below_c (w := w) hb hB
    clear hC hb hB hS
    have hB := hB'; have hS := hS'; clear hB' hS'
    have c_v_0 := B_v.cell (v := .int .i64 vx) 0 rfl
    have c_v_1 := B_v.cell (v := .int .i64 vy) 1 rfl
    have lt_v := B_v.lt
    go_wp2_with fail
    with_reducible refine (vscale_zero _ _ _ _).mono ?_
    rintro e W11 ⟨rfl, hb⟩
    clear c_v_0 c_v_1 lt_v
    have B'_v : Bk W11 (W1.heap.size) #[.int .i64 vx, .int .i64 vy] 55 := Bk.below (by (repeat (first | with_reducible assumption | ((with_reducible refine Bk.at_ ?_); first | rfl | (simp; done)) | with_reducible apply Bk.alloc))) hb
    have B'_m : Bk W11 (W2.heap.size) #[.int .i64 mx, .int .i64 my] 55 := Bk.below (by (repeat (first | with_reducible assumption | ((with_reducible refine Bk.at_ ?_); first | rfl | (simp; done)) | with_reducible apply Bk.alloc))) hb
    have B'_b : Bk W11 (W3.heap.size) #[.int .i64 vx, .int .i64 vy] 55 := Bk.below (by (repeat (first | with_reducible assumption | ((with_reducible refine Bk.at_ ?_); first | rfl | (simp; done)) | with_reducible apply Bk.alloc))) hb
    have B'_n : Bk W11 (W4.heap.size) #[.int .i64 (-mx), .int .i64 (-my)] 55 := Bk.below (by (repeat (first | with_reducible assumption | ((with_reducible refine Bk.at_ ?_); first | rfl | (simp; done)) | with_reducible apply Bk.alloc))) hb
    have B'_l : Bk W11 (W6.heap.size) #[.int .i64 (-mx), .int .i64 (-my)] 55 := Bk.below (by (repeat (first | with_reducible assumption | ((with_reducible refine Bk.at_ ?_); first | rfl | (simp; done)) | with_reducible apply Bk.alloc))) hb
    have B'_s : Bk W11 (W7.heap.size) #[.int .i64 lx, .int .i64 ly] 55 := Bk.below (by (repeat (first | with_reducible assumption | ((with_reducible refine Bk.at_ ?_); first | rfl | (simp; done)) | with_reducible apply Bk.alloc))) hb
    have B'_o : Bk W11 (W8.heap.size) #[.int .i64 (-lx), .int .i64 (-ly)] 55 := Bk.below (by (repeat (first | with_reducible assumption | ((with_reducible refine Bk.at_ ?_); first | rfl | (simp; done)) | with_reducible apply Bk.alloc))) hb
    have B'_z : Bk W11 (W10.heap.size) #[.int .i64 0, .int .i64 0] 55 := Bk.below (by (repeat (first | with_reducible assumption | ((with_reducible refine Bk.at_ ?_); first | rfl | (simp; done)) | with_reducible apply Bk.alloc))) hb
    obtain ⟨hB', hS'⟩ := below_c (w := w) hb (by (first | (go_grown; done) | (repeat (first | assumption | (refine Below.setCell ?_ (by first | assumption | (simp; omega) | omega) _) | (refine Below.alloc ?_ (by assumption) _)))))
    clear hb hB hS B_v B_m B_b B_n B_l B_s B_o
    have B_v := B'_v
    have B_m := B'_m
    have B_b := B'_b
    have B_n := B'_n
    have B_l := B'_l
    have B_s := B'_s
    have B_o := B'_o
    have B_z := B'_z
    have hB := hB'; have hS := hS'; clear hB' hS' B'_v B'_m B'_b B'_n B'_l B'_s B'_o B'_z
    go_wp2_with fail
    refine wp_name (fun W => Below w.heap.size w W ∧ Bk W (W1.heap.size) #[.int .i64 vx, .int .i64 vy] 55 ∧ Bk W (W2.heap.size) #[.int .i64 mx, .int .i64 my] 55 ∧ Bk W (W3.heap.size) #[.int .i64 vx, .int .i64 vy] 55 ∧ Bk W (W4.heap.size) #[.int .i64 (-mx), .int .i64 (-my)] 55 ∧ Bk W (W6.heap.size) #[.int .i64 (-mx), .int .i64 (-my)] 55 ∧ Bk W (W7.heap.size) #[.int .i64 lx, .int .i64 ly] 55 ∧ Bk W (W8.heap.size) #[.int .i64 (-lx), .int .i64 (-ly)] 55 ∧ Bk W (W10.heap.size) #[.int .i64 0, .int .i64 0] 55 ∧ Bk W (W11.heap.size) #[.int .i64 0, .int .i64 0] 55) ⟨by (first | (go_grown; done) | (repeat (first | assumption | (refine Below.setCell ?_ (by first | assumption | (simp; omega) | omega) _) | (refine Below.alloc ?_ (by assumption) _)))), by (repeat (first | with_reducible assumption | ((with_reducible refine Bk.at_ ?_); first | rfl | (simp; done)) | with_reducible apply Bk.alloc)), by (repeat (first | with_reducible assumption | ((with_reducible refine Bk.at_ ?_); first | rfl | (simp; done)) | with_reducible apply Bk.alloc)), by (repeat (first | with_reducible assumption | ((with_reducible refine Bk.at_ ?_); first | rfl | (simp; done)) | with_reducible apply Bk.alloc)), by (repeat (first | with_reducible assumption | ((with_reducible refine Bk.at_ ?_); first | rfl | (simp; done)) | with_reducible apply Bk.alloc)), by (repeat (first | with_reducible assumption | ((with_reducible refine Bk.at_ ?_); first | rfl | (simp; done)) | with_reducible apply Bk.alloc)), by (repeat (first | with_reducible assumption | ((with_reducible refine Bk.at_ ?_); first | rfl | (simp; done)) | with_reducible apply Bk.alloc)), by (repeat (first | with_reducible assumption | ((with_reducible refine Bk.at_ ?_); first | rfl | (simp; done)) | with_reducible apply Bk.alloc)), by (repeat (first | with_reducible assumption | ((with_reducible refine Bk.at_ ?_); first | rfl | (simp; done)) | with_reducible apply Bk.alloc)), by (repeat (first | with_reducible assumption | ((with_reducible refine Bk.at_ ?_); first | rfl | (simp; done)) | with_reducible apply Bk.alloc))⟩ ?_
    clear hB hS B_v B_m B_b B_n B_l B_s B_o B_z
    rintro W12 ⟨hB, B_v, B_m, B_b, B_n, B_l, B_s, B_o, B_z, B_q⟩
    have hS := hB.size
    have k_v_0 := cell_regrown (B_v.cell (v := .int .i64 vx) 0 rfl)
    have k_v_1 := cell_regrown (B_v.cell (v := .int .i64 vy) 1 rfl)
    have k_m_0 := cell_regrown (B_m.cell (v := .int .i64 mx) 0 rfl)
    have k_m_1 := cell_regrown (B_m.cell (v := .int .i64 my) 1 rfl)
    have k_b_0 := cell_regrown (B_b.cell (v := .int .i64 vx) 0 rfl)
    have k_b_1 := cell_regrown (B_b.cell (v := .int .i64 vy) 1 rfl)
    have k_n_0 := cell_regrown (B_n.cell (v := .int .i64 (-mx)) 0 rfl)
    have k_n_1 := cell_regrown (B_n.cell (v := .int .i64 (-my)) 1 rfl)
    have k_l_0 := cell_regrown (B_l.cell (v := .int .i64 (-mx)) 0 rfl)
    have k_l_1 := cell_regrown (B_l.cell (v := .int .i64 (-my)) 1 rfl)
    have k_s_0 := cell_regrown (B_s.cell (v := .int .i64 lx) 0 rfl)
    have k_s_1 := cell_regrown (B_s.cell (v := .int .i64 ly) 1 rfl)
    have k_o_0 := cell_regrown (B_o.cell (v := .int .i64 (-lx)) 0 rfl)
    have k_o_1 := cell_regrown (B_o.cell (v := .int .i64 (-ly)) 1 rfl)
    have k_z_0 := cell_regrown (B_z.cell (v := .int .i64 0) 0 rfl)
    have k_z_1 := cell_regrown (B_z.cell (v := .int .i64 0) 1 rfl)
    have k_q_0 := cell_regrown (B_q.cell (v := .int .i64 0) 0 rfl)
    have k_q_1 := cell_regrown (B_q.cell (v := .int .i64 0) 1 rfl)
    refine wp_region_low 36 (by kernel_rfl) (by kernel_rfl) ?_
    simp only [List.take, List.drop]
    iterate 36 (refine low_step (fun K hK => ?_); go_simp; first | (refine hK _ ?_; clear hK K) | (apply Exists.intro; refine ⟨fun p => ?_, hK _ ?_⟩; (first | with_reducible exact vdist_is _ _ _ _ _ H8.out _ | with_reducible exact vdist_is _ _ _ _ _ H9.out _ | with_reducible exact at_any _ _ _ | with_reducible exact vadd_is _ _ _ _ _ _ H10.out _ | with_reducible exact vadd_is _ _ _ _ _ _ H11.out _ | with_reducible exact vsub_is _ _ _ _ _ _ H12.out _ | with_reducible exact awake02 _); clear hK K))
    refine low_nil ?_
    intro W13 hC
    have hb := hC.1
    clear k_v_0 k_v_1 k_m_0 k_m_1 k_b_0 k_b_1 k_n_0 k_n_1 k_l_0 k_l_1 k_s_0 k_s_1 k_o_0 k_o_1 k_z_0 k_z_1 k_q_0 k_q_1
    replace B_v := B_v.below hb
    replace B_m := B_m.below hb
    replace B_b := B_b.below hb
    replace B_n := B_n.below hb
    replace B_l := B_l.below hb
    replace B_s := B_s.below hb
    replace B_o := B_o.below hb
    replace B_z := B_z.below hb
    replace B_q := B_q.below hb
    obtain ⟨hB', hS'⟩ := below_c (w := w) hb hB
    clear hC hb hB hS
    have hB := hB'; have hS := hS'; clear hB' hS'
    go_wp2
    go_returns
    exact ⟨rfl, by (first | (go_grown; done) | (repeat (first | assumption | (refine Below.setCell ?_ (by first | assumption | (simp; omega) | omega) _) | (refine Below.alloc ?_ (by assumption) _))))⟩
end Go.Proofs.Ytolifgjkejhlhaa
