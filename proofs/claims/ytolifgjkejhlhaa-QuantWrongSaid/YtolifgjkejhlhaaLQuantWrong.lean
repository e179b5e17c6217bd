/- QuantWrong: the walk: whatever the arguments are, it returns true and writes nothing that was there. -/
import Derived.Test.YtolifgjkejhlhaaQWrong
import Derived.OpenShut
import Derived.BigQuiet
import Derived.Test.YtolifgjkejhlhaaMinMax
set_option linter.unusedVariables false
set_option linter.unusedSimpArgs false
namespace Go.Proofs.Ytolifgjkejhlhaa
open Go.RowKit

open Go Go.Sort
attribute [local go_sem] opLow opUpon opLow2 opUpon2
theorem point_bad' (lo hi b k : Int) (h : GV lo hi b ∧ (k < 0 ∨ gn b < k)) (w : World) :
    Calls Try.prog 38 #[G lo hi b, .int .i64 k] w fun e w' => e = .returned (.tuple #[.int .i64 0, .int .i64 2]) ∧ Below w.heap.size w w' := point_bad lo hi b k h.1 h.2 w
theorem fit_no2' (lo hi most : Int) (h : (-1099511627776 ≤ lo ∧ lo < hi ∧ hi ≤ 1099511627776) ∧ most < 0) (w : World) :
    Calls Try.prog 44 #[.int .i64 lo, .int .i64 hi, .int .i64 most] w fun e w' => e = .returned (.tuple #[G 0 0 0, .int .i64 2]) ∧ Below w.heap.size w w' := fit_no2 lo hi most h.1.1 h.1.2.1 h.1.2.2 h.2 w

set_option maxRecDepth 100000 in
set_option maxHeartbeats 8000000 in
theorem walk_QuantWrong (a0 a1 a2 a3 : Int) (w0 : (Lit.int .i64 a0).wf = true) (w1 : (Lit.int .u64 a1).wf = true) (w2 : (Lit.int .u8 a2).wf = true) (w3 : (Lit.int .i64 a3).wf = true) (w : World) :
    Calls Try.prog 22 #[.int .i64 a0, .int .u64 a1, .int .u8 a2, .int .i64 a3] w fun e w' => e = .returned (.bool true) ∧ Below w.heap.size w w' := by
  have w0 := bounds_i64 w0
  have w1 := bounds_u64 w1
  have w2 := bounds_u8 w2
  have w3 := bounds_i64 w3
  have hG := GV_grid a0 a1 a2 w2.1
  obtain ⟨L, hL⟩ : ∃ L, gl a0 = L := ⟨_, rfl⟩
  obtain ⟨R, hR⟩ : ∃ R, gl a0 + gw a1 = R := ⟨_, rfl⟩
  obtain ⟨B, hB⟩ : ∃ B, gb a2 = B := ⟨_, rfl⟩
  rw [hL, hB] at hG
  rw [← hL, hR, hL] at hG
  have H0 := Lib.hid (show ((-9223372036854775808 ≤ a0 ∧ a0 ≤ 9223372036854775807) ∧ (0 ≤ a1 ∧ a1 ≤ 18446744073709551615) ∧ 0 ≤ a2 ∧ a2 ≤ 255) ∧ gl a0 = L ∧ gl a0 + gw a1 = R ∧ gb a2 = B from ⟨⟨w0, w1, w2⟩, hL, hR, hB⟩)
  clear hL hR hB
  have HG := Lib.hid hG
  obtain ⟨l1, l2, l3, b1, b2⟩ := hG
  obtain ⟨g1, g2, g3⟩ := gn_bd B b1 b2
  obtain ⟨m1, hm1⟩ : ∃ m, min a3 (-1099511627777) = m := ⟨_, rfl⟩
  obtain ⟨m2, hm2⟩ : ∃ m, max a3 1099511627777 = m := ⟨_, rfl⟩
  obtain ⟨m3, hm3⟩ : ∃ m, min a3 0 = m := ⟨_, rfl⟩
  obtain ⟨m4, hm4⟩ : ∃ m, max a3 33 = m := ⟨_, rfl⟩
  clear w0 w1 w2
  go_enter Try.func22, Try.ntmps22
  go_wp2_with fail
  with_reducible refine (grid_val _ _ _ _ _ _ H0.out _).mono ?_
  rintro e W1 ⟨rfl, hb⟩
  obtain ⟨hB', hS'⟩ := below_c (w := w) hb (by (first | (go_grown; done) | (repeat (first | assumption | (refine Below.setCell ?_ (by first | assumption | (simp; omega) | omega) _) | (refine Below.alloc ?_ (by assumption) _)))))
  clear hb
  have hB := hB'; have hS := hS'; clear hB' hS' 
  go_wp2_with fail
  with_reducible refine (valid_yes _ _ _ HG.out _).mono ?_
  rintro e W2 ⟨rfl, hb⟩
  have B'_g : Bk W2 (W1.heap.size) #[.int .i64 L, .int .i64 R, .int .i64 B] 44 := Bk.below (by (repeat (first | with_reducible assumption | ((with_reducible refine Bk.at_ ?_); first | rfl | (simp; done)) | with_reducible apply Bk.alloc))) hb
  obtain ⟨hB', hS'⟩ := below_c (w := w) hb (by (first | (go_grown; done) | (repeat (first | assumption | (refine Below.setCell ?_ (by first | assumption | (simp; omega) | omega) _) | (refine Below.alloc ?_ (by assumption) _)))))
  clear hb hB hS
  have B_g := B'_g
  have hB := hB'; have hS := hS'; clear hB' hS' B'_g
  have c_g_0 := B_g.cell (v := .int .i64 L) 0 rfl
  have c_g_1 := B_g.cell (v := .int .i64 R) 1 rfl
  have c_g_2 := B_g.cell (v := .int .i64 B) 2 rfl
  have lt_g := B_g.lt
  go_wp2_with (first | refine wpList_min2 _ rfl _ _ _ rfl _ _ _ rfl rfl ?_ | refine wpList_max2 _ rfl _ _ _ rfl _ _ _ rfl rfl ?_)
  go_loopw [88] (fun v88 wr => ∃ j : Nat, j ≤ 7 ∧ v88 = .int .i64 j ∧ Bk wr W1.heap.size #[.int .i64 L, .int .i64 R, .int .i64 B] 44 ∧ Bk wr W2.heap.size #[.int .i64 L, .int .i64 L, .int .i64 B, .int .i64 R, .int .i64 L, .int .i64 B, .int .i64 m1, .int .i64 R, .int .i64 B, .int .i64 L, .int .i64 m2, .int .i64 B, .int .i64 L, .int .i64 R, .int .i64 m3, .int .i64 L, .int .i64 R, .int .i64 m4, .int .i64 0, .int .i64 0, .int .i64 0] 77 ∧ Below w.heap.size w wr) (fun v88 _ => 7 - (intOf v88).toNat)
  case atStart => exact ⟨0, by omega, rfl, by (repeat (first | with_reducible assumption | ((with_reducible refine Bk.at_ ?_); first | rfl | (simp; done)) | with_reducible apply Bk.alloc)), by (repeat (first | with_reducible assumption | ((with_reducible refine Bk.at_ ?_); first | rfl | (simp; done)) | with_reducible apply Bk.alloc)), by (first | (go_grown; done) | (repeat (first | assumption | (refine Below.setCell ?_ (by first | assumption | (simp; omega) | omega) _) | (refine Below.alloc ?_ (by assumption) _))))⟩
  case round =>
    obtain ⟨j, hj, rfl, B_g, B_t, hB⟩ := hrel
    obtain ⟨W20, rfl⟩ : ∃ W20 : World, W20 = wr := ⟨_, rfl⟩
    have hS := hB.size
    by_cases hj7 : j < 7
    · obtain ⟨x, y, z, hbad, t0, t1, t2⟩ : ∃ x y z : Int, ¬ GV x y z ∧ W20.cell? ⟨W2.heap.size, j * 3, none⟩ = some (.int .i64 x) ∧ W20.cell? ⟨W2.heap.size, j * 3 + 1, none⟩ = some (.int .i64 y) ∧ W20.cell? ⟨W2.heap.size, j * 3 + 2, none⟩ = some (.int .i64 z) := by
        rcases (by omega : j = 0 ∨ j = 1 ∨ j = 2 ∨ j = 3 ∨ j = 4 ∨ j = 5 ∨ j = 6) with rfl | rfl | rfl | rfl | rfl | rfl | rfl
        all_goals exact ⟨_, _, _, by unfold GV; omega, B_t.cell _ rfl, B_t.cell _ rfl, B_t.cell _ rfl⟩
      have HBad := Lib.hid hbad
      have HPl := Lib.hid (show ¬ (GV L R B ∧ GV x y z) from fun h => hbad h.2)
      have HPl' := Lib.hid (show ¬ (GV x y z ∧ GV L R B) from fun h => hbad h.1)
      clear hbad
      have c_g_0 := B_g.cell (v := .int .i64 L) 0 rfl
      have c_g_1 := B_g.cell (v := .int .i64 R) 1 rfl
      have c_g_2 := B_g.cell (v := .int .i64 B) 2 rfl
      have lt_g := B_g.lt
      have lt_t := B_t.lt
      go_wp2_with fail
      with_reducible refine (index_no _ _ _ _ HBad.out _).mono ?_
      rintro e W21 ⟨rfl, hb⟩
      clear c_g_0 c_g_1 c_g_2 lt_g lt_t
      have B'_g : Bk W21 (W1.heap.size) #[.int .i64 L, .int .i64 R, .int .i64 B] 44 := Bk.below (by (repeat (first | with_reducible assumption | ((with_reducible refine Bk.at_ ?_); first | rfl | (simp; done)) | with_reducible apply Bk.alloc))) hb
      have B'_t : Bk W21 (W2.heap.size) #[.int .i64 L, .int .i64 L, .int .i64 B, .int .i64 R, .int .i64 L, .int .i64 B, .int .i64 m1, .int .i64 R, .int .i64 B, .int .i64 L, .int .i64 m2, .int .i64 B, .int .i64 L, .int .i64 R, .int .i64 m3, .int .i64 L, .int .i64 R, .int .i64 m4, .int .i64 0, .int .i64 0, .int .i64 0] 77 := Bk.below (by (repeat (first | with_reducible assumption | ((with_reducible refine Bk.at_ ?_); first | rfl | (simp; done)) | with_reducible apply Bk.alloc))) hb
      have B'_b : Bk W21 (W20.heap.size + 1) #[.int .i64 x, .int .i64 y, .int .i64 z] 44 := Bk.below (by (repeat (first | with_reducible assumption | ((with_reducible refine Bk.at_ ?_); first | rfl | (simp; done)) | with_reducible apply Bk.alloc))) hb
      have B'_w : Bk W21 (W20.heap.size + 1 + 1) #[.slice none 0 0, .int .i64 0] 81 := Bk.below (by (repeat (first | with_reducible assumption | ((with_reducible refine Bk.at_ ?_); first | rfl | (simp; done)) | with_reducible apply Bk.alloc))) hb
      obtain ⟨hB', hS'⟩ := below_c (w := w) hb (by (first | (go_grown; done) | (repeat (first | assumption | (refine Below.setCell ?_ (by first | assumption | (simp; omega) | omega) _) | (refine Below.alloc ?_ (by assumption) _)))))
      clear hb hB hS B_g B_t
      have B_g := B'_g
      have B_t := B'_t
      have B_b := B'_b
      have B_w := B'_w
      have hB := hB'; have hS := hS'; clear hB' hS' B'_g B'_t B'_b B'_w
      clear t0 t1 t2
      have c_b_0 := B_b.cell (v := .int .i64 x) 0 rfl
      have c_b_1 := B_b.cell (v := .int .i64 y) 1 rfl
      have c_b_2 := B_b.cell (v := .int .i64 z) 2 rfl
      have lt_b := B_b.lt
      go_wp2_with fail
      with_reducible refine (point_no _ _ _ _ HBad.out _).mono ?_
      rintro e W22 ⟨rfl, hb⟩
      clear c_b_0 c_b_1 c_b_2 lt_b
      have B'_g : Bk W22 (W1.heap.size) #[.int .i64 L, .int .i64 R, .int .i64 B] 44 := Bk.below (by (repeat (first | with_reducible assumption | ((with_reducible refine Bk.at_ ?_); first | rfl | (simp; done)) | with_reducible apply Bk.alloc))) hb
      have B'_t : Bk W22 (W2.heap.size) #[.int .i64 L, .int .i64 L, .int .i64 B, .int .i64 R, .int .i64 L, .int .i64 B, .int .i64 m1, .int .i64 R, .int .i64 B, .int .i64 L, .int .i64 m2, .int .i64 B, .int .i64 L, .int .i64 R, .int .i64 m3, .int .i64 L, .int .i64 R, .int .i64 m4, .int .i64 0, .int .i64 0, .int .i64 0] 77 := Bk.below (by (repeat (first | with_reducible assumption | ((with_reducible refine Bk.at_ ?_); first | rfl | (simp; done)) | with_reducible apply Bk.alloc))) hb
      have B'_b : Bk W22 (W20.heap.size + 1) #[.int .i64 x, .int .i64 y, .int .i64 z] 44 := Bk.below (by (repeat (first | with_reducible assumption | ((with_reducible refine Bk.at_ ?_); first | rfl | (simp; done)) | with_reducible apply Bk.alloc))) hb
      have B'_w : Bk W22 (W20.heap.size + 1 + 1) #[.slice none 0 0, .int .i64 0] 81 := Bk.below (by (repeat (first | with_reducible assumption | ((with_reducible refine Bk.at_ ?_); first | rfl | (simp; done)) | with_reducible apply Bk.alloc))) hb
      obtain ⟨hB', hS'⟩ := below_c (w := w) hb (by (first | (go_grown; done) | (repeat (first | assumption | (refine Below.setCell ?_ (by first | assumption | (simp; omega) | omega) _) | (refine Below.alloc ?_ (by assumption) _)))))
      clear hb hB hS B_g B_t B_b B_w
      have B_g := B'_g
      have B_t := B'_t
      have B_b := B'_b
      have B_w := B'_w
      have hB := hB'; have hS := hS'; clear hB' hS' B'_g B'_t B'_b B'_w
      have c_b_0 := B_b.cell (v := .int .i64 x) 0 rfl
      have c_b_1 := B_b.cell (v := .int .i64 y) 1 rfl
      have c_b_2 := B_b.cell (v := .int .i64 z) 2 rfl
      have lt_b := B_b.lt
      go_wp2_with fail
      with_reducible refine (gnear_no _ _ _ _ HBad.out _).mono ?_
      rintro e W23 ⟨rfl, hb⟩
      clear c_b_0 c_b_1 c_b_2 lt_b
      have B'_g : Bk W23 (W1.heap.size) #[.int .i64 L, .int .i64 R, .int .i64 B] 44 := Bk.below (by (repeat (first | with_reducible assumption | ((with_reducible refine Bk.at_ ?_); first | rfl | (simp; done)) | with_reducible apply Bk.alloc))) hb
      have B'_t : Bk W23 (W2.heap.size) #[.int .i64 L, .int .i64 L, .int .i64 B, .int .i64 R, .int .i64 L, .int .i64 B, .int .i64 m1, .int .i64 R, .int .i64 B, .int .i64 L, .int .i64 m2, .int .i64 B, .int .i64 L, .int .i64 R, .int .i64 m3, .int .i64 L, .int .i64 R, .int .i64 m4, .int .i64 0, .int .i64 0, .int .i64 0] 77 := Bk.below (by (repeat (first | with_reducible assumption | ((with_reducible refine Bk.at_ ?_); first | rfl | (simp; done)) | with_reducible apply Bk.alloc))) hb
      have B'_b : Bk W23 (W20.heap.size + 1) #[.int .i64 x, .int .i64 y, .int .i64 z] 44 := Bk.below (by (repeat (first | with_reducible assumption | ((with_reducible refine Bk.at_ ?_); first | rfl | (simp; done)) | with_reducible apply Bk.alloc))) hb
      have B'_w : Bk W23 (W20.heap.size + 1 + 1) #[.slice none 0 0, .int .i64 0] 81 := Bk.below (by (repeat (first | with_reducible assumption | ((with_reducible refine Bk.at_ ?_); first | rfl | (simp; done)) | with_reducible apply Bk.alloc))) hb
      obtain ⟨hB', hS'⟩ := below_c (w := w) hb (by (first | (go_grown; done) | (repeat (first | assumption | (refine Below.setCell ?_ (by first | assumption | (simp; omega) | omega) _) | (refine Below.alloc ?_ (by assumption) _)))))
      clear hb hB hS B_g B_t B_b B_w
      have B_g := B'_g
      have B_t := B'_t
      have B_b := B'_b
      have B_w := B'_w
      have hB := hB'; have hS := hS'; clear hB' hS' B'_g B'_t B'_b B'_w
      have c_b_0 := B_b.cell (v := .int .i64 x) 0 rfl
      have c_b_1 := B_b.cell (v := .int .i64 y) 1 rfl
      have c_b_2 := B_b.cell (v := .int .i64 z) 2 rfl
      have lt_b := B_b.lt
      go_wp2_with fail
      with_reducible refine (error_no _ _ _ HBad.out _).mono ?_
      rintro e W24 ⟨rfl, hb⟩
      clear c_b_0 c_b_1 c_b_2 lt_b
      have B'_g : Bk W24 (W1.heap.size) #[.int .i64 L, .int .i64 R, .int .i64 B] 44 := Bk.below (by (repeat (first | with_reducible assumption | ((with_reducible refine Bk.at_ ?_); first | rfl | (simp; done)) | with_reducible apply Bk.alloc))) hb
      have B'_t : Bk W24 (W2.heap.size) #[.int .i64 L, .int .i64 L, .int .i64 B, .int .i64 R, .int .i64 L, .int .i64 B, .int .i64 m1, .int .i64 R, .int .i64 B, .int .i64 L, .int .i64 m2, .int .i64 B, .int .i64 L, .int .i64 R, .int .i64 m3, .int .i64 L, .int .i64 R, .int .i64 m4, .int .i64 0, .int .i64 0, .int .i64 0] 77 := Bk.below (by (repeat (first | with_reducible assumption | ((with_reducible refine Bk.at_ ?_); first | rfl | (simp; done)) | with_reducible apply Bk.alloc))) hb
      have B'_b : Bk W24 (W20.heap.size + 1) #[.int .i64 x, .int .i64 y, .int .i64 z] 44 := Bk.below (by (repeat (first | with_reducible assumption | ((with_reducible refine Bk.at_ ?_); first | rfl | (simp; done)) | with_reducible apply Bk.alloc))) hb
      have B'_w : Bk W24 (W20.heap.size + 1 + 1) #[.slice none 0 0, .int .i64 0] 81 := Bk.below (by (repeat (first | with_reducible assumption | ((with_reducible refine Bk.at_ ?_); first | rfl | (simp; done)) | with_reducible apply Bk.alloc))) hb
      obtain ⟨hB', hS'⟩ := below_c (w := w) hb (by (first | (go_grown; done) | (repeat (first | assumption | (refine Below.setCell ?_ (by first | assumption | (simp; omega) | omega) _) | (refine Below.alloc ?_ (by assumption) _)))))
      clear hb hB hS B_g B_t B_b B_w
      have B_g := B'_g
      have B_t := B'_t
      have B_b := B'_b
      have B_w := B'_w
      have hB := hB'; have hS := hS'; clear hB' hS' B'_g B'_t B'_b B'_w
      go_wp2_with fail
      have hmk : ∀ w : World, (Instr.makeSlice 79 (.int .i64 9) (.int .i64 9)).run Try.prog w = .ok (.slice (some ⟨w.heap.size, 0, none⟩) 9 9) (w.alloc (.cells #[.int .u8 0, .int .u8 0, .int .u8 0, .int .u8 0, .int .u8 0, .int .u8 0, .int .u8 0, .int .u8 0, .int .u8 0] 5)) := fun _ => by kernel_rfl
      have k_b_0 := cell_regrown (B_b.cell (v := .int .i64 x) 0 rfl)
      have k_b_1 := cell_regrown (B_b.cell (v := .int .i64 y) 1 rfl)
      have k_b_2 := cell_regrown (B_b.cell (v := .int .i64 z) 2 rfl)
      have hT_quant_Grid_Get : (post1 62 (fun _ v _ _ => ∃ g : Nat, v = .pointer (some ⟨g, 0, none⟩))) 61 = none := by first | rfl | (unfold post1; rfl)
      refine wp_region_all2 (post1 62 (fun _ v _ _ => ∃ g : Nat, v = .pointer (some ⟨g, 0, none⟩))) (by kernel_rfl) (by kernel_rfl) ?_
      iterate 1 (refine low2_step (fun K hK => ?_); go_simp; first | (refine hK _ ?_; clear hK K) | (apply Exists.intro; refine ⟨fun p => ?_, hK _ ?_⟩; (first | with_reducible exact get_no _ _ _ _ HBad.out _); clear hK K))
      refine low2_slice 9 9 (.cells #[.int .u8 0, .int .u8 0, .int .u8 0, .int .u8 0, .int .u8 0, .int .u8 0, .int .u8 0, .int .u8 0, .int .u8 0] 5) (by rfl) (fun w => by go_simp) ?_
      intro g_s1
      refine low2_call 62 #[.slice (some ⟨g_s1, 0, none⟩) 9 9] (fun _ v _ _ => ∃ g : Nat, v = .pointer (some ⟨g, 0, none⟩)) (by rfl) (fun w => by go_simp) (by first | rfl | exact post1_same _ _) (fun W hW h => by
        exact (reader_nine g_s1 W (h 1 _ ⟨⟨1, .data⟩, by simp, rfl, rfl⟩ rfl).2).mono fun e w'' ⟨g, he, hb⟩ => ⟨_, he, ⟨g, rfl⟩, hb⟩) ?_
      rintro v2 ⟨_, _, gp1, rfl⟩
      iterate 6 (refine low2_step (fun K hK => ?_); go_simp; first | (refine hK _ ?_; clear hK K) | (apply Exists.intro; refine ⟨fun p => ?_, hK _ ?_⟩; (first | with_reducible exact get_no _ _ _ _ HBad.out _); clear hK K))
      refine low2_nil ?_
      intro W25 hC
      have hb := hC.1
      clear k_b_0 k_b_1 k_b_2 hT_quant_Grid_Get
      have lu_g := B_g.lt
      have lu_t := B_t.lt
      have lu_b := B_b.lt
      have lu_w := B_w.lt
      replace B_g := B_g.below hb
      replace B_t := B_t.below hb
      replace B_b := B_b.below hb
      replace B_w := B_w.below hb
      obtain ⟨z_s1, B_s1⟩ : _ ∧ Bk W25 g_s1 #[.int .u8 0, .int .u8 0, .int .u8 0, .int .u8 0, .int .u8 0, .int .u8 0, .int .u8 0, .int .u8 0, .int .u8 0] 5 := hC.made 1 _ rfl
      obtain ⟨hB', hS'⟩ := below_c (w := w) hb hB
      have o_s1 : w.heap.size ≤ g_s1 := Nat.le_trans hS z_s1
      have n_g_s1 : W1.heap.size ≠ g_s1 := Nat.ne_of_lt (Nat.lt_of_lt_of_le lu_g z_s1)
      have n_t_s1 : W2.heap.size ≠ g_s1 := Nat.ne_of_lt (Nat.lt_of_lt_of_le lu_t z_s1)
      have n_b_s1 : W20.heap.size + 1 ≠ g_s1 := Nat.ne_of_lt (Nat.lt_of_lt_of_le lu_b z_s1)
      have n_w_s1 : W20.heap.size + 1 + 1 ≠ g_s1 := Nat.ne_of_lt (Nat.lt_of_lt_of_le lu_w z_s1)
      clear lu_g lu_t lu_b lu_w
      clear hC hb hB hS
      have hB := hB'; have hS := hS'; clear hB' hS'
      go_wp2_with fail
      refine wp_name (fun W => Below w.heap.size w W ∧ Bk W (W1.heap.size) #[.int .i64 L, .int .i64 R, .int .i64 B] 44 ∧ Bk W (W2.heap.size) #[.int .i64 L, .int .i64 L, .int .i64 B, .int .i64 R, .int .i64 L, .int .i64 B, .int .i64 m1, .int .i64 R, .int .i64 B, .int .i64 L, .int .i64 m2, .int .i64 B, .int .i64 L, .int .i64 R, .int .i64 m3, .int .i64 L, .int .i64 R, .int .i64 m4, .int .i64 0, .int .i64 0, .int .i64 0] 77 ∧ Bk W (W20.heap.size + 1) #[.int .i64 x, .int .i64 y, .int .i64 z] 44 ∧ Bk W (W20.heap.size + 1 + 1) #[.slice none 0 0, .int .i64 0] 81) ⟨by (first | (go_grown; done) | (repeat (first | assumption | (refine Below.setCell ?_ (by first | assumption | (simp; omega) | omega) _) | (refine Below.alloc ?_ (by assumption) _)))), by (repeat (first | with_reducible assumption | ((with_reducible refine Bk.at_ ?_); first | rfl | (simp; done)) | with_reducible apply Bk.alloc)), by (repeat (first | with_reducible assumption | ((with_reducible refine Bk.at_ ?_); first | rfl | (simp; done)) | with_reducible apply Bk.alloc)), by (repeat (first | with_reducible assumption | ((with_reducible refine Bk.at_ ?_); first | rfl | (simp; done)) | with_reducible apply Bk.alloc)), by (repeat (first | with_reducible assumption | ((with_reducible refine Bk.at_ ?_); first | rfl | (simp; done)) | with_reducible apply Bk.alloc))⟩ ?_
      clear hB hS B_g B_t B_b B_w
      rintro W26 ⟨hB, B_g, B_t, B_b, B_w⟩
      have hS := hB.size
      have k_g_0 := cell_regrown (B_g.cell (v := .int .i64 L) 0 rfl)
      have k_g_1 := cell_regrown (B_g.cell (v := .int .i64 R) 1 rfl)
      have k_g_2 := cell_regrown (B_g.cell (v := .int .i64 B) 2 rfl)
      have k_b_0 := cell_regrown (B_b.cell (v := .int .i64 x) 0 rfl)
      have k_b_1 := cell_regrown (B_b.cell (v := .int .i64 y) 1 rfl)
      have k_b_2 := cell_regrown (B_b.cell (v := .int .i64 z) 2 rfl)
      have hT_quant_Plane_Get : (post1 62 (fun _ v _ _ => ∃ g : Nat, v = .pointer (some ⟨g, 0, none⟩))) 63 = none := by first | rfl | (unfold post1; rfl)
      refine wp_region_all2 (post1 62 (fun _ v _ _ => ∃ g : Nat, v = .pointer (some ⟨g, 0, none⟩))) (by kernel_rfl) (by kernel_rfl) ?_
      iterate 3 (refine low2_step (fun K hK => ?_); go_simp; first | (refine hK _ ?_; clear hK K) | (apply Exists.intro; refine ⟨fun p => ?_, hK _ ?_⟩; (first | with_reducible exact pget_no _ _ _ _ _ _ _ HPl.out _); clear hK K))
      refine low2_slice 9 9 (.cells #[.int .u8 0, .int .u8 0, .int .u8 0, .int .u8 0, .int .u8 0, .int .u8 0, .int .u8 0, .int .u8 0, .int .u8 0] 5) (by rfl) (fun w => by go_simp) ?_
      intro g_s2
      refine low2_call 62 #[.slice (some ⟨g_s2, 0, none⟩) 9 9] (fun _ v _ _ => ∃ g : Nat, v = .pointer (some ⟨g, 0, none⟩)) (by rfl) (fun w => by go_simp) (by first | rfl | exact post1_same _ _) (fun W hW h => by
        exact (reader_nine g_s2 W (h 3 _ ⟨⟨3, .data⟩, by simp, rfl, rfl⟩ rfl).2).mono fun e w'' ⟨g, he, hb⟩ => ⟨_, he, ⟨g, rfl⟩, hb⟩) ?_
      rintro v4 ⟨_, _, gp3, rfl⟩
      iterate 4 (refine low2_step (fun K hK => ?_); go_simp; first | (refine hK _ ?_; clear hK K) | (apply Exists.intro; refine ⟨fun p => ?_, hK _ ?_⟩; (first | with_reducible exact pget_no _ _ _ _ _ _ _ HPl.out _); clear hK K))
      refine low2_new (.cells #[.int .i64 0, .int .i64 0] 55) (by rfl) (fun w => by go_simp) ?_
      intro g_v
      refine low2_again 9 g_v #[.int .i64 0, .int .i64 0] 55 (by rfl) ⟨⟨9, .data⟩, by simp, rfl, rfl⟩ rfl (fun W B => by
        have c_0 := B.cell (v := .int .i64 0) 0 rfl
        have f_0 := B.free 0
        have c_1 := B.cell (v := .int .i64 0) 1 rfl
        have f_1 := B.free 1
        have lt := B.lt
        go_simp
        first | exact ⟨by rw [setCell_again B rfl, setCell_again B rfl], rfl⟩ | trace_state) ?_
      iterate 1 (refine low2_step (fun K hK => ?_); go_simp; first | (refine hK _ ?_; clear hK K) | (apply Exists.intro; refine ⟨fun p => ?_, hK _ ?_⟩; (first | with_reducible exact pget_no _ _ _ _ _ _ _ HPl.out _); clear hK K))
      refine low2_nil ?_
      intro W27 hC
      have hb := hC.1
      clear k_g_0 k_g_1 k_g_2 k_b_0 k_b_1 k_b_2 hT_quant_Plane_Get
      have lu_g := B_g.lt
      have lu_t := B_t.lt
      have lu_b := B_b.lt
      have lu_w := B_w.lt
      replace B_g := B_g.below hb
      replace B_t := B_t.below hb
      replace B_b := B_b.below hb
      replace B_w := B_w.below hb
      obtain ⟨z_s2, B_s2⟩ : _ ∧ Bk W27 g_s2 #[.int .u8 0, .int .u8 0, .int .u8 0, .int .u8 0, .int .u8 0, .int .u8 0, .int .u8 0, .int .u8 0, .int .u8 0] 5 := hC.made 3 _ rfl
      obtain ⟨z_v, B_v⟩ : _ ∧ Bk W27 g_v #[.int .i64 0, .int .i64 0] 55 := hC.made 9 _ rfl
      obtain ⟨hB', hS'⟩ := below_c (w := w) hb hB
      have o_s2 : w.heap.size ≤ g_s2 := Nat.le_trans hS z_s2
      have o_v : w.heap.size ≤ g_v := Nat.le_trans hS z_v
      have n_g_s2 : W1.heap.size ≠ g_s2 := Nat.ne_of_lt (Nat.lt_of_lt_of_le lu_g z_s2)
      have n_t_s2 : W2.heap.size ≠ g_s2 := Nat.ne_of_lt (Nat.lt_of_lt_of_le lu_t z_s2)
      have n_b_s2 : W20.heap.size + 1 ≠ g_s2 := Nat.ne_of_lt (Nat.lt_of_lt_of_le lu_b z_s2)
      have n_w_s2 : W20.heap.size + 1 + 1 ≠ g_s2 := Nat.ne_of_lt (Nat.lt_of_lt_of_le lu_w z_s2)
      have n_g_v : W1.heap.size ≠ g_v := Nat.ne_of_lt (Nat.lt_of_lt_of_le lu_g z_v)
      have n_t_v : W2.heap.size ≠ g_v := Nat.ne_of_lt (Nat.lt_of_lt_of_le lu_t z_v)
      have n_b_v : W20.heap.size + 1 ≠ g_v := Nat.ne_of_lt (Nat.lt_of_lt_of_le lu_b z_v)
      have n_w_v : W20.heap.size + 1 + 1 ≠ g_v := Nat.ne_of_lt (Nat.lt_of_lt_of_le lu_w z_v)
      clear lu_g lu_t lu_b lu_w
      have n_s2_v : g_s2 ≠ g_v := fun e => absurd (hC.apart 3 9 _ _ g_s2 rfl rfl rfl (by rw [e]; rfl)) (by decide)
      clear hC hb hB hS
      have hB := hB'; have hS := hS'; clear hB' hS'
      go_wp2_with fail
      refine wp_name (fun W => Below w.heap.size w W ∧ Bk W (W1.heap.size) #[.int .i64 L, .int .i64 R, .int .i64 B] 44 ∧ Bk W (W2.heap.size) #[.int .i64 L, .int .i64 L, .int .i64 B, .int .i64 R, .int .i64 L, .int .i64 B, .int .i64 m1, .int .i64 R, .int .i64 B, .int .i64 L, .int .i64 m2, .int .i64 B, .int .i64 L, .int .i64 R, .int .i64 m3, .int .i64 L, .int .i64 R, .int .i64 m4, .int .i64 0, .int .i64 0, .int .i64 0] 77 ∧ Bk W (W20.heap.size + 1) #[.int .i64 x, .int .i64 y, .int .i64 z] 44 ∧ Bk W (W20.heap.size + 1 + 1) #[.slice none 0 0, .int .i64 0] 81 ∧ Bk W (g_v) #[.int .i64 0, .int .i64 0] 55) ⟨by (first | (go_grown; done) | (repeat (first | assumption | (refine Below.setCell ?_ (by first | assumption | (simp; omega) | omega) _) | (refine Below.alloc ?_ (by assumption) _)))), by (repeat (first | with_reducible assumption | ((with_reducible refine Bk.at_ ?_); first | rfl | (simp; done)) | with_reducible apply Bk.alloc)), by (repeat (first | with_reducible assumption | ((with_reducible refine Bk.at_ ?_); first | rfl | (simp; done)) | with_reducible apply Bk.alloc)), by (repeat (first | with_reducible assumption | ((with_reducible refine Bk.at_ ?_); first | rfl | (simp; done)) | with_reducible apply Bk.alloc)), by (repeat (first | with_reducible assumption | ((with_reducible refine Bk.at_ ?_); first | rfl | (simp; done)) | with_reducible apply Bk.alloc)), by (repeat (first | with_reducible assumption | ((with_reducible refine Bk.at_ ?_); first | rfl | (simp; done)) | with_reducible apply Bk.alloc))⟩ ?_
      clear hB hS B_g B_t B_b B_w B_v
      rintro W28 ⟨hB, B_g, B_t, B_b, B_w, B_v⟩
      have hS := hB.size
      have k_g_0 := cell_regrown (B_g.cell (v := .int .i64 L) 0 rfl)
      have k_g_1 := cell_regrown (B_g.cell (v := .int .i64 R) 1 rfl)
      have k_g_2 := cell_regrown (B_g.cell (v := .int .i64 B) 2 rfl)
      have k_b_0 := cell_regrown (B_b.cell (v := .int .i64 x) 0 rfl)
      have k_b_1 := cell_regrown (B_b.cell (v := .int .i64 y) 1 rfl)
      have k_b_2 := cell_regrown (B_b.cell (v := .int .i64 z) 2 rfl)
      have hT_quant_Grid_Put : (noPosts) 64 = none := by first | rfl | (unfold post1; rfl)
      have hT_quant_Plane_Put : (noPosts) 65 = none := by first | rfl | (unfold post1; rfl)
      refine wp_region_all2 (noPosts) (by kernel_rfl) (by kernel_rfl) ?_
      iterate 18 (refine low2_step (fun K hK => ?_); go_simp; first | (refine hK _ ?_; clear hK K) | (apply Exists.intro; refine ⟨fun p => ?_, hK _ ?_⟩; (first | with_reducible exact put_no _ _ _ _ _ HBad.out _ | with_reducible exact pput_no _ _ _ _ _ _ _ _ _ HPl'.out _ | with_reducible exact pput_no _ _ _ _ _ _ _ _ _ HPl.out _); clear hK K))
      refine low2_slice 9 9 (.cells #[.int .i64 2, .int .i64 2, .int .i64 2, .int .i64 2, .int .i64 2, .int .i64 2, .int .i64 2, .int .i64 2, .int .i64 2] 22) (by rfl) (fun w => by go_simp) ?_
      intro g_e
      iterate 2 (refine low2_step (fun K hK => ?_); go_simp; first | (refine hK _ ?_; clear hK K) | (apply Exists.intro; refine ⟨fun p => ?_, hK _ ?_⟩; (first | with_reducible exact put_no _ _ _ _ _ HBad.out _ | with_reducible exact pput_no _ _ _ _ _ _ _ _ _ HPl'.out _ | with_reducible exact pput_no _ _ _ _ _ _ _ _ _ HPl.out _); clear hK K))
      refine low2_nil ?_
      intro W29 hC
      have hb := hC.1
      clear k_g_0 k_g_1 k_g_2 k_b_0 k_b_1 k_b_2 hT_quant_Grid_Put hT_quant_Plane_Put
      have lu_g := B_g.lt
      have lu_t := B_t.lt
      have lu_b := B_b.lt
      have lu_w := B_w.lt
      have lu_v := B_v.lt
      replace B_g := B_g.below hb
      replace B_t := B_t.below hb
      replace B_b := B_b.below hb
      replace B_w := B_w.below hb
      replace B_v := B_v.below hb
      obtain ⟨z_e, B_e⟩ : _ ∧ Bk W29 g_e #[.int .i64 2, .int .i64 2, .int .i64 2, .int .i64 2, .int .i64 2, .int .i64 2, .int .i64 2, .int .i64 2, .int .i64 2] 22 := hC.made 18 _ rfl
      obtain ⟨hB', hS'⟩ := below_c (w := w) hb hB
      have o_e : w.heap.size ≤ g_e := Nat.le_trans hS z_e
      have n_g_e : W1.heap.size ≠ g_e := Nat.ne_of_lt (Nat.lt_of_lt_of_le lu_g z_e)
      have n_t_e : W2.heap.size ≠ g_e := Nat.ne_of_lt (Nat.lt_of_lt_of_le lu_t z_e)
      have n_b_e : W20.heap.size + 1 ≠ g_e := Nat.ne_of_lt (Nat.lt_of_lt_of_le lu_b z_e)
      have n_w_e : W20.heap.size + 1 + 1 ≠ g_e := Nat.ne_of_lt (Nat.lt_of_lt_of_le lu_w z_e)
      have n_v_e : g_v ≠ g_e := Nat.ne_of_lt (Nat.lt_of_lt_of_le lu_v z_e)
      clear lu_g lu_t lu_b lu_w lu_v
      clear hC hb hB hS
      have hB := hB'; have hS := hS'; clear hB' hS'
      go_wp2_with fail
      go_loopw [157] (fun v157 wr => ∃ i : Nat, i ≤ 9 ∧ v157 = .int .i64 i ∧ W29 = wr) (fun v157 _ => 9 - (intOf v157).toNat)
      case atStart => exact ⟨0, by omega, rfl, rfl⟩
      case round =>
        obtain ⟨i, hi, rfl, rfl⟩ := hrel
        by_cases hi9 : i < 9
        · have lt_e := B_e.lt
          have ce : W29.cell? ⟨g_e, i, none⟩ = some (.int .i64 2) := by
            rcases (by omega : i = 0 ∨ i = 1 ∨ i = 2 ∨ i = 3 ∨ i = 4 ∨ i = 5 ∨ i = 6 ∨ i = 7 ∨ i = 8) with rfl | rfl | rfl | rfl | rfl | rfl | rfl | rfl | rfl
            all_goals exact B_e.cell _ rfl
          go_wp2
          go_roundw
          case rel => exact ⟨i + 1, by omega, by first | rfl | go_num, by first | rfl | trivial⟩
          case measure => simp [intOf]; omega
        · obtain rfl : i = 9 := by omega
          have c_b_0 := B_b.cell (v := .int .i64 x) 0 rfl
          have c_b_1 := B_b.cell (v := .int .i64 y) 1 rfl
          have c_b_2 := B_b.cell (v := .int .i64 z) 2 rfl
          have lt_b := B_b.lt
          go_wp2_with fail
          with_reducible refine (valid_no _ _ _ HBad.out _).mono ?_
          rintro e W30 ⟨rfl, hb⟩
          clear c_b_0 c_b_1 c_b_2 lt_b
          have B'_g : Bk W30 (W1.heap.size) #[.int .i64 L, .int .i64 R, .int .i64 B] 44 := Bk.below (by (repeat (first | with_reducible assumption | ((with_reducible refine Bk.at_ ?_); first | rfl | (simp; done)) | with_reducible apply Bk.alloc))) hb
          have B'_t : Bk W30 (W2.heap.size) #[.int .i64 L, .int .i64 L, .int .i64 B, .int .i64 R, .int .i64 L, .int .i64 B, .int .i64 m1, .int .i64 R, .int .i64 B, .int .i64 L, .int .i64 m2, .int .i64 B, .int .i64 L, .int .i64 R, .int .i64 m3, .int .i64 L, .int .i64 R, .int .i64 m4, .int .i64 0, .int .i64 0, .int .i64 0] 77 := Bk.below (by (repeat (first | with_reducible assumption | ((with_reducible refine Bk.at_ ?_); first | rfl | (simp; done)) | with_reducible apply Bk.alloc))) hb
          have B'_b : Bk W30 (W20.heap.size + 1) #[.int .i64 x, .int .i64 y, .int .i64 z] 44 := Bk.below (by (repeat (first | with_reducible assumption | ((with_reducible refine Bk.at_ ?_); first | rfl | (simp; done)) | with_reducible apply Bk.alloc))) hb
          have B'_w : Bk W30 (W20.heap.size + 1 + 1) #[.slice none 0 0, .int .i64 0] 81 := Bk.below (by (repeat (first | with_reducible assumption | ((with_reducible refine Bk.at_ ?_); first | rfl | (simp; done)) | with_reducible apply Bk.alloc))) hb
          have B'_v : Bk W30 (g_v) #[.int .i64 0, .int .i64 0] 55 := Bk.below (by (repeat (first | with_reducible assumption | ((with_reducible refine Bk.at_ ?_); first | rfl | (simp; done)) | with_reducible apply Bk.alloc))) hb
          have B'_e : Bk W30 (g_e) #[.int .i64 2, .int .i64 2, .int .i64 2, .int .i64 2, .int .i64 2, .int .i64 2, .int .i64 2, .int .i64 2, .int .i64 2] 22 := Bk.below (by (repeat (first | with_reducible assumption | ((with_reducible refine Bk.at_ ?_); first | rfl | (simp; done)) | with_reducible apply Bk.alloc))) hb
          obtain ⟨hB', hS'⟩ := below_c (w := w) hb (by (first | (go_grown; done) | (repeat (first | assumption | (refine Below.setCell ?_ (by first | assumption | (simp; omega) | omega) _) | (refine Below.alloc ?_ (by assumption) _)))))
          clear hb hB hS B_g B_t B_b B_w B_v B_e
          have B_g := B'_g
          have B_t := B'_t
          have B_b := B'_b
          have B_w := B'_w
          have B_v := B'_v
          have B_e := B'_e
          have hB := hB'; have hS := hS'; clear hB' hS' B'_g B'_t B'_b B'_w B'_v B'_e
          have c_v_0 := B_v.cell (v := .int .i64 0) 0 rfl
          have c_v_1 := B_v.cell (v := .int .i64 0) 1 rfl
          have lt_v := B_v.lt
          go_wp2_with fail
          with_reducible refine (len_empty _ _ _ B_w).mono ?_
          rintro e W31 ⟨rfl, hb⟩
          clear c_v_0 c_v_1 lt_v
          have B'_g : Bk W31 (W1.heap.size) #[.int .i64 L, .int .i64 R, .int .i64 B] 44 := Bk.below (by (repeat (first | with_reducible assumption | ((with_reducible refine Bk.at_ ?_); first | rfl | (simp; done)) | with_reducible apply Bk.alloc))) hb
          have B'_t : Bk W31 (W2.heap.size) #[.int .i64 L, .int .i64 L, .int .i64 B, .int .i64 R, .int .i64 L, .int .i64 B, .int .i64 m1, .int .i64 R, .int .i64 B, .int .i64 L, .int .i64 m2, .int .i64 B, .int .i64 L, .int .i64 R, .int .i64 m3, .int .i64 L, .int .i64 R, .int .i64 m4, .int .i64 0, .int .i64 0, .int .i64 0] 77 := Bk.below (by (repeat (first | with_reducible assumption | ((with_reducible refine Bk.at_ ?_); first | rfl | (simp; done)) | with_reducible apply Bk.alloc))) hb
          have B'_b : Bk W31 (W20.heap.size + 1) #[.int .i64 x, .int .i64 y, .int .i64 z] 44 := Bk.below (by (repeat (first | with_reducible assumption | ((with_reducible refine Bk.at_ ?_); first | rfl | (simp; done)) | with_reducible apply Bk.alloc))) hb
          have B'_w : Bk W31 (W20.heap.size + 1 + 1) #[.slice none 0 0, .int .i64 0] 81 := Bk.below (by (repeat (first | with_reducible assumption | ((with_reducible refine Bk.at_ ?_); first | rfl | (simp; done)) | with_reducible apply Bk.alloc))) hb
          have B'_v : Bk W31 (g_v) #[.int .i64 0, .int .i64 0] 55 := Bk.below (by (repeat (first | with_reducible assumption | ((with_reducible refine Bk.at_ ?_); first | rfl | (simp; done)) | with_reducible apply Bk.alloc))) hb
          have B'_e : Bk W31 (g_e) #[.int .i64 2, .int .i64 2, .int .i64 2, .int .i64 2, .int .i64 2, .int .i64 2, .int .i64 2, .int .i64 2, .int .i64 2] 22 := Bk.below (by (repeat (first | with_reducible assumption | ((with_reducible refine Bk.at_ ?_); first | rfl | (simp; done)) | with_reducible apply Bk.alloc))) hb
          obtain ⟨hB', hS'⟩ := below_c (w := w) hb (by (first | (go_grown; done) | (repeat (first | assumption | (refine Below.setCell ?_ (by first | assumption | (simp; omega) | omega) _) | (refine Below.alloc ?_ (by assumption) _)))))
          clear hb hB hS B_g B_t B_b B_w B_v B_e
          have B_g := B'_g
          have B_t := B'_t
          have B_b := B'_b
          have B_w := B'_w
          have B_v := B'_v
          have B_e := B'_e
          have hB := hB'; have hS := hS'; clear hB' hS' B'_g B'_t B'_b B'_w B'_v B'_e
          go_wp2
          go_roundw
          case rel => exact ⟨j + 1, by omega, by first | rfl | go_num, by (repeat (first | with_reducible assumption | ((with_reducible refine Bk.at_ ?_); first | rfl | (simp; done)) | with_reducible apply Bk.alloc)), by (repeat (first | with_reducible assumption | ((with_reducible refine Bk.at_ ?_); first | rfl | (simp; done)) | with_reducible apply Bk.alloc)), by (first | (go_grown; done) | (repeat (first | assumption | (refine Below.setCell ?_ (by first | assumption | (simp; omega) | omega) _) | (refine Below.alloc ?_ (by assumption) _))))⟩
          case measure => simp [intOf]; omega
    · obtain rfl : j = 7 := by omega
      obtain ⟨m5, hm5⟩ : ∃ m, min a3 (-1) = m := ⟨_, rfl⟩
      obtain ⟨m6, hm6⟩ : ∃ m, max a3 (gn B + 1) = m := ⟨_, rfl⟩
      have HP1 := Lib.hid (show GV L R B ∧ (m5 < 0 ∨ gn B < m5) from ⟨HG.out, by omega⟩)
      have HP2 := Lib.hid (show GV L R B ∧ (m6 < 0 ∨ gn B < m6) from ⟨HG.out, by omega⟩)
      have HF1 := Lib.hid (show R < -1099511627776 ∨ L ≤ R ∨ 1099511627776 < L by omega)
      have HF2 := Lib.hid (show (-1099511627776 ≤ L ∧ L < R ∧ R ≤ 1099511627776) ∧ m5 < 0 by omega)
      have c_g_0 := B_g.cell (v := .int .i64 L) 0 rfl
      have c_g_1 := B_g.cell (v := .int .i64 R) 1 rfl
      have c_g_2 := B_g.cell (v := .int .i64 B) 2 rfl
      have lt_g := B_g.lt
      go_wp2_with (first | refine wpList_min2 _ rfl _ _ _ rfl _ _ _ rfl rfl ?_ | refine wpList_max2 _ rfl _ _ _ rfl _ _ _ rfl rfl ?_)
      with_reducible refine (point_bad' _ _ _ _ HP1.out _).mono ?_
      rintro e W21 ⟨rfl, hb⟩
      clear c_g_0 c_g_1 c_g_2 lt_g
      have B'_g : Bk W21 (W1.heap.size) #[.int .i64 L, .int .i64 R, .int .i64 B] 44 := Bk.below (by (repeat (first | with_reducible assumption | ((with_reducible refine Bk.at_ ?_); first | rfl | (simp; done)) | with_reducible apply Bk.alloc))) hb
      have B'_t : Bk W21 (W2.heap.size) #[.int .i64 L, .int .i64 L, .int .i64 B, .int .i64 R, .int .i64 L, .int .i64 B, .int .i64 m1, .int .i64 R, .int .i64 B, .int .i64 L, .int .i64 m2, .int .i64 B, .int .i64 L, .int .i64 R, .int .i64 m3, .int .i64 L, .int .i64 R, .int .i64 m4, .int .i64 0, .int .i64 0, .int .i64 0] 77 := Bk.below (by (repeat (first | with_reducible assumption | ((with_reducible refine Bk.at_ ?_); first | rfl | (simp; done)) | with_reducible apply Bk.alloc))) hb
      obtain ⟨hB', hS'⟩ := below_c (w := w) hb (by (first | (go_grown; done) | (repeat (first | assumption | (refine Below.setCell ?_ (by first | assumption | (simp; omega) | omega) _) | (refine Below.alloc ?_ (by assumption) _)))))
      clear hb hB hS B_g B_t
      have B_g := B'_g
      have B_t := B'_t
      have hB := hB'; have hS := hS'; clear hB' hS' B'_g B'_t
      go_wp2_with fail
      have k_g_0 := cell_regrown (B_g.cell (v := .int .i64 L) 0 rfl)
      have k_g_1 := cell_regrown (B_g.cell (v := .int .i64 R) 1 rfl)
      have k_g_2 := cell_regrown (B_g.cell (v := .int .i64 B) 2 rfl)
      have hT_quant_Grid_Point : (noPosts) 38 = none := by first | rfl | (unfold post1; rfl)
      refine wp_region_all2 (noPosts) (by kernel_rfl) (by kernel_rfl) ?_
      iterate 5 (refine low2_step (fun K hK => ?_); go_simp; first | (refine hK _ ?_; clear hK K) | (apply Exists.intro; refine ⟨fun p => ?_, hK _ ?_⟩; (first | with_reducible exact point_bad' _ _ _ _ HP2.out _); clear hK K))
      refine low2_max (.tmp 197) (.tmp 200) _ (by rfl) rfl .i64 a3 (gn B + 1) rfl rfl ?_
      iterate 6 (refine low2_step (fun K hK => ?_); go_simp; first | (refine hK _ ?_; clear hK K) | (apply Exists.intro; refine ⟨fun p => ?_, hK _ ?_⟩; (first | with_reducible exact point_bad' _ _ _ _ HP2.out _); clear hK K))
      refine low2_nil ?_
      intro W22 hC
      have hb := hC.1
      clear k_g_0 k_g_1 k_g_2 hT_quant_Grid_Point
      replace B_g := B_g.below hb
      replace B_t := B_t.below hb
      obtain ⟨hB', hS'⟩ := below_c (w := w) hb hB
      clear hC hb hB hS
      have hB := hB'; have hS := hS'; clear hB' hS'
      have c_g_0 := B_g.cell (v := .int .i64 L) 0 rfl
      have c_g_1 := B_g.cell (v := .int .i64 R) 1 rfl
      have c_g_2 := B_g.cell (v := .int .i64 B) 2 rfl
      have lt_g := B_g.lt
      go_wp2_with fail
      with_reducible refine (fit_no1 _ _ _ HF1.out _).mono ?_
      rintro e W23 ⟨rfl, hb⟩
      clear c_g_0 c_g_1 c_g_2 lt_g
      have B'_g : Bk W23 (W1.heap.size) #[.int .i64 L, .int .i64 R, .int .i64 B] 44 := Bk.below (by (repeat (first | with_reducible assumption | ((with_reducible refine Bk.at_ ?_); first | rfl | (simp; done)) | with_reducible apply Bk.alloc))) hb
      have B'_t : Bk W23 (W2.heap.size) #[.int .i64 L, .int .i64 L, .int .i64 B, .int .i64 R, .int .i64 L, .int .i64 B, .int .i64 m1, .int .i64 R, .int .i64 B, .int .i64 L, .int .i64 m2, .int .i64 B, .int .i64 L, .int .i64 R, .int .i64 m3, .int .i64 L, .int .i64 R, .int .i64 m4, .int .i64 0, .int .i64 0, .int .i64 0] 77 := Bk.below (by (repeat (first | with_reducible assumption | ((with_reducible refine Bk.at_ ?_); first | rfl | (simp; done)) | with_reducible apply Bk.alloc))) hb
      obtain ⟨hB', hS'⟩ := below_c (w := w) hb (by (first | (go_grown; done) | (repeat (first | assumption | (refine Below.setCell ?_ (by first | assumption | (simp; omega) | omega) _) | (refine Below.alloc ?_ (by assumption) _)))))
      clear hb hB hS B_g B_t
      have B_g := B'_g
      have B_t := B'_t
      have hB := hB'; have hS := hS'; clear hB' hS' B'_g B'_t
      have c_g_0 := B_g.cell (v := .int .i64 L) 0 rfl
      have c_g_1 := B_g.cell (v := .int .i64 R) 1 rfl
      have c_g_2 := B_g.cell (v := .int .i64 B) 2 rfl
      have lt_g := B_g.lt
      go_wp2_with (first | refine wpList_min2 _ rfl _ _ _ rfl _ _ _ rfl rfl ?_ | refine wpList_max2 _ rfl _ _ _ rfl _ _ _ rfl rfl ?_)
      with_reducible refine (fit_no2' _ _ _ HF2.out _).mono ?_
      rintro e W24 ⟨rfl, hb⟩
      clear c_g_0 c_g_1 c_g_2 lt_g
      have B'_g : Bk W24 (W1.heap.size) #[.int .i64 L, .int .i64 R, .int .i64 B] 44 := Bk.below (by (repeat (first | with_reducible assumption | ((with_reducible refine Bk.at_ ?_); first | rfl | (simp; done)) | with_reducible apply Bk.alloc))) hb
      have B'_t : Bk W24 (W2.heap.size) #[.int .i64 L, .int .i64 L, .int .i64 B, .int .i64 R, .int .i64 L, .int .i64 B, .int .i64 m1, .int .i64 R, .int .i64 B, .int .i64 L, .int .i64 m2, .int .i64 B, .int .i64 L, .int .i64 R, .int .i64 m3, .int .i64 L, .int .i64 R, .int .i64 m4, .int .i64 0, .int .i64 0, .int .i64 0] 77 := Bk.below (by (repeat (first | with_reducible assumption | ((with_reducible refine Bk.at_ ?_); first | rfl | (simp; done)) | with_reducible apply Bk.alloc))) hb
      have B'_p : Bk W24 (W23.heap.size) #[.int .i64 0, .int .i64 0, .int .i64 0] 44 := Bk.below (by (repeat (first | with_reducible assumption | ((with_reducible refine Bk.at_ ?_); first | rfl | (simp; done)) | with_reducible apply Bk.alloc))) hb
      obtain ⟨hB', hS'⟩ := below_c (w := w) hb (by (first | (go_grown; done) | (repeat (first | assumption | (refine Below.setCell ?_ (by first | assumption | (simp; omega) | omega) _) | (refine Below.alloc ?_ (by assumption) _)))))
      clear hb hB hS B_g B_t
      have B_g := B'_g
      have B_t := B'_t
      have B_p := B'_p
      have hB := hB'; have hS := hS'; clear hB' hS' B'_g B'_t B'_p
      have c_p_0 := B_p.cell (v := .int .i64 0) 0 rfl
      have c_p_1 := B_p.cell (v := .int .i64 0) 1 rfl
      have c_p_2 := B_p.cell (v := .int .i64 0) 2 rfl
      have lt_p := B_p.lt
      go_wp2_with fail
      with_reducible refine (awake21 _).mono ?_
      rintro e W25 ⟨rfl, hb⟩
      clear c_p_0 c_p_1 c_p_2 lt_p
      have B'_g : Bk W25 (W1.heap.size) #[.int .i64 L, .int .i64 R, .int .i64 B] 44 := Bk.below (by (repeat (first | with_reducible assumption | ((with_reducible refine Bk.at_ ?_); first | rfl | (simp; done)) | with_reducible apply Bk.alloc))) hb
      have B'_t : Bk W25 (W2.heap.size) #[.int .i64 L, .int .i64 L, .int .i64 B, .int .i64 R, .int .i64 L, .int .i64 B, .int .i64 m1, .int .i64 R, .int .i64 B, .int .i64 L, .int .i64 m2, .int .i64 B, .int .i64 L, .int .i64 R, .int .i64 m3, .int .i64 L, .int .i64 R, .int .i64 m4, .int .i64 0, .int .i64 0, .int .i64 0] 77 := Bk.below (by (repeat (first | with_reducible assumption | ((with_reducible refine Bk.at_ ?_); first | rfl | (simp; done)) | with_reducible apply Bk.alloc))) hb
      have B'_p : Bk W25 (W23.heap.size) #[.int .i64 0, .int .i64 0, .int .i64 0] 44 := Bk.below (by (repeat (first | with_reducible assumption | ((with_reducible refine Bk.at_ ?_); first | rfl | (simp; done)) | with_reducible apply Bk.alloc))) hb
      have B'_q : Bk W25 (W24.heap.size) #[.int .i64 0, .int .i64 0, .int .i64 0] 44 := Bk.below (by (repeat (first | with_reducible assumption | ((with_reducible refine Bk.at_ ?_); first | rfl | (simp; done)) | with_reducible apply Bk.alloc))) hb
      obtain ⟨hB', hS'⟩ := below_c (w := w) hb (by (first | (go_grown; done) | (repeat (first | assumption | (refine Below.setCell ?_ (by first | assumption | (simp; omega) | omega) _) | (refine Below.alloc ?_ (by assumption) _)))))
      clear hb hB hS B_g B_t B_p
      have B_g := B'_g
      have B_t := B'_t
      have B_p := B'_p
      have B_q := B'_q
      have hB := hB'; have hS := hS'; clear hB' hS' B'_g B'_t B'_p B'_q
      go_wp2
      go_returns
      exact ⟨rfl, by (first | (go_grown; done) | (repeat (first | assumption | (refine Below.setCell ?_ (by first | assumption | (simp; omega) | omega) _) | (refine Below.alloc ?_ (by assumption) _))))⟩
end Go.Proofs.Ytolifgjkejhlhaa
