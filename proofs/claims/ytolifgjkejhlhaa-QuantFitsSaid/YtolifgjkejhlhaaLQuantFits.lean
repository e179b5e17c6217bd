/- QuantFits: the walk: whatever the arguments are, it returns true and writes nothing that was there. -/
import Derived.Test.YtolifgjkejhlhaaQLaw
import Derived.OpenShut
import Derived.BigQuiet
import Derived.Test.YtolifgjkejhlhaaMinMax
import Derived.Test.YtolifgjkejhlhaaBlk
set_option linter.unusedVariables false
set_option linter.unusedSimpArgs false
namespace Go.Proofs.Ytolifgjkejhlhaa
open Go.RowKit

open Go Go.Sort
attribute [local go_sem] opLow opUpon
theorem fit_is (lo hi most : Int) (v : Value) (h : (-1099511627776 ≤ lo ∧ lo < hi ∧ hi ≤ 1099511627776 ∧ 0 ≤ most) ∧ fitV lo hi (fk lo hi most) = v) (w : World) :
    Calls Try.prog 44 #[.int .i64 lo, .int .i64 hi, .int .i64 most] w fun e w' => e = .returned v ∧ Below w.heap.size w w' := by
  obtain ⟨⟨h1, h2, h3, h4⟩, rfl⟩ := h; exact fit_any lo hi most h1 h2 h3 h4 w
theorem fits_cases (L R M : Int) (h1 : -1099511627776 ≤ L) (h2 : L < R) (h3 : R ≤ 1099511627776) (h4 : 0 ≤ M) :
    (∃ far, M < far ∧ Hid ((-1099511627776 ≤ L ∧ L < R ∧ R ≤ 1099511627776 ∧ 0 ≤ M) ∧ fitV L R (fk L R M) = .tuple #[G 0 0 0, .int .i64 6]) ∧ Hid (GV L R 32 ∧ qe L R 32 = far)) ∨
    (∃ far kb one, (1 ≤ kb ∧ kb ≤ 32) ∧ far ≤ M ∧ one ≤ M ∧ Hid ((-1099511627776 ≤ L ∧ L < R ∧ R ≤ 1099511627776 ∧ 0 ≤ M) ∧ fitV L R (fk L R M) = .tuple #[G L R kb, .int .i64 0]) ∧ Hid (GV L R 32 ∧ qe L R 32 = far) ∧ Hid (GV L R kb ∧ qe L R kb = one) ∧ Hid (GV L R kb) ∧
      (kb = 1 ∨ (1 < kb ∧ ∃ two, M < two ∧ Hid (GV L R (kb - 1) ∧ qe L R (kb - 1) = two)))) := by
  have g : ∀ b : Int, 1 ≤ b → b ≤ 32 → GV L R b := fun b a c => ⟨h1, h2, h3, a, c⟩
  have a := fk_le L R M
  have b := fk_yes L R M
  have c := fk_no L R M
  by_cases hk : fk L R M = 32
  · refine .inl ⟨_, ?_, Lib.hid ⟨⟨h1, h2, h3, h4⟩, ?_⟩, Lib.hid ⟨g 32 (by decide) (by decide), rfl⟩⟩
    · have := c 31 (by omega)
      unfold fits at this
      rw [decide_eq_false_iff_not] at this
      exact Int.not_le.1 this
    · unfold fitV; rw [if_pos hk]
  · have b := b (by omega)
    refine .inr ⟨_, (fk L R M : Int) + 1, _, ⟨by omega, by omega⟩, ?_, ?_, Lib.hid ⟨⟨h1, h2, h3, h4⟩, ?_⟩, Lib.hid ⟨g 32 (by decide) (by decide), rfl⟩, Lib.hid ⟨g _ (by omega) (by omega), rfl⟩, Lib.hid (g _ (by omega) (by omega)), ?_⟩
    · unfold fits at b
      rw [decide_eq_true_iff] at b
      exact Int.le_trans (qe_anti L R _ 32 h2 (by omega) (by omega) (by omega)) b
    · unfold fits at b
      rw [decide_eq_true_iff] at b
      exact b
    · unfold fitV; rw [if_neg hk]
    · by_cases h0 : fk L R M = 0
      · exact .inl (by omega)
      · refine .inr ⟨by omega, _, ?_, Lib.hid ⟨g _ (by omega) (by omega), rfl⟩⟩
        have := c (fk L R M - 1) (by omega)
        unfold fits at this
        rw [decide_eq_false_iff_not] at this
        rw [show ((fk L R M - 1 : Nat) : Int) + 1 = (fk L R M : Int) + 1 - 1 by omega] at this
        exact Int.not_le.1 this

set_option maxRecDepth 100000 in
set_option maxHeartbeats 8000000 in
theorem walk_QuantFits (a0 a1 a2 : Int) (w0 : (Lit.int .i64 a0).wf = true) (w1 : (Lit.int .u64 a1).wf = true) (w2 : (Lit.int .i64 a2).wf = true) (w : World) :
    Calls Try.prog 13 #[.int .i64 a0, .int .u64 a1, .int .i64 a2] w fun e w' => e = .returned (.bool true) ∧ Below w.heap.size w w' := by
  have w0 := bounds_i64 w0
  have w1 := bounds_u64 w1
  have w2 := bounds_i64 w2
  have hG := GV_grid a0 a1 31 (by decide)
  obtain ⟨L, hL⟩ : ∃ L, gl a0 = L := ⟨_, rfl⟩
  obtain ⟨R, hR⟩ : ∃ R, gl a0 + gw a1 = R := ⟨_, rfl⟩
  have hB : gb 31 = 32 := by decide
  rw [hL, hB] at hG
  rw [← hL, hR, hL] at hG
  have H0 := Lib.hid (show ((-9223372036854775808 ≤ a0 ∧ a0 ≤ 9223372036854775807) ∧ (0 ≤ a1 ∧ a1 ≤ 18446744073709551615) ∧ 0 ≤ (31 : Int) ∧ (31 : Int) ≤ 255) ∧ gl a0 = L ∧ gl a0 + gw a1 = R ∧ gb 31 = 32 from ⟨⟨w0, w1, by decide, by decide⟩, hL, hR, hB⟩)
  clear hL hR hB w0 w1
  obtain ⟨l1, l2, l3, -⟩ := hG
  obtain ⟨m1, m2⟩ := w2
  obtain ⟨M, hM⟩ : ∃ M, (if a2 < 0 then -(a2 + 1) else a2) = M := ⟨_, rfl⟩
  have hM0 : 0 ≤ M ∧ M ≤ 9223372036854775807 := by rw [← hM]; split <;> omega
  obtain ⟨M1, M2⟩ := hM0
  have HC := fits_cases L R M l1 l2 l3 M1
  by_cases hneg : a2 < 0
  · have hm : -(a2 + 1) = M := by rw [if_pos hneg] at hM; exact hM
    clear hM
    rcases HC with ⟨far, hf, HF, HE⟩ | ⟨far, kb, one, ⟨k1, k2⟩, hf, ho, HF, HE, H1, HV, rfl | ⟨hk, two, ht, H2⟩⟩
    · skip
      go_enter Try.func13, Try.ntmps13
      go_wp2_with fail
      with_reducible refine (grid_val _ _ _ _ _ _ H0.out _).mono ?_
      rintro e W1 ⟨rfl, hb⟩
      obtain ⟨hB', hS'⟩ := below_c (w := w) hb (by (first | (go_grown; done) | (repeat (first | assumption | (refine Below.setCell ?_ (by first | assumption | (simp; omega) | omega) _) | (refine Below.alloc ?_ (by assumption) _)))))
      clear hb
      have hB := hB'; have hS := hS'; clear hB' hS' 
      go_wp2_with fail
      with_reducible refine (fit_is _ _ _ _ HF.out _).mono ?_
      rintro e W2 ⟨rfl, hb⟩
      have B'_g : Bk W2 (W1.heap.size) #[.int .i64 L, .int .i64 R, .int .i64 32] 44 := Bk.below (by (repeat (first | with_reducible assumption | ((with_reducible refine Bk.at_ ?_); first | rfl | (simp; done)) | with_reducible apply Bk.alloc))) hb
      obtain ⟨hB', hS'⟩ := below_c (w := w) hb (by (first | (go_grown; done) | (repeat (first | assumption | (refine Below.setCell ?_ (by first | assumption | (simp; omega) | omega) _) | (refine Below.alloc ?_ (by assumption) _)))))
      clear hb hB hS
      have B_g := B'_g
      have hB := hB'; have hS := hS'; clear hB' hS' B'_g
      have c_g_0 := B_g.cell (v := .int .i64 L) 0 rfl
      have c_g_1 := B_g.cell (v := .int .i64 R) 1 rfl
      have c_g_2 := B_g.cell (v := .int .i64 32) 2 rfl
      have lt_g := B_g.lt
      go_wp2_with fail
      with_reducible refine (error_is _ _ _ _ HE.out _).mono ?_
      rintro e W3 ⟨rfl, hb⟩
      clear c_g_0 c_g_1 c_g_2 lt_g
      have o_h : w.heap.size ≤ W2.heap.size := Nat.le_trans hS (Nat.le_add_right _ 0)
      have n_g_h : W1.heap.size ≠ W2.heap.size := B_g.apart 0
      have B'_g : Bk W3 (W1.heap.size) #[.int .i64 L, .int .i64 R, .int .i64 32] 44 := Bk.below (by (repeat (first | with_reducible assumption | ((with_reducible refine Bk.at_ ?_); first | rfl | (simp; done)) | with_reducible apply Bk.alloc))) hb
      have B'_h : Bk W3 (W2.heap.size) #[.int .i64 0, .int .i64 0, .int .i64 0] 44 := Bk.below (by (repeat (first | with_reducible assumption | ((with_reducible refine Bk.at_ ?_); first | rfl | (simp; done)) | with_reducible apply Bk.alloc))) hb
      obtain ⟨hB', hS'⟩ := below_c (w := w) hb (by (first | (go_grown; done) | (repeat (first | assumption | (refine Below.setCell ?_ (by first | assumption | (simp; omega) | omega) _) | (refine Below.alloc ?_ (by assumption) _)))))
      clear hb hB hS B_g
      have B_g := B'_g
      have B_h := B'_h
      have hB := hB'; have hS := hS'; clear hB' hS' B'_g B'_h
      have c_h_0 := B_h.cell (v := .int .i64 0) 0 rfl
      have c_h_1 := B_h.cell (v := .int .i64 0) 1 rfl
      have c_h_2 := B_h.cell (v := .int .i64 0) 2 rfl
      have lt_h := B_h.lt
      have c_g_0 := B_g.cell (v := .int .i64 L) 0 rfl
      have c_g_1 := B_g.cell (v := .int .i64 R) 1 rfl
      have c_g_2 := B_g.cell (v := .int .i64 32) 2 rfl
      have lt_g := B_g.lt
      go_wp2_with fail
      with_reducible refine (awake21 _).mono ?_
      rintro e W4 ⟨rfl, hb⟩
      clear c_h_0 c_h_1 c_h_2 lt_h c_g_0 c_g_1 c_g_2 lt_g
      have B'_g : Bk W4 (W1.heap.size) #[.int .i64 L, .int .i64 R, .int .i64 32] 44 := Bk.below (by (repeat (first | with_reducible assumption | ((with_reducible refine Bk.at_ ?_); first | rfl | (simp; done)) | with_reducible apply Bk.alloc))) hb
      have B'_h : Bk W4 (W2.heap.size) #[.int .i64 0, .int .i64 0, .int .i64 0] 44 := Bk.below (by (repeat (first | with_reducible assumption | ((with_reducible refine Bk.at_ ?_); first | rfl | (simp; done)) | with_reducible apply Bk.alloc))) hb
      obtain ⟨hB', hS'⟩ := below_c (w := w) hb (by (first | (go_grown; done) | (repeat (first | assumption | (refine Below.setCell ?_ (by first | assumption | (simp; omega) | omega) _) | (refine Below.alloc ?_ (by assumption) _)))))
      clear hb hB hS B_g B_h
      have B_g := B'_g
      have B_h := B'_h
      have hB := hB'; have hS := hS'; clear hB' hS' B'_g B'_h
      go_wp2
      go_returns
      exact ⟨rfl, by (first | (go_grown; done) | (repeat (first | assumption | (refine Below.setCell ?_ (by first | assumption | (simp; omega) | omega) _) | (refine Below.alloc ?_ (by assumption) _))))⟩
    · skip
      go_enter Try.func13, Try.ntmps13
      go_wp2_with fail
      with_reducible refine (grid_val _ _ _ _ _ _ H0.out _).mono ?_
      rintro e W1 ⟨rfl, hb⟩
      obtain ⟨hB', hS'⟩ := below_c (w := w) hb (by (first | (go_grown; done) | (repeat (first | assumption | (refine Below.setCell ?_ (by first | assumption | (simp; omega) | omega) _) | (refine Below.alloc ?_ (by assumption) _)))))
      clear hb
      have hB := hB'; have hS := hS'; clear hB' hS' 
      go_wp2_with fail
      with_reducible refine (fit_is _ _ _ _ HF.out _).mono ?_
      rintro e W2 ⟨rfl, hb⟩
      have B'_g : Bk W2 (W1.heap.size) #[.int .i64 L, .int .i64 R, .int .i64 32] 44 := Bk.below (by (repeat (first | with_reducible assumption | ((with_reducible refine Bk.at_ ?_); first | rfl | (simp; done)) | with_reducible apply Bk.alloc))) hb
      obtain ⟨hB', hS'⟩ := below_c (w := w) hb (by (first | (go_grown; done) | (repeat (first | assumption | (refine Below.setCell ?_ (by first | assumption | (simp; omega) | omega) _) | (refine Below.alloc ?_ (by assumption) _)))))
      clear hb hB hS
      have B_g := B'_g
      have hB := hB'; have hS := hS'; clear hB' hS' B'_g
      have c_g_0 := B_g.cell (v := .int .i64 L) 0 rfl
      have c_g_1 := B_g.cell (v := .int .i64 R) 1 rfl
      have c_g_2 := B_g.cell (v := .int .i64 32) 2 rfl
      have lt_g := B_g.lt
      go_wp2_with fail
      with_reducible refine (error_is _ _ _ _ HE.out _).mono ?_
      rintro e W3 ⟨rfl, hb⟩
      clear c_g_0 c_g_1 c_g_2 lt_g
      have o_h : w.heap.size ≤ W2.heap.size := Nat.le_trans hS (Nat.le_add_right _ 0)
      have n_g_h : W1.heap.size ≠ W2.heap.size := B_g.apart 0
      have B'_g : Bk W3 (W1.heap.size) #[.int .i64 L, .int .i64 R, .int .i64 32] 44 := Bk.below (by (repeat (first | with_reducible assumption | ((with_reducible refine Bk.at_ ?_); first | rfl | (simp; done)) | with_reducible apply Bk.alloc))) hb
      have B'_h : Bk W3 (W2.heap.size) #[.int .i64 L, .int .i64 R, .int .i64 1] 44 := Bk.below (by (repeat (first | with_reducible assumption | ((with_reducible refine Bk.at_ ?_); first | rfl | (simp; done)) | with_reducible apply Bk.alloc))) hb
      obtain ⟨hB', hS'⟩ := below_c (w := w) hb (by (first | (go_grown; done) | (repeat (first | assumption | (refine Below.setCell ?_ (by first | assumption | (simp; omega) | omega) _) | (refine Below.alloc ?_ (by assumption) _)))))
      clear hb hB hS B_g
      have B_g := B'_g
      have B_h := B'_h
      have hB := hB'; have hS := hS'; clear hB' hS' B'_g B'_h
      have c_h_0 := B_h.cell (v := .int .i64 L) 0 rfl
      have c_h_1 := B_h.cell (v := .int .i64 R) 1 rfl
      have c_h_2 := B_h.cell (v := .int .i64 1) 2 rfl
      have lt_h := B_h.lt
      have c_g_0 := B_g.cell (v := .int .i64 L) 0 rfl
      have c_g_1 := B_g.cell (v := .int .i64 R) 1 rfl
      have c_g_2 := B_g.cell (v := .int .i64 32) 2 rfl
      have lt_g := B_g.lt
      go_wp2_with fail
      with_reducible refine (error_is _ _ _ _ H1.out _).mono ?_
      rintro e W4 ⟨rfl, hb⟩
      clear c_h_0 c_h_1 c_h_2 lt_h c_g_0 c_g_1 c_g_2 lt_g
      have B'_g : Bk W4 (W1.heap.size) #[.int .i64 L, .int .i64 R, .int .i64 32] 44 := Bk.below (by (repeat (first | with_reducible assumption | ((with_reducible refine Bk.at_ ?_); first | rfl | (simp; done)) | with_reducible apply Bk.alloc))) hb
      have B'_h : Bk W4 (W2.heap.size) #[.int .i64 L, .int .i64 R, .int .i64 1] 44 := Bk.below (by (repeat (first | with_reducible assumption | ((with_reducible refine Bk.at_ ?_); first | rfl | (simp; done)) | with_reducible apply Bk.alloc))) hb
      obtain ⟨hB', hS'⟩ := below_c (w := w) hb (by (first | (go_grown; done) | (repeat (first | assumption | (refine Below.setCell ?_ (by first | assumption | (simp; omega) | omega) _) | (refine Below.alloc ?_ (by assumption) _)))))
      clear hb hB hS B_g B_h
      have B_g := B'_g
      have B_h := B'_h
      have hB := hB'; have hS := hS'; clear hB' hS' B'_g B'_h
      have c_h_0 := B_h.cell (v := .int .i64 L) 0 rfl
      have c_h_1 := B_h.cell (v := .int .i64 R) 1 rfl
      have c_h_2 := B_h.cell (v := .int .i64 1) 2 rfl
      have lt_h := B_h.lt
      have c_g_0 := B_g.cell (v := .int .i64 L) 0 rfl
      have c_g_1 := B_g.cell (v := .int .i64 R) 1 rfl
      have c_g_2 := B_g.cell (v := .int .i64 32) 2 rfl
      have lt_g := B_g.lt
      go_wp2_with fail
      with_reducible refine (valid_yes _ _ _ HV.out _).mono ?_
      rintro e W5 ⟨rfl, hb⟩
      clear c_h_0 c_h_1 c_h_2 lt_h c_g_0 c_g_1 c_g_2 lt_g
      have B'_g : Bk W5 (W1.heap.size) #[.int .i64 L, .int .i64 R, .int .i64 32] 44 := Bk.below (by (repeat (first | with_reducible assumption | ((with_reducible refine Bk.at_ ?_); first | rfl | (simp; done)) | with_reducible apply Bk.alloc))) hb
      have B'_h : Bk W5 (W2.heap.size) #[.int .i64 L, .int .i64 R, .int .i64 1] 44 := Bk.below (by (repeat (first | with_reducible assumption | ((with_reducible refine Bk.at_ ?_); first | rfl | (simp; done)) | with_reducible apply Bk.alloc))) hb
      obtain ⟨hB', hS'⟩ := below_c (w := w) hb (by (first | (go_grown; done) | (repeat (first | assumption | (refine Below.setCell ?_ (by first | assumption | (simp; omega) | omega) _) | (refine Below.alloc ?_ (by assumption) _)))))
      clear hb hB hS B_g B_h
      have B_g := B'_g
      have B_h := B'_h
      have hB := hB'; have hS := hS'; clear hB' hS' B'_g B'_h
      have c_h_0 := B_h.cell (v := .int .i64 L) 0 rfl
      have c_h_1 := B_h.cell (v := .int .i64 R) 1 rfl
      have c_h_2 := B_h.cell (v := .int .i64 1) 2 rfl
      have lt_h := B_h.lt
      have f_h_0 := B_h.free 0
      have f_h_1 := B_h.free 1
      have f_h_2 := B_h.free 2
      go_wp2_with fail
      with_reducible refine (awake21 _).mono ?_
      rintro e W6 ⟨rfl, hb⟩
      clear c_h_0 c_h_1 c_h_2 lt_h f_h_0 f_h_1 f_h_2
      have B'_g : Bk W6 (W1.heap.size) #[.int .i64 L, .int .i64 R, .int .i64 32] 44 := Bk.below (by (repeat (first | with_reducible assumption | ((with_reducible refine Bk.at_ ?_); first | rfl | (simp; done)) | with_reducible apply Bk.alloc))) hb
      have B'_h : Bk W6 (W2.heap.size) #[.int .i64 L, .int .i64 R, .int .i64 1] 44 := Bk.below (by (repeat (first | with_reducible assumption | ((with_reducible refine Bk.at_ ?_); first | rfl | (simp; done)) | with_reducible apply Bk.alloc))) hb
      obtain ⟨hB', hS'⟩ := below_c (w := w) hb (by (first | (go_grown; done) | (repeat (first | assumption | (refine Below.setCell ?_ (by first | assumption | (simp; omega) | omega) _) | (refine Below.alloc ?_ (by assumption) _)))))
      clear hb hB hS B_g B_h
      have B_g := B'_g
      have B_h := B'_h
      have hB := hB'; have hS := hS'; clear hB' hS' B'_g B'_h
      go_wp2
      go_returns
      exact ⟨rfl, by (first | (go_grown; done) | (repeat (first | assumption | (refine Below.setCell ?_ (by first | assumption | (simp; omega) | omega) _) | (refine Below.alloc ?_ (by assumption) _))))⟩
    · skip
      go_enter Try.func13, Try.ntmps13
      go_wp2_with fail
      with_reducible refine (grid_val _ _ _ _ _ _ H0.out _).mono ?_
      rintro e W1 ⟨rfl, hb⟩
      obtain ⟨hB', hS'⟩ := below_c (w := w) hb (by (first | (go_grown; done) | (repeat (first | assumption | (refine Below.setCell ?_ (by first | assumption | (simp; omega) | omega) _) | (refine Below.alloc ?_ (by assumption) _)))))
      clear hb
      have hB := hB'; have hS := hS'; clear hB' hS' 
      go_wp2_with fail
      with_reducible refine (fit_is _ _ _ _ HF.out _).mono ?_
      rintro e W2 ⟨rfl, hb⟩
      have B'_g : Bk W2 (W1.heap.size) #[.int .i64 L, .int .i64 R, .int .i64 32] 44 := Bk.below (by (repeat (first | with_reducible assumption | ((with_reducible refine Bk.at_ ?_); first | rfl | (simp; done)) | with_reducible apply Bk.alloc))) hb
      obtain ⟨hB', hS'⟩ := below_c (w := w) hb (by (first | (go_grown; done) | (repeat (first | assumption | (refine Below.setCell ?_ (by first | assumption | (simp; omega) | omega) _) | (refine Below.alloc ?_ (by assumption) _)))))
      clear hb hB hS
      have B_g := B'_g
      have hB := hB'; have hS := hS'; clear hB' hS' B'_g
      have c_g_0 := B_g.cell (v := .int .i64 L) 0 rfl
      have c_g_1 := B_g.cell (v := .int .i64 R) 1 rfl
      have c_g_2 := B_g.cell (v := .int .i64 32) 2 rfl
      have lt_g := B_g.lt
      go_wp2_with fail
      with_reducible refine (error_is _ _ _ _ HE.out _).mono ?_
      rintro e W3 ⟨rfl, hb⟩
      clear c_g_0 c_g_1 c_g_2 lt_g
      have o_h : w.heap.size ≤ W2.heap.size := Nat.le_trans hS (Nat.le_add_right _ 0)
      have n_g_h : W1.heap.size ≠ W2.heap.size := B_g.apart 0
      have B'_g : Bk W3 (W1.heap.size) #[.int .i64 L, .int .i64 R, .int .i64 32] 44 := Bk.below (by (repeat (first | with_reducible assumption | ((with_reducible refine Bk.at_ ?_); first | rfl | (simp; done)) | with_reducible apply Bk.alloc))) hb
      have B'_h : Bk W3 (W2.heap.size) #[.int .i64 L, .int .i64 R, .int .i64 kb] 44 := Bk.below (by (repeat (first | with_reducible assumption | ((with_reducible refine Bk.at_ ?_); first | rfl | (simp; done)) | with_reducible apply Bk.alloc))) hb
      obtain ⟨hB', hS'⟩ := below_c (w := w) hb (by (first | (go_grown; done) | (repeat (first | assumption | (refine Below.setCell ?_ (by first | assumption | (simp; omega) | omega) _) | (refine Below.alloc ?_ (by assumption) _)))))
      clear hb hB hS B_g
      have B_g := B'_g
      have B_h := B'_h
      have hB := hB'; have hS := hS'; clear hB' hS' B'_g B'_h
      have c_h_0 := B_h.cell (v := .int .i64 L) 0 rfl
      have c_h_1 := B_h.cell (v := .int .i64 R) 1 rfl
      have c_h_2 := B_h.cell (v := .int .i64 kb) 2 rfl
      have lt_h := B_h.lt
      have c_g_0 := B_g.cell (v := .int .i64 L) 0 rfl
      have c_g_1 := B_g.cell (v := .int .i64 R) 1 rfl
      have c_g_2 := B_g.cell (v := .int .i64 32) 2 rfl
      have lt_g := B_g.lt
      go_wp2_with fail
      with_reducible refine (error_is _ _ _ _ H1.out _).mono ?_
      rintro e W4 ⟨rfl, hb⟩
      clear c_h_0 c_h_1 c_h_2 lt_h c_g_0 c_g_1 c_g_2 lt_g
      have B'_g : Bk W4 (W1.heap.size) #[.int .i64 L, .int .i64 R, .int .i64 32] 44 := Bk.below (by (repeat (first | with_reducible assumption | ((with_reducible refine Bk.at_ ?_); first | rfl | (simp; done)) | with_reducible apply Bk.alloc))) hb
      have B'_h : Bk W4 (W2.heap.size) #[.int .i64 L, .int .i64 R, .int .i64 kb] 44 := Bk.below (by (repeat (first | with_reducible assumption | ((with_reducible refine Bk.at_ ?_); first | rfl | (simp; done)) | with_reducible apply Bk.alloc))) hb
      obtain ⟨hB', hS'⟩ := below_c (w := w) hb (by (first | (go_grown; done) | (repeat (first | assumption | (refine Below.setCell ?_ (by first | assumption | (simp; omega) | omega) _) | (refine Below.alloc ?_ (by assumption) _)))))
      clear hb hB hS B_g B_h
      have B_g := B'_g
      have B_h := B'_h
      have hB := hB'; have hS := hS'; clear hB' hS' B'_g B'_h
      have c_h_0 := B_h.cell (v := .int .i64 L) 0 rfl
      have c_h_1 := B_h.cell (v := .int .i64 R) 1 rfl
      have c_h_2 := B_h.cell (v := .int .i64 kb) 2 rfl
      have lt_h := B_h.lt
      have c_g_0 := B_g.cell (v := .int .i64 L) 0 rfl
      have c_g_1 := B_g.cell (v := .int .i64 R) 1 rfl
      have c_g_2 := B_g.cell (v := .int .i64 32) 2 rfl
      have lt_g := B_g.lt
      go_wp2_with fail
      with_reducible refine (valid_yes _ _ _ HV.out _).mono ?_
      rintro e W5 ⟨rfl, hb⟩
      clear c_h_0 c_h_1 c_h_2 lt_h c_g_0 c_g_1 c_g_2 lt_g
      have B'_g : Bk W5 (W1.heap.size) #[.int .i64 L, .int .i64 R, .int .i64 32] 44 := Bk.below (by (repeat (first | with_reducible assumption | ((with_reducible refine Bk.at_ ?_); first | rfl | (simp; done)) | with_reducible apply Bk.alloc))) hb
      have B'_h : Bk W5 (W2.heap.size) #[.int .i64 L, .int .i64 R, .int .i64 kb] 44 := Bk.below (by (repeat (first | with_reducible assumption | ((with_reducible refine Bk.at_ ?_); first | rfl | (simp; done)) | with_reducible apply Bk.alloc))) hb
      obtain ⟨hB', hS'⟩ := below_c (w := w) hb (by (first | (go_grown; done) | (repeat (first | assumption | (refine Below.setCell ?_ (by first | assumption | (simp; omega) | omega) _) | (refine Below.alloc ?_ (by assumption) _)))))
      clear hb hB hS B_g B_h
      have B_g := B'_g
      have B_h := B'_h
      have hB := hB'; have hS := hS'; clear hB' hS' B'_g B'_h
      have c_h_0 := B_h.cell (v := .int .i64 L) 0 rfl
      have c_h_1 := B_h.cell (v := .int .i64 R) 1 rfl
      have c_h_2 := B_h.cell (v := .int .i64 kb) 2 rfl
      have lt_h := B_h.lt
      have f_h_0 := B_h.free 0
      have f_h_1 := B_h.free 1
      have f_h_2 := B_h.free 2
      go_wp2_with fail
      with_reducible refine (error_is _ _ _ _ H2.out _).mono ?_
      rintro e W6 ⟨rfl, hb⟩
      clear c_h_0 c_h_1 c_h_2 lt_h f_h_0 f_h_1 f_h_2
      have B'_g : Bk W6 (W1.heap.size) #[.int .i64 L, .int .i64 R, .int .i64 32] 44 := Bk.below ((Bk.far B_g (by first | assumption | (simp; done) | (exact Ne.symm (by assumption)) | (simp; omega)) _)) hb
      have B'_h : Bk W6 (W2.heap.size) #[.int .i64 L, .int .i64 R, .int .i64 (kb - 1)] 44 := Bk.below ((Bk.put B_h 2 _)) hb
      obtain ⟨hB', hS'⟩ := below_c (w := w) hb ((Below.setCell (p := ⟨W2.heap.size, 2, none⟩) hB o_h _))
      clear hb hB hS B_g B_h
      have B_g := B'_g
      have B_h := B'_h
      have hB := hB'; have hS := hS'; clear hB' hS' B'_g B'_h
      go_wp2_with fail
      with_reducible refine (awake21 _).mono ?_
      rintro e W7 ⟨rfl, hb⟩
      have B'_g : Bk W7 (W1.heap.size) #[.int .i64 L, .int .i64 R, .int .i64 32] 44 := Bk.below (by (repeat (first | with_reducible assumption | ((with_reducible refine Bk.at_ ?_); first | rfl | (simp; done)) | with_reducible apply Bk.alloc))) hb
      have B'_h : Bk W7 (W2.heap.size) #[.int .i64 L, .int .i64 R, .int .i64 (kb - 1)] 44 := Bk.below (by (repeat (first | with_reducible assumption | ((with_reducible refine Bk.at_ ?_); first | rfl | (simp; done)) | with_reducible apply Bk.alloc))) hb
      obtain ⟨hB', hS'⟩ := below_c (w := w) hb (by (first | (go_grown; done) | (repeat (first | assumption | (refine Below.setCell ?_ (by first | assumption | (simp; omega) | omega) _) | (refine Below.alloc ?_ (by assumption) _)))))
      clear hb hB hS B_g B_h
      have B_g := B'_g
      have B_h := B'_h
      have hB := hB'; have hS := hS'; clear hB' hS' B'_g B'_h
      go_wp2
      go_returns
      exact ⟨rfl, by (first | (go_grown; done) | (repeat (first | assumption | (refine Below.setCell ?_ (by first | assumption | (simp; omega) | omega) _) | (refine Below.alloc ?_ (by assumption) _))))⟩
  · have hm : a2 = M := by rw [if_neg hneg] at hM; exact hM
    clear hM
    subst hm
    rcases HC with ⟨far, hf, HF, HE⟩ | ⟨far, kb, one, ⟨k1, k2⟩, hf, ho, HF, HE, H1, HV, rfl | ⟨hk, two, ht, H2⟩⟩
    · skip
      go_enter Try.func13, Try.ntmps13
      go_wp2_with fail
      with_reducible refine (grid_val _ _ _ _ _ _ H0.out _).mono ?_
      rintro e W1 ⟨rfl, hb⟩
      obtain ⟨hB', hS'⟩ := below_c (w := w) hb (by (first | (go_grown; done) | (repeat (first | assumption | (refine Below.setCell ?_ (by first | assumption | (simp; omega) | omega) _) | (refine Below.alloc ?_ (by assumption) _)))))
      clear hb
      have hB := hB'; have hS := hS'; clear hB' hS' 
      go_wp2_with fail
      with_reducible refine (fit_is _ _ _ _ HF.out _).mono ?_
      rintro e W2 ⟨rfl, hb⟩
      have B'_g : Bk W2 (W1.heap.size) #[.int .i64 L, .int .i64 R, .int .i64 32] 44 := Bk.below (by (repeat (first | with_reducible assumption | ((with_reducible refine Bk.at_ ?_); first | rfl | (simp; done)) | with_reducible apply Bk.alloc))) hb
      obtain ⟨hB', hS'⟩ := below_c (w := w) hb (by (first | (go_grown; done) | (repeat (first | assumption | (refine Below.setCell ?_ (by first | assumption | (simp; omega) | omega) _) | (refine Below.alloc ?_ (by assumption) _)))))
      clear hb hB hS
      have B_g := B'_g
      have hB := hB'; have hS := hS'; clear hB' hS' B'_g
      have c_g_0 := B_g.cell (v := .int .i64 L) 0 rfl
      have c_g_1 := B_g.cell (v := .int .i64 R) 1 rfl
      have c_g_2 := B_g.cell (v := .int .i64 32) 2 rfl
      have lt_g := B_g.lt
      go_wp2_with fail
      with_reducible refine (error_is _ _ _ _ HE.out _).mono ?_
      rintro e W3 ⟨rfl, hb⟩
      clear c_g_0 c_g_1 c_g_2 lt_g
      have o_h : w.heap.size ≤ W2.heap.size := Nat.le_trans hS (Nat.le_add_right _ 0)
      have n_g_h : W1.heap.size ≠ W2.heap.size := B_g.apart 0
      have B'_g : Bk W3 (W1.heap.size) #[.int .i64 L, .int .i64 R, .int .i64 32] 44 := Bk.below (by (repeat (first | with_reducible assumption | ((with_reducible refine Bk.at_ ?_); first | rfl | (simp; done)) | with_reducible apply Bk.alloc))) hb
      have B'_h : Bk W3 (W2.heap.size) #[.int .i64 0, .int .i64 0, .int .i64 0] 44 := Bk.below (by (repeat (first | with_reducible assumption | ((with_reducible refine Bk.at_ ?_); first | rfl | (simp; done)) | with_reducible apply Bk.alloc))) hb
      obtain ⟨hB', hS'⟩ := below_c (w := w) hb (by (first | (go_grown; done) | (repeat (first | assumption | (refine Below.setCell ?_ (by first | assumption | (simp; omega) | omega) _) | (refine Below.alloc ?_ (by assumption) _)))))
      clear hb hB hS B_g
      have B_g := B'_g
      have B_h := B'_h
      have hB := hB'; have hS := hS'; clear hB' hS' B'_g B'_h
      have c_h_0 := B_h.cell (v := .int .i64 0) 0 rfl
      have c_h_1 := B_h.cell (v := .int .i64 0) 1 rfl
      have c_h_2 := B_h.cell (v := .int .i64 0) 2 rfl
      have lt_h := B_h.lt
      have c_g_0 := B_g.cell (v := .int .i64 L) 0 rfl
      have c_g_1 := B_g.cell (v := .int .i64 R) 1 rfl
      have c_g_2 := B_g.cell (v := .int .i64 32) 2 rfl
      have lt_g := B_g.lt
      go_wp2_with fail
      with_reducible refine (awake21 _).mono ?_
      rintro e W4 ⟨rfl, hb⟩
      clear c_h_0 c_h_1 c_h_2 lt_h c_g_0 c_g_1 c_g_2 lt_g
      have B'_g : Bk W4 (W1.heap.size) #[.int .i64 L, .int .i64 R, .int .i64 32] 44 := Bk.below (by (repeat (first | with_reducible assumption | ((with_reducible refine Bk.at_ ?_); first | rfl | (simp; done)) | with_reducible apply Bk.alloc))) hb
      have B'_h : Bk W4 (W2.heap.size) #[.int .i64 0, .int .i64 0, .int .i64 0] 44 := Bk.below (by (repeat (first | with_reducible assumption | ((with_reducible refine Bk.at_ ?_); first | rfl | (simp; done)) | with_reducible apply Bk.alloc))) hb
      obtain ⟨hB', hS'⟩ := below_c (w := w) hb (by (first | (go_grown; done) | (repeat (first | assumption | (refine Below.setCell ?_ (by first | assumption | (simp; omega) | omega) _) | (refine Below.alloc ?_ (by assumption) _)))))
      clear hb hB hS B_g B_h
      have B_g := B'_g
      have B_h := B'_h
      have hB := hB'; have hS := hS'; clear hB' hS' B'_g B'_h
      go_wp2
      go_returns
      exact ⟨rfl, by (first | (go_grown; done) | (repeat (first | assumption | (refine Below.setCell ?_ (by first | assumption | (simp; omega) | omega) _) | (refine Below.alloc ?_ (by assumption) _))))⟩
    · skip
      go_enter Try.func13, Try.ntmps13
      go_wp2_with fail
      with_reducible refine (grid_val _ _ _ _ _ _ H0.out _).mono ?_
      rintro e W1 ⟨rfl, hb⟩
      obtain ⟨hB', hS'⟩ := below_c (w := w) hb (by (first | (go_grown; done) | (repeat (first | assumption | (refine Below.setCell ?_ (by first | assumption | (simp; omega) | omega) _) | (refine Below.alloc ?_ (by assumption) _)))))
      clear hb
      have hB := hB'; have hS := hS'; clear hB' hS' 
      go_wp2_with fail
      with_reducible refine (fit_is _ _ _ _ HF.out _).mono ?_
      rintro e W2 ⟨rfl, hb⟩
      have B'_g : Bk W2 (W1.heap.size) #[.int .i64 L, .int .i64 R, .int .i64 32] 44 := Bk.below (by (repeat (first | with_reducible assumption | ((with_reducible refine Bk.at_ ?_); first | rfl | (simp; done)) | with_reducible apply Bk.alloc))) hb
      obtain ⟨hB', hS'⟩ := below_c (w := w) hb (by (first | (go_grown; done) | (repeat (first | assumption | (refine Below.setCell ?_ (by first | assumption | (simp; omega) | omega) _) | (refine Below.alloc ?_ (by assumption) _)))))
      clear hb hB hS
      have B_g := B'_g
      have hB := hB'; have hS := hS'; clear hB' hS' B'_g
      have c_g_0 := B_g.cell (v := .int .i64 L) 0 rfl
      have c_g_1 := B_g.cell (v := .int .i64 R) 1 rfl
      have c_g_2 := B_g.cell (v := .int .i64 32) 2 rfl
      have lt_g := B_g.lt
      go_wp2_with fail
      with_reducible refine (error_is _ _ _ _ HE.out _).mono ?_
      rintro e W3 ⟨rfl, hb⟩
      clear c_g_0 c_g_1 c_g_2 lt_g
      have o_h : w.heap.size ≤ W2.heap.size := Nat.le_trans hS (Nat.le_add_right _ 0)
      have n_g_h : W1.heap.size ≠ W2.heap.size := B_g.apart 0
      have B'_g : Bk W3 (W1.heap.size) #[.int .i64 L, .int .i64 R, .int .i64 32] 44 := Bk.below (by (repeat (first | with_reducible assumption | ((with_reducible refine Bk.at_ ?_); first | rfl | (simp; done)) | with_reducible apply Bk.alloc))) hb
      have B'_h : Bk W3 (W2.heap.size) #[.int .i64 L, .int .i64 R, .int .i64 1] 44 := Bk.below (by (repeat (first | with_reducible assumption | ((with_reducible refine Bk.at_ ?_); first | rfl | (simp; done)) | with_reducible apply Bk.alloc))) hb
      obtain ⟨hB', hS'⟩ := below_c (w := w) hb (by (first | (go_grown; done) | (repeat (first | assumption | (refine Below.setCell ?_ (by first | assumption | (simp; omega) | omega) _) | (refine Below.alloc ?_ (by assumption) _)))))
      clear hb hB hS B_g
      have B_g := B'_g
      have B_h := B'_h
      have hB := hB'; have hS := hS'; clear hB' hS' B'_g B'_h
      have c_h_0 := B_h.cell (v := .int .i64 L) 0 rfl
      have c_h_1 := B_h.cell (v := .int .i64 R) 1 rfl
      have c_h_2 := B_h.cell (v := .int .i64 1) 2 rfl
      have lt_h := B_h.lt
      have c_g_0 := B_g.cell (v := .int .i64 L) 0 rfl
      have c_g_1 := B_g.cell (v := .int .i64 R) 1 rfl
      have c_g_2 := B_g.cell (v := .int .i64 32) 2 rfl
      have lt_g := B_g.lt
      go_wp2_with fail
      with_reducible refine (error_is _ _ _ _ H1.out _).mono ?_
      rintro e W4 ⟨rfl, hb⟩
      clear c_h_0 c_h_1 c_h_2 lt_h c_g_0 c_g_1 c_g_2 lt_g
      have B'_g : Bk W4 (W1.heap.size) #[.int .i64 L, .int .i64 R, .int .i64 32] 44 := Bk.below (by (repeat (first | with_reducible assumption | ((with_reducible refine Bk.at_ ?_); first | rfl | (simp; done)) | with_reducible apply Bk.alloc))) hb
      have B'_h : Bk W4 (W2.heap.size) #[.int .i64 L, .int .i64 R, .int .i64 1] 44 := Bk.below (by (repeat (first | with_reducible assumption | ((with_reducible refine Bk.at_ ?_); first | rfl | (simp; done)) | with_reducible apply Bk.alloc))) hb
      obtain ⟨hB', hS'⟩ := below_c (w := w) hb (by (first | (go_grown; done) | (repeat (first | assumption | (refine Below.setCell ?_ (by first | assumption | (simp; omega) | omega) _) | (refine Below.alloc ?_ (by assumption) _)))))
      clear hb hB hS B_g B_h
      have B_g := B'_g
      have B_h := B'_h
      have hB := hB'; have hS := hS'; clear hB' hS' B'_g B'_h
      have c_h_0 := B_h.cell (v := .int .i64 L) 0 rfl
      have c_h_1 := B_h.cell (v := .int .i64 R) 1 rfl
      have c_h_2 := B_h.cell (v := .int .i64 1) 2 rfl
      have lt_h := B_h.lt
      have c_g_0 := B_g.cell (v := .int .i64 L) 0 rfl
      have c_g_1 := B_g.cell (v := .int .i64 R) 1 rfl
      have c_g_2 := B_g.cell (v := .int .i64 32) 2 rfl
      have lt_g := B_g.lt
      go_wp2_with fail
      with_reducible refine (valid_yes _ _ _ HV.out _).mono ?_
      rintro e W5 ⟨rfl, hb⟩
      clear c_h_0 c_h_1 c_h_2 lt_h c_g_0 c_g_1 c_g_2 lt_g
      have B'_g : Bk W5 (W1.heap.size) #[.int .i64 L, .int .i64 R, .int .i64 32] 44 := Bk.below (by (repeat (first | with_reducible assumption | ((with_reducible refine Bk.at_ ?_); first | rfl | (simp; done)) | with_reducible apply Bk.alloc))) hb
      have B'_h : Bk W5 (W2.heap.size) #[.int .i64 L, .int .i64 R, .int .i64 1] 44 := Bk.below (by (repeat (first | with_reducible assumption | ((with_reducible refine Bk.at_ ?_); first | rfl | (simp; done)) | with_reducible apply Bk.alloc))) hb
      obtain ⟨hB', hS'⟩ := below_c (w := w) hb (by (first | (go_grown; done) | (repeat (first | assumption | (refine Below.setCell ?_ (by first | assumption | (simp; omega) | omega) _) | (refine Below.alloc ?_ (by assumption) _)))))
      clear hb hB hS B_g B_h
      have B_g := B'_g
      have B_h := B'_h
      have hB := hB'; have hS := hS'; clear hB' hS' B'_g B'_h
      have c_h_0 := B_h.cell (v := .int .i64 L) 0 rfl
      have c_h_1 := B_h.cell (v := .int .i64 R) 1 rfl
      have c_h_2 := B_h.cell (v := .int .i64 1) 2 rfl
      have lt_h := B_h.lt
      have f_h_0 := B_h.free 0
      have f_h_1 := B_h.free 1
      have f_h_2 := B_h.free 2
      go_wp2_with fail
      with_reducible refine (awake21 _).mono ?_
      rintro e W6 ⟨rfl, hb⟩
      clear c_h_0 c_h_1 c_h_2 lt_h f_h_0 f_h_1 f_h_2
      have B'_g : Bk W6 (W1.heap.size) #[.int .i64 L, .int .i64 R, .int .i64 32] 44 := Bk.below (by (repeat (first | with_reducible assumption | ((with_reducible refine Bk.at_ ?_); first | rfl | (simp; done)) | with_reducible apply Bk.alloc))) hb
      have B'_h : Bk W6 (W2.heap.size) #[.int .i64 L, .int .i64 R, .int .i64 1] 44 := Bk.below (by (repeat (first | with_reducible assumption | ((with_reducible refine Bk.at_ ?_); first | rfl | (simp; done)) | with_reducible apply Bk.alloc))) hb
      obtain ⟨hB', hS'⟩ := below_c (w := w) hb (by (first | (go_grown; done) | (repeat (first | assumption | (refine Below.setCell ?_ (by first | assumption | (simp; omega) | omega) _) | (refine Below.alloc ?_ (by assumption) _)))))
      clear hb hB hS B_g B_h
      have B_g := B'_g
      have B_h := B'_h
      have hB := hB'; have hS := hS'; clear hB' hS' B'_g B'_h
      go_wp2
      go_returns
      exact ⟨rfl, by (first | (go_grown; done) | (repeat (first | assumption | (refine Below.setCell ?_ (by first | assumption | (simp; omega) | omega) _) | (refine Below.alloc ?_ (by assumption) _))))⟩
    · skip
      go_enter Try.func13, Try.ntmps13
      go_wp2_with fail
      with_reducible refine (grid_val _ _ _ _ _ _ H0.out _).mono ?_
      rintro e W1 ⟨rfl, hb⟩
      obtain ⟨hB', hS'⟩ := below_c (w := w) hb (by (first | (go_grown; done) | (repeat (first | assumption | (refine Below.setCell ?_ (by first | assumption | (simp; omega) | omega) _) | (refine Below.alloc ?_ (by assumption) _)))))
      clear hb
      have hB := hB'; have hS := hS'; clear hB' hS' 
      go_wp2_with fail
      with_reducible refine (fit_is _ _ _ _ HF.out _).mono ?_
      rintro e W2 ⟨rfl, hb⟩
      have B'_g : Bk W2 (W1.heap.size) #[.int .i64 L, .int .i64 R, .int .i64 32] 44 := Bk.below (by (repeat (first | with_reducible assumption | ((with_reducible refine Bk.at_ ?_); first | rfl | (simp; done)) | with_reducible apply Bk.alloc))) hb
      obtain ⟨hB', hS'⟩ := below_c (w := w) hb (by (first | (go_grown; done) | (repeat (first | assumption | (refine Below.setCell ?_ (by first | assumption | (simp; omega) | omega) _) | (refine Below.alloc ?_ (by assumption) _)))))
      clear hb hB hS
      have B_g := B'_g
      have hB := hB'; have hS := hS'; clear hB' hS' B'_g
      have c_g_0 := B_g.cell (v := .int .i64 L) 0 rfl
      have c_g_1 := B_g.cell (v := .int .i64 R) 1 rfl
      have c_g_2 := B_g.cell (v := .int .i64 32) 2 rfl
      have lt_g := B_g.lt
      go_wp2_with fail
      with_reducible refine (error_is _ _ _ _ HE.out _).mono ?_
      rintro e W3 ⟨rfl, hb⟩
      clear c_g_0 c_g_1 c_g_2 lt_g
      have o_h : w.heap.size ≤ W2.heap.size := Nat.le_trans hS (Nat.le_add_right _ 0)
      have n_g_h : W1.heap.size ≠ W2.heap.size := B_g.apart 0
      have B'_g : Bk W3 (W1.heap.size) #[.int .i64 L, .int .i64 R, .int .i64 32] 44 := Bk.below (by (repeat (first | with_reducible assumption | ((with_reducible refine Bk.at_ ?_); first | rfl | (simp; done)) | with_reducible apply Bk.alloc))) hb
      have B'_h : Bk W3 (W2.heap.size) #[.int .i64 L, .int .i64 R, .int .i64 kb] 44 := Bk.below (by (repeat (first | with_reducible assumption | ((with_reducible refine Bk.at_ ?_); first | rfl | (simp; done)) | with_reducible apply Bk.alloc))) hb
      obtain ⟨hB', hS'⟩ := below_c (w := w) hb (by (first | (go_grown; done) | (repeat (first | assumption | (refine Below.setCell ?_ (by first | assumption | (simp; omega) | omega) _) | (refine Below.alloc ?_ (by assumption) _)))))
      clear hb hB hS B_g
      have B_g := B'_g
      have B_h := B'_h
      have hB := hB'; have hS := hS'; clear hB' hS' B'_g B'_h
      have c_h_0 := B_h.cell (v := .int .i64 L) 0 rfl
      have c_h_1 := B_h.cell (v := .int .i64 R) 1 rfl
      have c_h_2 := B_h.cell (v := .int .i64 kb) 2 rfl
      have lt_h := B_h.lt
      have c_g_0 := B_g.cell (v := .int .i64 L) 0 rfl
      have c_g_1 := B_g.cell (v := .int .i64 R) 1 rfl
      have c_g_2 := B_g.cell (v := .int .i64 32) 2 rfl
      have lt_g := B_g.lt
      go_wp2_with fail
      with_reducible refine (error_is _ _ _ _ H1.out _).mono ?_
      rintro e W4 ⟨rfl, hb⟩
      clear c_h_0 c_h_1 c_h_2 lt_h c_g_0 c_g_1 c_g_2 lt_g
      have B'_g : Bk W4 (W1.heap.size) #[.int .i64 L, .int .i64 R, .int .i64 32] 44 := Bk.below (by (repeat (first | with_reducible assumption | ((with_reducible refine Bk.at_ ?_); first | rfl | (simp; done)) | with_reducible apply Bk.alloc))) hb
      have B'_h : Bk W4 (W2.heap.size) #[.int .i64 L, .int .i64 R, .int .i64 kb] 44 := Bk.below (by (repeat (first | with_reducible assumption | ((with_reducible refine Bk.at_ ?_); first | rfl | (simp; done)) | with_reducible apply Bk.alloc))) hb
      obtain ⟨hB', hS'⟩ := below_c (w := w) hb (by (first | (go_grown; done) | (repeat (first | assumption | (refine Below.setCell ?_ (by first | assumption | (simp; omega) | omega) _) | (refine Below.alloc ?_ (by assumption) _)))))
      clear hb hB hS B_g B_h
      have B_g := B'_g
      have B_h := B'_h
      have hB := hB'; have hS := hS'; clear hB' hS' B'_g B'_h
      have c_h_0 := B_h.cell (v := .int .i64 L) 0 rfl
      have c_h_1 := B_h.cell (v := .int .i64 R) 1 rfl
      have c_h_2 := B_h.cell (v := .int .i64 kb) 2 rfl
      have lt_h := B_h.lt
      have c_g_0 := B_g.cell (v := .int .i64 L) 0 rfl
      have c_g_1 := B_g.cell (v := .int .i64 R) 1 rfl
      have c_g_2 := B_g.cell (v := .int .i64 32) 2 rfl
      have lt_g := B_g.lt
      go_wp2_with fail
      with_reducible refine (valid_yes _ _ _ HV.out _).mono ?_
      rintro e W5 ⟨rfl, hb⟩
      clear c_h_0 c_h_1 c_h_2 lt_h c_g_0 c_g_1 c_g_2 lt_g
      have B'_g : Bk W5 (W1.heap.size) #[.int .i64 L, .int .i64 R, .int .i64 32] 44 := Bk.below (by (repeat (first | with_reducible assumption | ((with_reducible refine Bk.at_ ?_); first | rfl | (simp; done)) | with_reducible apply Bk.alloc))) hb
      have B'_h : Bk W5 (W2.heap.size) #[.int .i64 L, .int .i64 R, .int .i64 kb] 44 := Bk.below (by (repeat (first | with_reducible assumption | ((with_reducible refine Bk.at_ ?_); first | rfl | (simp; done)) | with_reducible apply Bk.alloc))) hb
      obtain ⟨hB', hS'⟩ := below_c (w := w) hb (by (first | (go_grown; done) | (repeat (first | assumption | (refine Below.setCell ?_ (by first | assumption | (simp; omega) | omega) _) | (refine Below.alloc ?_ (by assumption) _)))))
      clear hb hB hS B_g B_h
      have B_g := B'_g
      have B_h := B'_h
      have hB := hB'; have hS := hS'; clear hB' hS' B'_g B'_h
      have c_h_0 := B_h.cell (v := .int .i64 L) 0 rfl
      have c_h_1 := B_h.cell (v := .int .i64 R) 1 rfl
      have c_h_2 := B_h.cell (v := .int .i64 kb) 2 rfl
      have lt_h := B_h.lt
      have f_h_0 := B_h.free 0
      have f_h_1 := B_h.free 1
      have f_h_2 := B_h.free 2
      go_wp2_with fail
      with_reducible refine (error_is _ _ _ _ H2.out _).mono ?_
      rintro e W6 ⟨rfl, hb⟩
      clear c_h_0 c_h_1 c_h_2 lt_h f_h_0 f_h_1 f_h_2
      have B'_g : Bk W6 (W1.heap.size) #[.int .i64 L, .int .i64 R, .int .i64 32] 44 := Bk.below ((Bk.far B_g (by first | assumption | (simp; done) | (exact Ne.symm (by assumption)) | (simp; omega)) _)) hb
      have B'_h : Bk W6 (W2.heap.size) #[.int .i64 L, .int .i64 R, .int .i64 (kb - 1)] 44 := Bk.below ((Bk.put B_h 2 _)) hb
      obtain ⟨hB', hS'⟩ := below_c (w := w) hb ((Below.setCell (p := ⟨W2.heap.size, 2, none⟩) hB o_h _))
      clear hb hB hS B_g B_h
      have B_g := B'_g
      have B_h := B'_h
      have hB := hB'; have hS := hS'; clear hB' hS' B'_g B'_h
      go_wp2_with fail
      with_reducible refine (awake21 _).mono ?_
      rintro e W7 ⟨rfl, hb⟩
      have B'_g : Bk W7 (W1.heap.size) #[.int .i64 L, .int .i64 R, .int .i64 32] 44 := Bk.below (by (repeat (first | with_reducible assumption | ((with_reducible refine Bk.at_ ?_); first | rfl | (simp; done)) | with_reducible apply Bk.alloc))) hb
      have B'_h : Bk W7 (W2.heap.size) #[.int .i64 L, .int .i64 R, .int .i64 (kb - 1)] 44 := Bk.below (by (repeat (first | with_reducible assumption | ((with_reducible refine Bk.at_ ?_); first | rfl | (simp; done)) | with_reducible apply Bk.alloc))) hb
      obtain ⟨hB', hS'⟩ := below_c (w := w) hb (by (first | (go_grown; done) | (repeat (first | assumption | (refine Below.setCell ?_ (by first | assumption | (simp; omega) | omega) _) | (refine Below.alloc ?_ (by assumption) _)))))
      clear hb hB hS B_g B_h
      have B_g := B'_g
      have B_h := B'_h
      have hB := hB'; have hS := hS'; clear hB' hS' B'_g B'_h
      go_wp2
      go_returns
      exact ⟨rfl, by (first | (go_grown; done) | (repeat (first | assumption | (refine Below.setCell ?_ (by first | assumption | (simp; omega) | omega) _) | (refine Below.alloc ?_ (by assumption) _))))⟩
end Go.Proofs.Ytolifgjkejhlhaa
