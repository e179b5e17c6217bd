/- QuantOrder: the walk: whatever the arguments are, it returns true and writes nothing that was there. -/
import Derived.Test.YtolifgjkejhlhaaQLaw
import Derived.OpenShut
import Derived.BigQuiet
import Derived.Test.YtolifgjkejhlhaaMinMax
set_option linter.unusedVariables false
set_option linter.unusedSimpArgs false
namespace Go.Proofs.Ytolifgjkejhlhaa
open Go.RowKit

theorem order_facts (L R B x y k l : Int) (hg : GV L R B) (hk : 0 ≤ k ∧ k ≤ gn B) (hl : 0 ≤ l ∧ l ≤ gn B) : ∃ i j p q : Int, i ≤ j ∧ p ≤ q ∧ Hid (GV L R B ∧ qi L R B (min x y) = i) ∧ Hid (GV L R B ∧ qi L R B (max x y) = j) ∧
    Hid (GV L R B ∧ 0 ≤ min k l ∧ min k l ≤ gn B ∧ qp L R B (min k l) = p) ∧ Hid (GV L R B ∧ 0 ≤ max k l ∧ max k l ≤ gn B ∧ qp L R B (max k l) = q) ∧
    Hid (GV L R B ∧ qp L R B (qi L R B (min x L)) = L) ∧ Hid (GV L R B ∧ qp L R B (qi L R B (max x R)) = R) ∧ Hid (GV L R B ∧ qi L R B (max y R) = gn B) := by
  refine ⟨_, _, _, _, qi_mono L R B (min x y) (max x y) hg (by omega), qp_mono L R B (min k l) (max k l) hg (by omega), Lib.hid ⟨hg, rfl⟩, Lib.hid ⟨hg, rfl⟩, Lib.hid ⟨hg, by omega, by omega, rfl⟩, Lib.hid ⟨hg, by omega, by omega, rfl⟩, Lib.hid ⟨hg, ?_⟩, Lib.hid ⟨hg, ?_⟩, Lib.hid ⟨hg, ?_⟩⟩
  · rw [qi_lo L R B _ hg (by omega), qp_0 L R B hg]
  · rw [qi_hi L R B _ hg (by omega), qp_n L R B hg]
  · rw [qi_hi L R B _ hg (by omega)]

set_option maxRecDepth 100000 in
set_option maxHeartbeats 8000000 in
theorem walk_QuantOrder (a0 a1 a2 a3 a4 a5 a6 : Int) (w0 : (Lit.int .i64 a0).wf = true) (w1 : (Lit.int .u64 a1).wf = true) (w2 : (Lit.int .u8 a2).wf = true) (w3 : (Lit.int .i64 a3).wf = true) (w4 : (Lit.int .i64 a4).wf = true) (w5 : (Lit.int .u64 a5).wf = true) (w6 : (Lit.int .u64 a6).wf = true) (w : World) :
    Calls Try.prog 11 #[.int .i64 a0, .int .u64 a1, .int .u8 a2, .int .i64 a3, .int .i64 a4, .int .u64 a5, .int .u64 a6] w fun e w' => e = .returned (.bool true) ∧ Below w.heap.size w w' := by
  have w0 := bounds_i64 w0
  have w1 := bounds_u64 w1
  have w2 := bounds_u8 w2
  have w3 := bounds_i64 w3
  have w4 := bounds_i64 w4
  have w5 := bounds_u64 w5
  have w6 := bounds_u64 w6
  have hG := GV_grid a0 a1 a2 w2.1
  obtain ⟨L, hL⟩ : ∃ L, gl a0 = L := ⟨_, rfl⟩
  obtain ⟨R, hR⟩ : ∃ R, gl a0 + gw a1 = R := ⟨_, rfl⟩
  obtain ⟨B, hB⟩ : ∃ B, gb a2 = B := ⟨_, rfl⟩
  rw [hL, hB] at hG
  rw [← hL, hR, hL] at hG
  have H0 := Lib.hid (show ((-9223372036854775808 ≤ a0 ∧ a0 ≤ 9223372036854775807) ∧ (0 ≤ a1 ∧ a1 ≤ 18446744073709551615) ∧ 0 ≤ a2 ∧ a2 ≤ 255) ∧ gl a0 = L ∧ gl a0 + gw a1 = R ∧ gb a2 = B from ⟨⟨w0, w1, w2⟩, hL, hR, hB⟩)
  clear hL hR hB
  obtain ⟨b1, b2⟩ := hG.2.2.2
  obtain ⟨g1, g2, g3⟩ := gn_bd B b1 b2
  have g4 := gn_u64 B b1 b2
  have k0 := Int.emod_nonneg a5 (show gn B + 1 ≠ 0 by omega)
  have k1 := Int.emod_lt_of_pos a5 (show 0 < gn B + 1 by omega)
  have l0 := Int.emod_nonneg a6 (show gn B + 1 ≠ 0 by omega)
  have l1 := Int.emod_lt_of_pos a6 (show 0 < gn B + 1 by omega)
  obtain ⟨i, j, p, q, hij, hpq, H1, H2, H3, H4, H5, H6, H7⟩ := order_facts L R B a3 a4 (a5 % (gn B + 1)) (a6 % (gn B + 1)) hG ⟨k0, by omega⟩ ⟨l0, by omega⟩
  clear hG w0 w1 w2 w3 w4
  go_enter Try.func11, Try.ntmps11
  go_wp2_with fail
  with_reducible refine (grid_val _ _ _ _ _ _ H0.out _).mono ?_
  rintro e w1 ⟨rfl, hb1⟩
  obtain ⟨hg1, hs1⟩ := below_c (w := w) hb1 (by first | (go_grown; done) | exact below_drewN (by go_grown) _)
  clear hb1
  go_wp2_with (first | refine wpList_min2 _ rfl _ _ _ rfl _ _ _ rfl rfl ?_ | refine wpList_max2 _ rfl _ _ _ rfl _ _ _ rfl rfl ?_)
  with_reducible refine (index_is L R B _ _ H1.out _).mono ?_
  rintro e w2 ⟨rfl, hb2⟩
  have ca_2 : w2.cell? ⟨w1.heap.size, 0, none⟩ = some (.int .i64 L) := cell_later hb2 (by simp [go_sem])
  have cb_2 : w2.cell? ⟨w1.heap.size, 1, none⟩ = some (.int .i64 R) := cell_later hb2 (by simp [go_sem])
  have cc_2 : w2.cell? ⟨w1.heap.size, 2, none⟩ = some (.int .i64 B) := cell_later hb2 (by simp [go_sem])
  obtain ⟨hg2, hs2⟩ := below_c (w := w) hb2 (by first | (go_grown; done) | exact below_drewN (by go_grown) _)
  clear hb2 hg1 hs1
  go_wp2_with (first | refine wpList_min2 _ rfl _ _ _ rfl _ _ _ rfl rfl ?_ | refine wpList_max2 _ rfl _ _ _ rfl _ _ _ rfl rfl ?_)
  with_reducible refine (index_is L R B _ _ H2.out _).mono ?_
  rintro e w3 ⟨rfl, hb3⟩
  have ca_3 : w3.cell? ⟨w1.heap.size, 0, none⟩ = some (.int .i64 L) := by first | exact cell_later hb3 ca_2 | exact cell_later hb3 (cell_later ((Below.refl _ _).alloc (Nat.le_refl _) _) ca_2) | exact cell_later hb3 (by simp [go_sem, *])
  have cb_3 : w3.cell? ⟨w1.heap.size, 1, none⟩ = some (.int .i64 R) := by first | exact cell_later hb3 cb_2 | exact cell_later hb3 (cell_later ((Below.refl _ _).alloc (Nat.le_refl _) _) cb_2) | exact cell_later hb3 (by simp [go_sem, *])
  have cc_3 : w3.cell? ⟨w1.heap.size, 2, none⟩ = some (.int .i64 B) := by first | exact cell_later hb3 cc_2 | exact cell_later hb3 (cell_later ((Below.refl _ _).alloc (Nat.le_refl _) _) cc_2) | exact cell_later hb3 (by simp [go_sem, *])
  obtain ⟨hg3, hs3⟩ := below_c (w := w) hb3 (by first | (go_grown; done) | exact below_drewN (by go_grown) _)
  clear ca_2 cb_2 cc_2 hb3 hg2 hs2
  go_wp2_with (first | refine wpList_min2 _ rfl _ _ _ rfl _ _ _ rfl rfl ?_ | refine wpList_max2 _ rfl _ _ _ rfl _ _ _ rfl rfl ?_)
  go_quiet (fail)
  go_wp2_with (first | refine wpList_min2 _ rfl _ _ _ rfl _ _ _ rfl rfl ?_ | refine wpList_max2 _ rfl _ _ _ rfl _ _ _ rfl rfl ?_)
  with_reducible refine (point_is L R B _ _ H3.out _).mono ?_
  rintro e w4 ⟨rfl, hb4⟩
  have ca_4 : w4.cell? ⟨w1.heap.size, 0, none⟩ = some (.int .i64 L) := by first | exact cell_later hb4 ca_3 | exact cell_later hb4 (cell_later ((Below.refl _ _).alloc (Nat.le_refl _) _) ca_3) | exact cell_later hb4 (by simp [go_sem, *])
  have cb_4 : w4.cell? ⟨w1.heap.size, 1, none⟩ = some (.int .i64 R) := by first | exact cell_later hb4 cb_3 | exact cell_later hb4 (cell_later ((Below.refl _ _).alloc (Nat.le_refl _) _) cb_3) | exact cell_later hb4 (by simp [go_sem, *])
  have cc_4 : w4.cell? ⟨w1.heap.size, 2, none⟩ = some (.int .i64 B) := by first | exact cell_later hb4 cc_3 | exact cell_later hb4 (cell_later ((Below.refl _ _).alloc (Nat.le_refl _) _) cc_3) | exact cell_later hb4 (by simp [go_sem, *])
  obtain ⟨hg4, hs4⟩ := below_c (w := w) hb4 (by first | (go_grown; done) | exact below_drewN (by go_grown) _)
  clear ca_3 cb_3 cc_3 hb4 hg3 hs3
  go_wp2_with (first | refine wpList_min2 _ rfl _ _ _ rfl _ _ _ rfl rfl ?_ | refine wpList_max2 _ rfl _ _ _ rfl _ _ _ rfl rfl ?_)
  with_reducible refine (point_is L R B _ _ H4.out _).mono ?_
  rintro e w5 ⟨rfl, hb5⟩
  have ca_5 : w5.cell? ⟨w1.heap.size, 0, none⟩ = some (.int .i64 L) := by first | exact cell_later hb5 ca_4 | exact cell_later hb5 (cell_later ((Below.refl _ _).alloc (Nat.le_refl _) _) ca_4) | exact cell_later hb5 (by simp [go_sem, *])
  have cb_5 : w5.cell? ⟨w1.heap.size, 1, none⟩ = some (.int .i64 R) := by first | exact cell_later hb5 cb_4 | exact cell_later hb5 (cell_later ((Below.refl _ _).alloc (Nat.le_refl _) _) cb_4) | exact cell_later hb5 (by simp [go_sem, *])
  have cc_5 : w5.cell? ⟨w1.heap.size, 2, none⟩ = some (.int .i64 B) := by first | exact cell_later hb5 cc_4 | exact cell_later hb5 (cell_later ((Below.refl _ _).alloc (Nat.le_refl _) _) cc_4) | exact cell_later hb5 (by simp [go_sem, *])
  obtain ⟨hg5, hs5⟩ := below_c (w := w) hb5 (by first | (go_grown; done) | exact below_drewN (by go_grown) _)
  clear ca_4 cb_4 cc_4 hb5 hg4 hs4
  go_wp2_with (first | refine wpList_min2 _ rfl _ _ _ rfl _ _ _ rfl rfl ?_ | refine wpList_max2 _ rfl _ _ _ rfl _ _ _ rfl rfl ?_)
  with_reducible refine (gnear_is L R B _ _ H5.out _).mono ?_
  rintro e w6 ⟨rfl, hb6⟩
  have ca_6 : w6.cell? ⟨w1.heap.size, 0, none⟩ = some (.int .i64 L) := by first | exact cell_later hb6 ca_5 | exact cell_later hb6 (cell_later ((Below.refl _ _).alloc (Nat.le_refl _) _) ca_5) | exact cell_later hb6 (by simp [go_sem, *])
  have cb_6 : w6.cell? ⟨w1.heap.size, 1, none⟩ = some (.int .i64 R) := by first | exact cell_later hb6 cb_5 | exact cell_later hb6 (cell_later ((Below.refl _ _).alloc (Nat.le_refl _) _) cb_5) | exact cell_later hb6 (by simp [go_sem, *])
  have cc_6 : w6.cell? ⟨w1.heap.size, 2, none⟩ = some (.int .i64 B) := by first | exact cell_later hb6 cc_5 | exact cell_later hb6 (cell_later ((Below.refl _ _).alloc (Nat.le_refl _) _) cc_5) | exact cell_later hb6 (by simp [go_sem, *])
  obtain ⟨hg6, hs6⟩ := below_c (w := w) hb6 (by first | (go_grown; done) | exact below_drewN (by go_grown) _)
  clear ca_5 cb_5 cc_5 hb6 hg5 hs5
  go_wp2_with (first | refine wpList_min2 _ rfl _ _ _ rfl _ _ _ rfl rfl ?_ | refine wpList_max2 _ rfl _ _ _ rfl _ _ _ rfl rfl ?_)
  with_reducible refine (gnear_is L R B _ _ H6.out _).mono ?_
  rintro e w7 ⟨rfl, hb7⟩
  have ca_7 : w7.cell? ⟨w1.heap.size, 0, none⟩ = some (.int .i64 L) := by first | exact cell_later hb7 ca_6 | exact cell_later hb7 (cell_later ((Below.refl _ _).alloc (Nat.le_refl _) _) ca_6) | exact cell_later hb7 (by simp [go_sem, *])
  have cb_7 : w7.cell? ⟨w1.heap.size, 1, none⟩ = some (.int .i64 R) := by first | exact cell_later hb7 cb_6 | exact cell_later hb7 (cell_later ((Below.refl _ _).alloc (Nat.le_refl _) _) cb_6) | exact cell_later hb7 (by simp [go_sem, *])
  have cc_7 : w7.cell? ⟨w1.heap.size, 2, none⟩ = some (.int .i64 B) := by first | exact cell_later hb7 cc_6 | exact cell_later hb7 (cell_later ((Below.refl _ _).alloc (Nat.le_refl _) _) cc_6) | exact cell_later hb7 (by simp [go_sem, *])
  obtain ⟨hg7, hs7⟩ := below_c (w := w) hb7 (by first | (go_grown; done) | exact below_drewN (by go_grown) _)
  clear ca_6 cb_6 cc_6 hb7 hg6 hs6
  go_wp2_with (first | refine wpList_min2 _ rfl _ _ _ rfl _ _ _ rfl rfl ?_ | refine wpList_max2 _ rfl _ _ _ rfl _ _ _ rfl rfl ?_)
  with_reducible refine (index_is L R B _ _ H7.out _).mono ?_
  rintro e w8 ⟨rfl, hb8⟩
  have ca_8 : w8.cell? ⟨w1.heap.size, 0, none⟩ = some (.int .i64 L) := by first | exact cell_later hb8 ca_7 | exact cell_later hb8 (cell_later ((Below.refl _ _).alloc (Nat.le_refl _) _) ca_7) | exact cell_later hb8 (by simp [go_sem, *])
  have cb_8 : w8.cell? ⟨w1.heap.size, 1, none⟩ = some (.int .i64 R) := by first | exact cell_later hb8 cb_7 | exact cell_later hb8 (cell_later ((Below.refl _ _).alloc (Nat.le_refl _) _) cb_7) | exact cell_later hb8 (by simp [go_sem, *])
  have cc_8 : w8.cell? ⟨w1.heap.size, 2, none⟩ = some (.int .i64 B) := by first | exact cell_later hb8 cc_7 | exact cell_later hb8 (cell_later ((Below.refl _ _).alloc (Nat.le_refl _) _) cc_7) | exact cell_later hb8 (by simp [go_sem, *])
  obtain ⟨hg8, hs8⟩ := below_c (w := w) hb8 (by first | (go_grown; done) | exact below_drewN (by go_grown) _)
  clear ca_7 cb_7 cc_7 hb8 hg7 hs7
  go_wp2_with fail
  with_reducible refine (awake21 _).mono ?_
  rintro e w9 ⟨rfl, hb9⟩
  have ca_9 : w9.cell? ⟨w1.heap.size, 0, none⟩ = some (.int .i64 L) := by first | exact cell_later hb9 ca_8 | exact cell_later hb9 (cell_later ((Below.refl _ _).alloc (Nat.le_refl _) _) ca_8) | exact cell_later hb9 (by simp [go_sem, *])
  have cb_9 : w9.cell? ⟨w1.heap.size, 1, none⟩ = some (.int .i64 R) := by first | exact cell_later hb9 cb_8 | exact cell_later hb9 (cell_later ((Below.refl _ _).alloc (Nat.le_refl _) _) cb_8) | exact cell_later hb9 (by simp [go_sem, *])
  have cc_9 : w9.cell? ⟨w1.heap.size, 2, none⟩ = some (.int .i64 B) := by first | exact cell_later hb9 cc_8 | exact cell_later hb9 (cell_later ((Below.refl _ _).alloc (Nat.le_refl _) _) cc_8) | exact cell_later hb9 (by simp [go_sem, *])
  obtain ⟨hg9, hs9⟩ := below_c (w := w) hb9 (by first | (go_grown; done) | exact below_drewN (by go_grown) _)
  clear ca_8 cb_8 cc_8 hb9 hg8 hs8
  go_wp2
  go_returns
  exact ⟨rfl, by go_grown⟩
end Go.Proofs.Ytolifgjkejhlhaa
