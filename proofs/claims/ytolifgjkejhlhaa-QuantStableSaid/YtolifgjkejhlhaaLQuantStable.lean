/- QuantStable: the walk: whatever the arguments are, it returns true and writes nothing that was there. -/
import Derived.Test.YtolifgjkejhlhaaQLaw
import Derived.OpenShut
import Derived.BigQuiet
import Derived.Test.YtolifgjkejhlhaaMinMax
set_option linter.unusedVariables false
set_option linter.unusedSimpArgs false
namespace Go.Proofs.Ytolifgjkejhlhaa
open Go.RowKit

theorem stable_facts (L R B k n : Int) (hg : GV L R B) (hk : 0 ≤ k ∧ k ≤ gn B) (hn : L ≤ n ∧ n ≤ R) : ∃ i p q : Int, (gn B ≤ R - L → i = k) ∧ Hid (GV L R B ∧ 0 ≤ k ∧ k ≤ gn B ∧ qp L R B k = p) ∧ Hid (GV L R B ∧ qi L R B p = i) ∧
    Hid (GV L R B ∧ qp L R B (qi L R B n) = q) ∧ Hid (GV L R B ∧ qp L R B (qi L R B q) = q) ∧ Hid (GV L R B ∧ qp L R B (qi L R B p) = p) := by
  obtain ⟨q1, q2⟩ := qi_bd L R B n hg
  exact ⟨_, _, _, fun h => qi_qp L R B k hg hk.1 hk.2 h, Lib.hid ⟨hg, hk.1, hk.2, rfl⟩, Lib.hid ⟨hg, rfl⟩, Lib.hid ⟨hg, rfl⟩, Lib.hid ⟨hg, near_near L R B _ hg q1 q2⟩, Lib.hid ⟨hg, near_near L R B k hg hk.1 hk.2⟩⟩

set_option maxRecDepth 100000 in
set_option maxHeartbeats 8000000 in
theorem walk_QuantStable (a0 a1 a2 a3 a4 : Int) (w0 : (Lit.int .i64 a0).wf = true) (w1 : (Lit.int .u64 a1).wf = true) (w2 : (Lit.int .u8 a2).wf = true) (w3 : (Lit.int .u64 a3).wf = true) (w4 : (Lit.int .u64 a4).wf = true) (w : World) :
    Calls Try.prog 10 #[.int .i64 a0, .int .u64 a1, .int .u8 a2, .int .u64 a3, .int .u64 a4] w fun e w' => e = .returned (.bool true) ∧ Below w.heap.size w w' := by
  have w0 := bounds_i64 w0
  have w1 := bounds_u64 w1
  have w2 := bounds_u8 w2
  have w3 := bounds_u64 w3
  have w4 := bounds_u64 w4
  have hG := GV_grid a0 a1 a2 w2.1
  obtain ⟨L, hL⟩ : ∃ L, gl a0 = L := ⟨_, rfl⟩
  obtain ⟨R, hR⟩ : ∃ R, gl a0 + gw a1 = R := ⟨_, rfl⟩
  obtain ⟨B, hB⟩ : ∃ B, gb a2 = B := ⟨_, rfl⟩
  rw [hL, hB] at hG
  rw [← hL, hR, hL] at hG
  have H0 := Lib.hid (show ((-9223372036854775808 ≤ a0 ∧ a0 ≤ 9223372036854775807) ∧ (0 ≤ a1 ∧ a1 ≤ 18446744073709551615) ∧ 0 ≤ a2 ∧ a2 ≤ 255) ∧ gl a0 = L ∧ gl a0 + gw a1 = R ∧ gb a2 = B from ⟨⟨w0, w1, w2⟩, hL, hR, hB⟩)
  clear hL hR hB
  obtain ⟨b1, b2⟩ := hG.2.2.2
  obtain ⟨g1, g2, g3⟩ := gn_bd B b1 b2
  have g4 := gn_u64 B b1 b2
  have k0 := Int.emod_nonneg a3 (show gn B + 1 ≠ 0 by omega)
  have k1 := Int.emod_lt_of_pos a3 (show 0 < gn B + 1 by omega)
  obtain ⟨l1, l2, l3, -⟩ := hG
  have n0 := Int.emod_nonneg a4 (show R - L + 1 ≠ 0 by omega)
  have n1 := Int.emod_lt_of_pos a4 (show 0 < R - L + 1 by omega)
  have g5 : IntKind.i64.wrap (a3 % (gn B + 1)) = a3 % (gn B + 1) := by rw [IntKind.wrap_i64]; omega
  have g6 : IntKind.i64.wrap (R - L) = R - L := by rw [IntKind.wrap_i64]; omega
  have hG : GV L R B := ⟨l1, l2, l3, b1, b2⟩
  obtain ⟨n, hn⟩ : ∃ n, L + a4 % (R - L + 1) = n := ⟨_, rfl⟩
  have HI := Lib.hid (show GV L R B ∧ (0 ≤ a4 ∧ a4 ≤ 18446744073709551615) ∧ L + a4 % (R - L + 1) = n from ⟨hG, w4, hn⟩)
  obtain ⟨i, p, q, hi, H1, H2, H3, H4, H5⟩ := stable_facts L R B (a3 % (gn B + 1)) n hG ⟨k0, by omega⟩ ⟨by omega, by omega⟩
  clear hG w0 w1 w2 w4 hn n0 n1
  rcases (show gn B ≤ R - L ∨ R - L < gn B by omega) with hc | hc
  · cases hi hc
    go_enter Try.func10, Try.ntmps10
    go_wp2_with fail
    with_reducible refine (grid_val _ _ _ _ _ _ H0.out _).mono ?_
    rintro e w1 ⟨rfl, hb1⟩
    obtain ⟨hg1, hs1⟩ := below_c (w := w) hb1 (by first | (go_grown; done) | exact below_drewN (by go_grown) _)
    clear hb1
    go_wp2_with fail
    with_reducible refine (point_is L R B _ _ H1.out _).mono ?_
    rintro e w2 ⟨rfl, hb2⟩
    have ca_2 : w2.cell? ⟨w1.heap.size, 0, none⟩ = some (.int .i64 L) := cell_later hb2 (by simp [go_sem])
    have cb_2 : w2.cell? ⟨w1.heap.size, 1, none⟩ = some (.int .i64 R) := cell_later hb2 (by simp [go_sem])
    have cc_2 : w2.cell? ⟨w1.heap.size, 2, none⟩ = some (.int .i64 B) := cell_later hb2 (by simp [go_sem])
    obtain ⟨hg2, hs2⟩ := below_c (w := w) hb2 (by first | (go_grown; done) | exact below_drewN (by go_grown) _)
    clear hb2 hg1 hs1
    go_wp2_with fail
    with_reducible refine (index_is L R B _ _ H2.out _).mono ?_
    rintro e w3 ⟨rfl, hb3⟩
    have ca_3 : w3.cell? ⟨w1.heap.size, 0, none⟩ = some (.int .i64 L) := by first | exact cell_later hb3 ca_2 | exact cell_later hb3 (cell_later ((Below.refl _ _).alloc (Nat.le_refl _) _) ca_2) | exact cell_later hb3 (by simp [go_sem, *])
    have cb_3 : w3.cell? ⟨w1.heap.size, 1, none⟩ = some (.int .i64 R) := by first | exact cell_later hb3 cb_2 | exact cell_later hb3 (cell_later ((Below.refl _ _).alloc (Nat.le_refl _) _) cb_2) | exact cell_later hb3 (by simp [go_sem, *])
    have cc_3 : w3.cell? ⟨w1.heap.size, 2, none⟩ = some (.int .i64 B) := by first | exact cell_later hb3 cc_2 | exact cell_later hb3 (cell_later ((Below.refl _ _).alloc (Nat.le_refl _) _) cc_2) | exact cell_later hb3 (by simp [go_sem, *])
    obtain ⟨hg3, hs3⟩ := below_c (w := w) hb3 (by first | (go_grown; done) | exact below_drewN (by go_grown) _)
    clear ca_2 cb_2 cc_2 hb3 hg2 hs2
    go_wp2_with fail
    go_quiet (fail)
    go_wp2_with fail
    go_region_held3 (fun w' => w'.cell? ⟨w1.heap.size, 0, none⟩ = some (.int .i64 L) ∧ w'.cell? ⟨w1.heap.size, 1, none⟩ = some (.int .i64 R) ∧ w'.cell? ⟨w1.heap.size, 2, none⟩ = some (.int .i64 B)) (first | exact keep3 (by assumption) (by assumption) | (simp [go_sem, *]; done))
      (first
        | (go_at_call 41; with_reducible refine (inside_val _ _ _ _ _ HI.out _).mono ?_; rintro e w4 ⟨rfl, hb0⟩; obtain ⟨hg4, hs4⟩ := below_c (w := w) hb0 (by first | (go_grown; done) | exact below_drewN (by go_grown) _); have hb1 := hb0; clear hb0)
        | (go_at_call 40; with_reducible refine (gnear_is L R B _ _ H3.out _).mono ?_; rintro e w5 ⟨rfl, hb0⟩; obtain ⟨hg5, hs5⟩ := below_c (w := w) hb0 (by first | (go_grown; done) | exact below_drewN (by go_grown) _); have hb1 := hb0; clear hb0))
    obtain ⟨ca_5, cb_5, cc_5⟩ : w5.cell? ⟨w1.heap.size, 0, none⟩ = some (.int .i64 L) ∧ w5.cell? ⟨w1.heap.size, 1, none⟩ = some (.int .i64 R) ∧ w5.cell? ⟨w1.heap.size, 2, none⟩ = some (.int .i64 B) := by assumption
    clear ca_3 cb_3 cc_3 hg3 hs3 hg4 hs4
    go_wp2_with fail
    with_reducible refine (gnear_is L R B _ _ H4.out _).mono ?_
    rintro e w6 ⟨rfl, hb6⟩
    have ca_6 : w6.cell? ⟨w1.heap.size, 0, none⟩ = some (.int .i64 L) := by first | exact cell_later hb6 ca_5 | exact cell_later hb6 (cell_later ((Below.refl _ _).alloc (Nat.le_refl _) _) ca_5) | exact cell_later hb6 (by simp [go_sem, *])
    have cb_6 : w6.cell? ⟨w1.heap.size, 1, none⟩ = some (.int .i64 R) := by first | exact cell_later hb6 cb_5 | exact cell_later hb6 (cell_later ((Below.refl _ _).alloc (Nat.le_refl _) _) cb_5) | exact cell_later hb6 (by simp [go_sem, *])
    have cc_6 : w6.cell? ⟨w1.heap.size, 2, none⟩ = some (.int .i64 B) := by first | exact cell_later hb6 cc_5 | exact cell_later hb6 (cell_later ((Below.refl _ _).alloc (Nat.le_refl _) _) cc_5) | exact cell_later hb6 (by simp [go_sem, *])
    obtain ⟨hg6, hs6⟩ := below_c (w := w) hb6 (by first | (go_grown; done) | exact below_drewN (by go_grown) _)
    clear ca_5 cb_5 cc_5 hb6 hg5 hs5
    go_wp2_with fail
    with_reducible refine (gnear_is L R B _ _ H5.out _).mono ?_
    rintro e w7 ⟨rfl, hb7⟩
    have ca_7 : w7.cell? ⟨w1.heap.size, 0, none⟩ = some (.int .i64 L) := by first | exact cell_later hb7 ca_6 | exact cell_later hb7 (cell_later ((Below.refl _ _).alloc (Nat.le_refl _) _) ca_6) | exact cell_later hb7 (by simp [go_sem, *])
    have cb_7 : w7.cell? ⟨w1.heap.size, 1, none⟩ = some (.int .i64 R) := by first | exact cell_later hb7 cb_6 | exact cell_later hb7 (cell_later ((Below.refl _ _).alloc (Nat.le_refl _) _) cb_6) | exact cell_later hb7 (by simp [go_sem, *])
    have cc_7 : w7.cell? ⟨w1.heap.size, 2, none⟩ = some (.int .i64 B) := by first | exact cell_later hb7 cc_6 | exact cell_later hb7 (cell_later ((Below.refl _ _).alloc (Nat.le_refl _) _) cc_6) | exact cell_later hb7 (by simp [go_sem, *])
    obtain ⟨hg7, hs7⟩ := below_c (w := w) hb7 (by first | (go_grown; done) | exact below_drewN (by go_grown) _)
    clear ca_6 cb_6 cc_6 hb7 hg6 hs6
    go_wp2_with fail
    with_reducible refine (awake21 _).mono ?_
    rintro e w8 ⟨rfl, hb8⟩
    have ca_8 : w8.cell? ⟨w1.heap.size, 0, none⟩ = some (.int .i64 L) := by first | exact cell_later hb8 ca_7 | exact cell_later hb8 (cell_later ((Below.refl _ _).alloc (Nat.le_refl _) _) ca_7) | exact cell_later hb8 (by simp [go_sem, *])
    have cb_8 : w8.cell? ⟨w1.heap.size, 1, none⟩ = some (.int .i64 R) := by first | exact cell_later hb8 cb_7 | exact cell_later hb8 (cell_later ((Below.refl _ _).alloc (Nat.le_refl _) _) cb_7) | exact cell_later hb8 (by simp [go_sem, *])
    have cc_8 : w8.cell? ⟨w1.heap.size, 2, none⟩ = some (.int .i64 B) := by first | exact cell_later hb8 cc_7 | exact cell_later hb8 (cell_later ((Below.refl _ _).alloc (Nat.le_refl _) _) cc_7) | exact cell_later hb8 (by simp [go_sem, *])
    obtain ⟨hg8, hs8⟩ := below_c (w := w) hb8 (by first | (go_grown; done) | exact below_drewN (by go_grown) _)
    clear ca_7 cb_7 cc_7 hb8 hg7 hs7
    go_wp2
    go_returns
    exact ⟨rfl, by go_grown⟩
  · clear hi
    have cb : decide (gn B ≤ R - L) = false := decide_eq_false (by omega)
    go_enter Try.func10, Try.ntmps10
    go_wp2_with fail
    with_reducible refine (grid_val _ _ _ _ _ _ H0.out _).mono ?_
    rintro e w1 ⟨rfl, hb1⟩
    obtain ⟨hg1, hs1⟩ := below_c (w := w) hb1 (by first | (go_grown; done) | exact below_drewN (by go_grown) _)
    clear hb1
    go_wp2_with fail
    with_reducible refine (point_is L R B _ _ H1.out _).mono ?_
    rintro e w2 ⟨rfl, hb2⟩
    have ca_2 : w2.cell? ⟨w1.heap.size, 0, none⟩ = some (.int .i64 L) := cell_later hb2 (by simp [go_sem])
    have cb_2 : w2.cell? ⟨w1.heap.size, 1, none⟩ = some (.int .i64 R) := cell_later hb2 (by simp [go_sem])
    have cc_2 : w2.cell? ⟨w1.heap.size, 2, none⟩ = some (.int .i64 B) := cell_later hb2 (by simp [go_sem])
    obtain ⟨hg2, hs2⟩ := below_c (w := w) hb2 (by first | (go_grown; done) | exact below_drewN (by go_grown) _)
    clear hb2 hg1 hs1
    go_wp2_with fail
    with_reducible refine (index_is L R B _ _ H2.out _).mono ?_
    rintro e w3 ⟨rfl, hb3⟩
    have ca_3 : w3.cell? ⟨w1.heap.size, 0, none⟩ = some (.int .i64 L) := by first | exact cell_later hb3 ca_2 | exact cell_later hb3 (cell_later ((Below.refl _ _).alloc (Nat.le_refl _) _) ca_2) | exact cell_later hb3 (by simp [go_sem, *])
    have cb_3 : w3.cell? ⟨w1.heap.size, 1, none⟩ = some (.int .i64 R) := by first | exact cell_later hb3 cb_2 | exact cell_later hb3 (cell_later ((Below.refl _ _).alloc (Nat.le_refl _) _) cb_2) | exact cell_later hb3 (by simp [go_sem, *])
    have cc_3 : w3.cell? ⟨w1.heap.size, 2, none⟩ = some (.int .i64 B) := by first | exact cell_later hb3 cc_2 | exact cell_later hb3 (cell_later ((Below.refl _ _).alloc (Nat.le_refl _) _) cc_2) | exact cell_later hb3 (by simp [go_sem, *])
    obtain ⟨hg3, hs3⟩ := below_c (w := w) hb3 (by first | (go_grown; done) | exact below_drewN (by go_grown) _)
    clear ca_2 cb_2 cc_2 hb3 hg2 hs2
    go_wp2_with fail
    go_quiet (fail)
    go_wp2_with fail
    go_region_held3 (fun w' => w'.cell? ⟨w1.heap.size, 0, none⟩ = some (.int .i64 L) ∧ w'.cell? ⟨w1.heap.size, 1, none⟩ = some (.int .i64 R) ∧ w'.cell? ⟨w1.heap.size, 2, none⟩ = some (.int .i64 B)) (first | exact keep3 (by assumption) (by assumption) | (simp [go_sem, *]; done))
      (first
        | (go_at_call 41; with_reducible refine (inside_val _ _ _ _ _ HI.out _).mono ?_; rintro e w4 ⟨rfl, hb0⟩; obtain ⟨hg4, hs4⟩ := below_c (w := w) hb0 (by first | (go_grown; done) | exact below_drewN (by go_grown) _); have hb1 := hb0; clear hb0)
        | (go_at_call 40; with_reducible refine (gnear_is L R B _ _ H3.out _).mono ?_; rintro e w5 ⟨rfl, hb0⟩; obtain ⟨hg5, hs5⟩ := below_c (w := w) hb0 (by first | (go_grown; done) | exact below_drewN (by go_grown) _); have hb1 := hb0; clear hb0))
    obtain ⟨ca_5, cb_5, cc_5⟩ : w5.cell? ⟨w1.heap.size, 0, none⟩ = some (.int .i64 L) ∧ w5.cell? ⟨w1.heap.size, 1, none⟩ = some (.int .i64 R) ∧ w5.cell? ⟨w1.heap.size, 2, none⟩ = some (.int .i64 B) := by assumption
    clear ca_3 cb_3 cc_3 hg3 hs3 hg4 hs4
    go_wp2_with fail
    with_reducible refine (gnear_is L R B _ _ H4.out _).mono ?_
    rintro e w6 ⟨rfl, hb6⟩
    have ca_6 : w6.cell? ⟨w1.heap.size, 0, none⟩ = some (.int .i64 L) := by first | exact cell_later hb6 ca_5 | exact cell_later hb6 (cell_later ((Below.refl _ _).alloc (Nat.le_refl _) _) ca_5) | exact cell_later hb6 (by simp [go_sem, *])
    have cb_6 : w6.cell? ⟨w1.heap.size, 1, none⟩ = some (.int .i64 R) := by first | exact cell_later hb6 cb_5 | exact cell_later hb6 (cell_later ((Below.refl _ _).alloc (Nat.le_refl _) _) cb_5) | exact cell_later hb6 (by simp [go_sem, *])
    have cc_6 : w6.cell? ⟨w1.heap.size, 2, none⟩ = some (.int .i64 B) := by first | exact cell_later hb6 cc_5 | exact cell_later hb6 (cell_later ((Below.refl _ _).alloc (Nat.le_refl _) _) cc_5) | exact cell_later hb6 (by simp [go_sem, *])
    obtain ⟨hg6, hs6⟩ := below_c (w := w) hb6 (by first | (go_grown; done) | exact below_drewN (by go_grown) _)
    clear ca_5 cb_5 cc_5 hb6 hg5 hs5
    go_wp2_with fail
    with_reducible refine (gnear_is L R B _ _ H5.out _).mono ?_
    rintro e w7 ⟨rfl, hb7⟩
    have ca_7 : w7.cell? ⟨w1.heap.size, 0, none⟩ = some (.int .i64 L) := by first | exact cell_later hb7 ca_6 | exact cell_later hb7 (cell_later ((Below.refl _ _).alloc (Nat.le_refl _) _) ca_6) | exact cell_later hb7 (by simp [go_sem, *])
    have cb_7 : w7.cell? ⟨w1.heap.size, 1, none⟩ = some (.int .i64 R) := by first | exact cell_later hb7 cb_6 | exact cell_later hb7 (cell_later ((Below.refl _ _).alloc (Nat.le_refl _) _) cb_6) | exact cell_later hb7 (by simp [go_sem, *])
    have cc_7 : w7.cell? ⟨w1.heap.size, 2, none⟩ = some (.int .i64 B) := by first | exact cell_later hb7 cc_6 | exact cell_later hb7 (cell_later ((Below.refl _ _).alloc (Nat.le_refl _) _) cc_6) | exact cell_later hb7 (by simp [go_sem, *])
    obtain ⟨hg7, hs7⟩ := below_c (w := w) hb7 (by first | (go_grown; done) | exact below_drewN (by go_grown) _)
    clear ca_6 cb_6 cc_6 hb7 hg6 hs6
    go_wp2_with fail
    with_reducible refine (awake21 _).mono ?_
    rintro e w8 ⟨rfl, hb8⟩
    have ca_8 : w8.cell? ⟨w1.heap.size, 0, none⟩ = some (.int .i64 L) := by first | exact cell_later hb8 ca_7 | exact cell_later hb8 (cell_later ((Below.refl _ _).alloc (Nat.le_refl _) _) ca_7) | exact cell_later hb8 (by simp [go_sem, *])
    have cb_8 : w8.cell? ⟨w1.heap.size, 1, none⟩ = some (.int .i64 R) := by first | exact cell_later hb8 cb_7 | exact cell_later hb8 (cell_later ((Below.refl _ _).alloc (Nat.le_refl _) _) cb_7) | exact cell_later hb8 (by simp [go_sem, *])
    have cc_8 : w8.cell? ⟨w1.heap.size, 2, none⟩ = some (.int .i64 B) := by first | exact cell_later hb8 cc_7 | exact cell_later hb8 (cell_later ((Below.refl _ _).alloc (Nat.le_refl _) _) cc_7) | exact cell_later hb8 (by simp [go_sem, *])
    obtain ⟨hg8, hs8⟩ := below_c (w := w) hb8 (by first | (go_grown; done) | exact below_drewN (by go_grown) _)
    clear ca_7 cb_7 cc_7 hb8 hg7 hs7
    go_wp2
    go_returns
    exact ⟨rfl, by go_grown⟩
end Go.Proofs.Ytolifgjkejhlhaa
