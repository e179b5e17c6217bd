/- QuantMoves: the walk: whatever the arguments are, it returns true and writes nothing that was there. -/
import Derived.Test.YtolifgjkejhlhaaQLaw
import Derived.OpenShut
import Derived.BigQuiet
import Derived.Test.YtolifgjkejhlhaaMinMax
set_option linter.unusedVariables false
set_option linter.unusedSimpArgs false
namespace Go.Proofs.Ytolifgjkejhlhaa
open Go.RowKit

theorem moves_facts (L R B n D : Int) (hg : GV L R B) (hm : GV (L + D) (R + D) B) : ∃ p k f m : Int, f ≤ m ∧ (L ≤ n → n ≤ R → -1099511627776 ≤ p ∧ p ≤ 1099511627776) ∧ Hid (GV L R B ∧ qp L R B (qi L R B n) = p) ∧ Hid (GV (L + D) (R + D) B ∧ qp (L + D) (R + D) B (qi (L + D) (R + D) B (n + D)) = p + D) ∧
    Hid (GV L R B ∧ qi L R B n = k) ∧ Hid (GV (L + D) (R + D) B ∧ qi (L + D) (R + D) B (n + D) = k) ∧ Hid (GV L R B ∧ qe L R B = f) ∧ Hid (GV (L + D) (R + D) B ∧ qe (L + D) (R + D) B = f) ∧
    Hid (GV L (min (R + (R - L)) 1099511627776) B ∧ qe L (min (R + (R - L)) 1099511627776) B = m) := by
  have hw : GV L (min (R + (R - L)) 1099511627776) B := by
    obtain ⟨h1, h2, h3, h4, h5⟩ := hg
    exact ⟨h1, by omega, by omega, h4, h5⟩
  obtain ⟨q1, q2⟩ := qi_bd L R B n hg
  obtain ⟨p1, p2⟩ := qp_bd L R B _ hg q1 q2
  refine ⟨_, _, _, _, qe_wide L R (min (R + (R - L)) 1099511627776) B hg ?_, ?_, Lib.hid ⟨hg, rfl⟩, Lib.hid ⟨hm, ?_⟩, Lib.hid ⟨hg, rfl⟩, Lib.hid ⟨hm, ?_⟩, Lib.hid ⟨hg, rfl⟩, Lib.hid ⟨hm, ?_⟩, Lib.hid ⟨hw, rfl⟩⟩
  · obtain ⟨h1, h2, h3, h4, h5⟩ := hg; omega
  · obtain ⟨h1, h2, h3, h4, h5⟩ := hg; omega
  · rw [qi_move, qp_move]
  · rw [qi_move]
  · rw [qe_move]

set_option maxRecDepth 100000 in
set_option maxHeartbeats 8000000 in
theorem walk_QuantMoves (a0 a1 a2 a3 a4 : Int) (w0 : (Lit.int .i64 a0).wf = true) (w1 : (Lit.int .u64 a1).wf = true) (w2 : (Lit.int .u8 a2).wf = true) (w3 : (Lit.int .i64 a3).wf = true) (w4 : (Lit.int .u64 a4).wf = true) (w : World) :
    Calls Try.prog 12 #[.int .i64 a0, .int .u64 a1, .int .u8 a2, .int .i64 a3, .int .u64 a4] w fun e w' => e = .returned (.bool true) ∧ Below w.heap.size w w' := by
  have w0 := bounds_i64 w0
  have w1 := bounds_u64 w1
  have w2 := bounds_u8 w2
  have w3 := bounds_i64 w3
  have w4 := bounds_u64 w4
  obtain ⟨q, hq⟩ : ∃ q, a0.tdiv 2 = q := ⟨_, rfl⟩
  have hq1 : -9223372036854775808 ≤ q ∧ q ≤ 9223372036854775807 := by
    rcases Int.le_total 0 a0 with h | h
    · rw [Int.tdiv_eq_ediv_of_nonneg h] at hq; omega
    · have := Int.neg_tdiv (-a0) 2
      rw [Int.neg_neg, Int.tdiv_eq_ediv_of_nonneg (by omega : 0 ≤ -a0)] at this
      omega
  obtain ⟨r, hr⟩ : ∃ r, a1 / 2 = r := ⟨_, rfl⟩
  have hr1 : 0 ≤ r ∧ r ≤ 18446744073709551615 := by omega
  obtain ⟨q1, q2⟩ := hq1
  have hG := GV_grid q r a2 w2.1
  obtain ⟨L, hL⟩ : ∃ L, gl q = L := ⟨_, rfl⟩
  obtain ⟨R, hR⟩ : ∃ R, gl q + gw r = R := ⟨_, rfl⟩
  obtain ⟨B, hB⟩ : ∃ B, gb a2 = B := ⟨_, rfl⟩
  rw [hL, hB] at hG
  rw [← hL, hR, hL] at hG
  have H0 := Lib.hid (show ((-9223372036854775808 ≤ q ∧ q ≤ 9223372036854775807) ∧ (0 ≤ r ∧ r ≤ 18446744073709551615) ∧ 0 ≤ a2 ∧ a2 ≤ 255) ∧ gl q = L ∧ gl q + gw r = R ∧ gb a2 = B from ⟨⟨⟨q1, q2⟩, hr1, w2⟩, hL, hR, hB⟩)
  clear hL hR hB hr1
  have HG := Lib.hid hG
  obtain ⟨l1, l2, l3, b1, b2⟩ := hG
  have n0 := Int.emod_nonneg a4 (show R - L + 1 ≠ 0 by omega)
  have n1 := Int.emod_lt_of_pos a4 (show 0 < R - L + 1 by omega)
  obtain ⟨n, hn⟩ : ∃ n, L + a4 % (R - L + 1) = n := ⟨_, rfl⟩
  have m0 : L ≤ n := by omega
  have m1 : n ≤ R := by omega
  have HI := Lib.hid (show GV L R B ∧ (0 ≤ a4 ∧ a4 ≤ 18446744073709551615) ∧ L + a4 % (R - L + 1) = n from ⟨HG.out, w4, hn⟩)
  clear hn n0 n1 w4
  obtain ⟨D, hD⟩ : ∃ D, a3.tmod 274877906944 = D := ⟨_, rfl⟩
  have d0 : -274877906944 < D ∧ D < 274877906944 := by rw [← hD]; exact ⟨by have := Int.lt_tmod_of_pos a3 (show (0 : Int) < 274877906944 by decide); omega, Int.tmod_lt_of_pos _ (by decide)⟩
  obtain ⟨d1, d2⟩ := d0
  obtain ⟨y1, y2⟩ := w1
  clear w0 w2 w3
  rcases (show (0 < D ∧ 1099511627776 < R + D) ∨ (0 < D ∧ R + D ≤ 1099511627776) ∨ (D ≤ 0 ∧ L + D < -1099511627776) ∨ (D ≤ 0 ∧ -1099511627776 ≤ L + D) by omega) with ⟨c1, c2⟩ | ⟨c1, c2⟩ | ⟨c1, c2⟩ | ⟨c1, c2⟩
  · skip
    have hz := moves_facts L R B n 0 HG.out (by simp only [Int.add_zero]; exact HG.out)
    simp only [Int.add_zero] at hz
    obtain ⟨p, k, f, m, hfm, hp, H1, H2, H3, H4, H5, H6, H7⟩ := hz
    obtain ⟨p1, p2⟩ := hp m0 m1
    clear hp
    go_enter Try.func12, Try.ntmps12
    go_wp2_with fail
    with_reducible refine (grid_val _ _ _ _ _ _ H0.out _).mono ?_
    rintro e w1 ⟨rfl, hb1⟩
    obtain ⟨hg1, hs1⟩ := below_c (w := w) hb1 (by first | (go_grown; done) | exact below_drewN (by go_grown) _)
    clear hb1
    go_wp2_with fail
    with_reducible refine (inside_val _ _ _ _ _ HI.out _).mono ?_
    rintro e w2 ⟨rfl, hb2⟩
    have ca_2 : w2.cell? ⟨w1.heap.size, 0, none⟩ = some (.int .i64 L) := cell_later hb2 (by simp [go_sem])
    have cb_2 : w2.cell? ⟨w1.heap.size, 1, none⟩ = some (.int .i64 R) := cell_later hb2 (by simp [go_sem])
    have cc_2 : w2.cell? ⟨w1.heap.size, 2, none⟩ = some (.int .i64 B) := cell_later hb2 (by simp [go_sem])
    have da_2 : w2.cell? ⟨w1.heap.size + 1, 0, none⟩ = some (.int .i64 (L)) := cell_later hb2 (by simp [go_sem])
    have db_2 : w2.cell? ⟨w1.heap.size + 1, 1, none⟩ = some (.int .i64 (R)) := cell_later hb2 (by simp [go_sem])
    have dc_2 : w2.cell? ⟨w1.heap.size + 1, 2, none⟩ = some (.int .i64 B) := cell_later hb2 (by simp [go_sem])
    obtain ⟨hg2, hs2⟩ := below_c (w := w) hb2 (by first | (go_grown; done) | exact below_drewN (by go_grown) _)
    clear hb2 hg1 hs1
    go_wp2_with fail
    with_reducible refine (gnear_is L R B n p H1.out _).mono ?_
    rintro e w3 ⟨rfl, hb3⟩
    have ca_3 : w3.cell? ⟨w1.heap.size, 0, none⟩ = some (.int .i64 L) := by first | exact cell_later hb3 ca_2 | exact cell_later hb3 (cell_later ((Below.refl _ _).alloc (Nat.le_refl _) _) ca_2) | exact cell_later hb3 (by simp [go_sem, *])
    have cb_3 : w3.cell? ⟨w1.heap.size, 1, none⟩ = some (.int .i64 R) := by first | exact cell_later hb3 cb_2 | exact cell_later hb3 (cell_later ((Below.refl _ _).alloc (Nat.le_refl _) _) cb_2) | exact cell_later hb3 (by simp [go_sem, *])
    have cc_3 : w3.cell? ⟨w1.heap.size, 2, none⟩ = some (.int .i64 B) := by first | exact cell_later hb3 cc_2 | exact cell_later hb3 (cell_later ((Below.refl _ _).alloc (Nat.le_refl _) _) cc_2) | exact cell_later hb3 (by simp [go_sem, *])
    have da_3 : w3.cell? ⟨w1.heap.size + 1, 0, none⟩ = some (.int .i64 (L)) := by first | exact cell_later hb3 da_2 | exact cell_later hb3 (cell_later ((Below.refl _ _).alloc (Nat.le_refl _) _) da_2) | exact cell_later hb3 (by simp [go_sem, *])
    have db_3 : w3.cell? ⟨w1.heap.size + 1, 1, none⟩ = some (.int .i64 (R)) := by first | exact cell_later hb3 db_2 | exact cell_later hb3 (cell_later ((Below.refl _ _).alloc (Nat.le_refl _) _) db_2) | exact cell_later hb3 (by simp [go_sem, *])
    have dc_3 : w3.cell? ⟨w1.heap.size + 1, 2, none⟩ = some (.int .i64 B) := by first | exact cell_later hb3 dc_2 | exact cell_later hb3 (cell_later ((Below.refl _ _).alloc (Nat.le_refl _) _) dc_2) | exact cell_later hb3 (by simp [go_sem, *])
    obtain ⟨hg3, hs3⟩ := below_c (w := w) hb3 (by first | (go_grown; done) | exact below_drewN (by go_grown) _)
    clear ca_2 cb_2 cc_2 da_2 db_2 dc_2 hb3 hg2 hs2
    go_wp2_with fail
    with_reducible refine (gnear_is L R B n p H2.out _).mono ?_
    rintro e w4 ⟨rfl, hb4⟩
    have ca_4 : w4.cell? ⟨w1.heap.size, 0, none⟩ = some (.int .i64 L) := by first | exact cell_later hb4 ca_3 | exact cell_later hb4 (cell_later ((Below.refl _ _).alloc (Nat.le_refl _) _) ca_3) | exact cell_later hb4 (by simp [go_sem, *])
    have cb_4 : w4.cell? ⟨w1.heap.size, 1, none⟩ = some (.int .i64 R) := by first | exact cell_later hb4 cb_3 | exact cell_later hb4 (cell_later ((Below.refl _ _).alloc (Nat.le_refl _) _) cb_3) | exact cell_later hb4 (by simp [go_sem, *])
    have cc_4 : w4.cell? ⟨w1.heap.size, 2, none⟩ = some (.int .i64 B) := by first | exact cell_later hb4 cc_3 | exact cell_later hb4 (cell_later ((Below.refl _ _).alloc (Nat.le_refl _) _) cc_3) | exact cell_later hb4 (by simp [go_sem, *])
    have da_4 : w4.cell? ⟨w1.heap.size + 1, 0, none⟩ = some (.int .i64 (L)) := by first | exact cell_later hb4 da_3 | exact cell_later hb4 (cell_later ((Below.refl _ _).alloc (Nat.le_refl _) _) da_3) | exact cell_later hb4 (by simp [go_sem, *])
    have db_4 : w4.cell? ⟨w1.heap.size + 1, 1, none⟩ = some (.int .i64 (R)) := by first | exact cell_later hb4 db_3 | exact cell_later hb4 (cell_later ((Below.refl _ _).alloc (Nat.le_refl _) _) db_3) | exact cell_later hb4 (by simp [go_sem, *])
    have dc_4 : w4.cell? ⟨w1.heap.size + 1, 2, none⟩ = some (.int .i64 B) := by first | exact cell_later hb4 dc_3 | exact cell_later hb4 (cell_later ((Below.refl _ _).alloc (Nat.le_refl _) _) dc_3) | exact cell_later hb4 (by simp [go_sem, *])
    obtain ⟨hg4, hs4⟩ := below_c (w := w) hb4 (by first | (go_grown; done) | exact below_drewN (by go_grown) _)
    clear ca_3 cb_3 cc_3 da_3 db_3 dc_3 hb4 hg3 hs3
    go_wp2_with fail
    with_reducible refine (index_is L R B n k H3.out _).mono ?_
    rintro e w5 ⟨rfl, hb5⟩
    have ca_5 : w5.cell? ⟨w1.heap.size, 0, none⟩ = some (.int .i64 L) := by first | exact cell_later hb5 ca_4 | exact cell_later hb5 (cell_later ((Below.refl _ _).alloc (Nat.le_refl _) _) ca_4) | exact cell_later hb5 (by simp [go_sem, *])
    have cb_5 : w5.cell? ⟨w1.heap.size, 1, none⟩ = some (.int .i64 R) := by first | exact cell_later hb5 cb_4 | exact cell_later hb5 (cell_later ((Below.refl _ _).alloc (Nat.le_refl _) _) cb_4) | exact cell_later hb5 (by simp [go_sem, *])
    have cc_5 : w5.cell? ⟨w1.heap.size, 2, none⟩ = some (.int .i64 B) := by first | exact cell_later hb5 cc_4 | exact cell_later hb5 (cell_later ((Below.refl _ _).alloc (Nat.le_refl _) _) cc_4) | exact cell_later hb5 (by simp [go_sem, *])
    have da_5 : w5.cell? ⟨w1.heap.size + 1, 0, none⟩ = some (.int .i64 (L)) := by first | exact cell_later hb5 da_4 | exact cell_later hb5 (cell_later ((Below.refl _ _).alloc (Nat.le_refl _) _) da_4) | exact cell_later hb5 (by simp [go_sem, *])
    have db_5 : w5.cell? ⟨w1.heap.size + 1, 1, none⟩ = some (.int .i64 (R)) := by first | exact cell_later hb5 db_4 | exact cell_later hb5 (cell_later ((Below.refl _ _).alloc (Nat.le_refl _) _) db_4) | exact cell_later hb5 (by simp [go_sem, *])
    have dc_5 : w5.cell? ⟨w1.heap.size + 1, 2, none⟩ = some (.int .i64 B) := by first | exact cell_later hb5 dc_4 | exact cell_later hb5 (cell_later ((Below.refl _ _).alloc (Nat.le_refl _) _) dc_4) | exact cell_later hb5 (by simp [go_sem, *])
    obtain ⟨hg5, hs5⟩ := below_c (w := w) hb5 (by first | (go_grown; done) | exact below_drewN (by go_grown) _)
    clear ca_4 cb_4 cc_4 da_4 db_4 dc_4 hb5 hg4 hs4
    go_wp2_with fail
    with_reducible refine (index_is L R B n k H4.out _).mono ?_
    rintro e w6 ⟨rfl, hb6⟩
    have ca_6 : w6.cell? ⟨w1.heap.size, 0, none⟩ = some (.int .i64 L) := by first | exact cell_later hb6 ca_5 | exact cell_later hb6 (cell_later ((Below.refl _ _).alloc (Nat.le_refl _) _) ca_5) | exact cell_later hb6 (by simp [go_sem, *])
    have cb_6 : w6.cell? ⟨w1.heap.size, 1, none⟩ = some (.int .i64 R) := by first | exact cell_later hb6 cb_5 | exact cell_later hb6 (cell_later ((Below.refl _ _).alloc (Nat.le_refl _) _) cb_5) | exact cell_later hb6 (by simp [go_sem, *])
    have cc_6 : w6.cell? ⟨w1.heap.size, 2, none⟩ = some (.int .i64 B) := by first | exact cell_later hb6 cc_5 | exact cell_later hb6 (cell_later ((Below.refl _ _).alloc (Nat.le_refl _) _) cc_5) | exact cell_later hb6 (by simp [go_sem, *])
    have da_6 : w6.cell? ⟨w1.heap.size + 1, 0, none⟩ = some (.int .i64 (L)) := by first | exact cell_later hb6 da_5 | exact cell_later hb6 (cell_later ((Below.refl _ _).alloc (Nat.le_refl _) _) da_5) | exact cell_later hb6 (by simp [go_sem, *])
    have db_6 : w6.cell? ⟨w1.heap.size + 1, 1, none⟩ = some (.int .i64 (R)) := by first | exact cell_later hb6 db_5 | exact cell_later hb6 (cell_later ((Below.refl _ _).alloc (Nat.le_refl _) _) db_5) | exact cell_later hb6 (by simp [go_sem, *])
    have dc_6 : w6.cell? ⟨w1.heap.size + 1, 2, none⟩ = some (.int .i64 B) := by first | exact cell_later hb6 dc_5 | exact cell_later hb6 (cell_later ((Below.refl _ _).alloc (Nat.le_refl _) _) dc_5) | exact cell_later hb6 (by simp [go_sem, *])
    obtain ⟨hg6, hs6⟩ := below_c (w := w) hb6 (by first | (go_grown; done) | exact below_drewN (by go_grown) _)
    clear ca_5 cb_5 cc_5 da_5 db_5 dc_5 hb6 hg5 hs5
    go_wp2_with fail
    with_reducible refine (error_is L R B f H5.out _).mono ?_
    rintro e w7 ⟨rfl, hb7⟩
    have ca_7 : w7.cell? ⟨w1.heap.size, 0, none⟩ = some (.int .i64 L) := by first | exact cell_later hb7 ca_6 | exact cell_later hb7 (cell_later ((Below.refl _ _).alloc (Nat.le_refl _) _) ca_6) | exact cell_later hb7 (by simp [go_sem, *])
    have cb_7 : w7.cell? ⟨w1.heap.size, 1, none⟩ = some (.int .i64 R) := by first | exact cell_later hb7 cb_6 | exact cell_later hb7 (cell_later ((Below.refl _ _).alloc (Nat.le_refl _) _) cb_6) | exact cell_later hb7 (by simp [go_sem, *])
    have cc_7 : w7.cell? ⟨w1.heap.size, 2, none⟩ = some (.int .i64 B) := by first | exact cell_later hb7 cc_6 | exact cell_later hb7 (cell_later ((Below.refl _ _).alloc (Nat.le_refl _) _) cc_6) | exact cell_later hb7 (by simp [go_sem, *])
    have da_7 : w7.cell? ⟨w1.heap.size + 1, 0, none⟩ = some (.int .i64 (L)) := by first | exact cell_later hb7 da_6 | exact cell_later hb7 (cell_later ((Below.refl _ _).alloc (Nat.le_refl _) _) da_6) | exact cell_later hb7 (by simp [go_sem, *])
    have db_7 : w7.cell? ⟨w1.heap.size + 1, 1, none⟩ = some (.int .i64 (R)) := by first | exact cell_later hb7 db_6 | exact cell_later hb7 (cell_later ((Below.refl _ _).alloc (Nat.le_refl _) _) db_6) | exact cell_later hb7 (by simp [go_sem, *])
    have dc_7 : w7.cell? ⟨w1.heap.size + 1, 2, none⟩ = some (.int .i64 B) := by first | exact cell_later hb7 dc_6 | exact cell_later hb7 (cell_later ((Below.refl _ _).alloc (Nat.le_refl _) _) dc_6) | exact cell_later hb7 (by simp [go_sem, *])
    obtain ⟨hg7, hs7⟩ := below_c (w := w) hb7 (by first | (go_grown; done) | exact below_drewN (by go_grown) _)
    clear ca_6 cb_6 cc_6 da_6 db_6 dc_6 hb7 hg6 hs6
    go_wp2_with fail
    with_reducible refine (error_is L R B f H6.out _).mono ?_
    rintro e w8 ⟨rfl, hb8⟩
    have ca_8 : w8.cell? ⟨w1.heap.size, 0, none⟩ = some (.int .i64 L) := by first | exact cell_later hb8 ca_7 | exact cell_later hb8 (cell_later ((Below.refl _ _).alloc (Nat.le_refl _) _) ca_7) | exact cell_later hb8 (by simp [go_sem, *])
    have cb_8 : w8.cell? ⟨w1.heap.size, 1, none⟩ = some (.int .i64 R) := by first | exact cell_later hb8 cb_7 | exact cell_later hb8 (cell_later ((Below.refl _ _).alloc (Nat.le_refl _) _) cb_7) | exact cell_later hb8 (by simp [go_sem, *])
    have cc_8 : w8.cell? ⟨w1.heap.size, 2, none⟩ = some (.int .i64 B) := by first | exact cell_later hb8 cc_7 | exact cell_later hb8 (cell_later ((Below.refl _ _).alloc (Nat.le_refl _) _) cc_7) | exact cell_later hb8 (by simp [go_sem, *])
    have da_8 : w8.cell? ⟨w1.heap.size + 1, 0, none⟩ = some (.int .i64 (L)) := by first | exact cell_later hb8 da_7 | exact cell_later hb8 (cell_later ((Below.refl _ _).alloc (Nat.le_refl _) _) da_7) | exact cell_later hb8 (by simp [go_sem, *])
    have db_8 : w8.cell? ⟨w1.heap.size + 1, 1, none⟩ = some (.int .i64 (R)) := by first | exact cell_later hb8 db_7 | exact cell_later hb8 (cell_later ((Below.refl _ _).alloc (Nat.le_refl _) _) db_7) | exact cell_later hb8 (by simp [go_sem, *])
    have dc_8 : w8.cell? ⟨w1.heap.size + 1, 2, none⟩ = some (.int .i64 B) := by first | exact cell_later hb8 dc_7 | exact cell_later hb8 (cell_later ((Below.refl _ _).alloc (Nat.le_refl _) _) dc_7) | exact cell_later hb8 (by simp [go_sem, *])
    obtain ⟨hg8, hs8⟩ := below_c (w := w) hb8 (by first | (go_grown; done) | exact below_drewN (by go_grown) _)
    clear ca_7 cb_7 cc_7 da_7 db_7 dc_7 hb8 hg7 hs7
    go_wp2_with (first | refine wpList_min2 _ rfl _ _ _ rfl _ _ _ rfl rfl ?_ | refine wpList_max2 _ rfl _ _ _ rfl _ _ _ rfl rfl ?_)
    with_reducible refine (error_is L (min (R + (R - L)) 1099511627776) B m H7.out _).mono ?_
    rintro e w9 ⟨rfl, hb9⟩
    have ca_9 : w9.cell? ⟨w1.heap.size, 0, none⟩ = some (.int .i64 L) := by first | exact cell_later hb9 ca_8 | exact cell_later hb9 (cell_later ((Below.refl _ _).alloc (Nat.le_refl _) _) ca_8) | exact cell_later hb9 (by simp [go_sem, *])
    have cb_9 : w9.cell? ⟨w1.heap.size, 1, none⟩ = some (.int .i64 R) := by first | exact cell_later hb9 cb_8 | exact cell_later hb9 (cell_later ((Below.refl _ _).alloc (Nat.le_refl _) _) cb_8) | exact cell_later hb9 (by simp [go_sem, *])
    have cc_9 : w9.cell? ⟨w1.heap.size, 2, none⟩ = some (.int .i64 B) := by first | exact cell_later hb9 cc_8 | exact cell_later hb9 (cell_later ((Below.refl _ _).alloc (Nat.le_refl _) _) cc_8) | exact cell_later hb9 (by simp [go_sem, *])
    have da_9 : w9.cell? ⟨w1.heap.size + 1, 0, none⟩ = some (.int .i64 (L)) := by first | exact cell_later hb9 da_8 | exact cell_later hb9 (cell_later ((Below.refl _ _).alloc (Nat.le_refl _) _) da_8) | exact cell_later hb9 (by simp [go_sem, *])
    have db_9 : w9.cell? ⟨w1.heap.size + 1, 1, none⟩ = some (.int .i64 (R)) := by first | exact cell_later hb9 db_8 | exact cell_later hb9 (cell_later ((Below.refl _ _).alloc (Nat.le_refl _) _) db_8) | exact cell_later hb9 (by simp [go_sem, *])
    have dc_9 : w9.cell? ⟨w1.heap.size + 1, 2, none⟩ = some (.int .i64 B) := by first | exact cell_later hb9 dc_8 | exact cell_later hb9 (cell_later ((Below.refl _ _).alloc (Nat.le_refl _) _) dc_8) | exact cell_later hb9 (by simp [go_sem, *])
    obtain ⟨hg9, hs9⟩ := below_c (w := w) hb9 (by first | (go_grown; done) | exact below_drewN (by go_grown) _)
    clear ca_8 cb_8 cc_8 da_8 db_8 dc_8 hb9 hg8 hs8
    go_wp2_with fail
    with_reducible refine (awake21 _).mono ?_
    rintro e w10 ⟨rfl, hb10⟩
    have ca_10 : w10.cell? ⟨w1.heap.size, 0, none⟩ = some (.int .i64 L) := by first | exact cell_later hb10 ca_9 | exact cell_later hb10 (cell_later ((Below.refl _ _).alloc (Nat.le_refl _) _) ca_9) | exact cell_later hb10 (by simp [go_sem, *])
    have cb_10 : w10.cell? ⟨w1.heap.size, 1, none⟩ = some (.int .i64 R) := by first | exact cell_later hb10 cb_9 | exact cell_later hb10 (cell_later ((Below.refl _ _).alloc (Nat.le_refl _) _) cb_9) | exact cell_later hb10 (by simp [go_sem, *])
    have cc_10 : w10.cell? ⟨w1.heap.size, 2, none⟩ = some (.int .i64 B) := by first | exact cell_later hb10 cc_9 | exact cell_later hb10 (cell_later ((Below.refl _ _).alloc (Nat.le_refl _) _) cc_9) | exact cell_later hb10 (by simp [go_sem, *])
    have da_10 : w10.cell? ⟨w1.heap.size + 1, 0, none⟩ = some (.int .i64 (L)) := by first | exact cell_later hb10 da_9 | exact cell_later hb10 (cell_later ((Below.refl _ _).alloc (Nat.le_refl _) _) da_9) | exact cell_later hb10 (by simp [go_sem, *])
    have db_10 : w10.cell? ⟨w1.heap.size + 1, 1, none⟩ = some (.int .i64 (R)) := by first | exact cell_later hb10 db_9 | exact cell_later hb10 (cell_later ((Below.refl _ _).alloc (Nat.le_refl _) _) db_9) | exact cell_later hb10 (by simp [go_sem, *])
    have dc_10 : w10.cell? ⟨w1.heap.size + 1, 2, none⟩ = some (.int .i64 B) := by first | exact cell_later hb10 dc_9 | exact cell_later hb10 (cell_later ((Below.refl _ _).alloc (Nat.le_refl _) _) dc_9) | exact cell_later hb10 (by simp [go_sem, *])
    obtain ⟨hg10, hs10⟩ := below_c (w := w) hb10 (by first | (go_grown; done) | exact below_drewN (by go_grown) _)
    clear ca_9 cb_9 cc_9 da_9 db_9 dc_9 hb10 hg9 hs9
    go_wp2
    go_returns
    exact ⟨rfl, by go_grown⟩
  · skip
    obtain ⟨p, k, f, m, hfm, hp, H1, H2, H3, H4, H5, H6, H7⟩ := moves_facts L R B n D HG.out ⟨by omega, by omega, by omega, b1, b2⟩
    obtain ⟨p1, p2⟩ := hp m0 m1
    clear hp
    go_enter Try.func12, Try.ntmps12
    go_wp2_with fail
    with_reducible refine (grid_val _ _ _ _ _ _ H0.out _).mono ?_
    rintro e w1 ⟨rfl, hb1⟩
    obtain ⟨hg1, hs1⟩ := below_c (w := w) hb1 (by first | (go_grown; done) | exact below_drewN (by go_grown) _)
    clear hb1
    go_wp2_with fail
    with_reducible refine (inside_val _ _ _ _ _ HI.out _).mono ?_
    rintro e w2 ⟨rfl, hb2⟩
    have ca_2 : w2.cell? ⟨w1.heap.size, 0, none⟩ = some (.int .i64 L) := cell_later hb2 (by simp [go_sem])
    have cb_2 : w2.cell? ⟨w1.heap.size, 1, none⟩ = some (.int .i64 R) := cell_later hb2 (by simp [go_sem])
    have cc_2 : w2.cell? ⟨w1.heap.size, 2, none⟩ = some (.int .i64 B) := cell_later hb2 (by simp [go_sem])
    have da_2 : w2.cell? ⟨w1.heap.size + 1, 0, none⟩ = some (.int .i64 (L + D)) := cell_later hb2 (by simp [go_sem])
    have db_2 : w2.cell? ⟨w1.heap.size + 1, 1, none⟩ = some (.int .i64 (R + D)) := cell_later hb2 (by simp [go_sem])
    have dc_2 : w2.cell? ⟨w1.heap.size + 1, 2, none⟩ = some (.int .i64 B) := cell_later hb2 (by simp [go_sem])
    obtain ⟨hg2, hs2⟩ := below_c (w := w) hb2 (by first | (go_grown; done) | exact below_drewN (by go_grown) _)
    clear hb2 hg1 hs1
    go_wp2_with fail
    with_reducible refine (gnear_is L R B n p H1.out _).mono ?_
    rintro e w3 ⟨rfl, hb3⟩
    have ca_3 : w3.cell? ⟨w1.heap.size, 0, none⟩ = some (.int .i64 L) := by first | exact cell_later hb3 ca_2 | exact cell_later hb3 (cell_later ((Below.refl _ _).alloc (Nat.le_refl _) _) ca_2) | exact cell_later hb3 (by simp [go_sem, *])
    have cb_3 : w3.cell? ⟨w1.heap.size, 1, none⟩ = some (.int .i64 R) := by first | exact cell_later hb3 cb_2 | exact cell_later hb3 (cell_later ((Below.refl _ _).alloc (Nat.le_refl _) _) cb_2) | exact cell_later hb3 (by simp [go_sem, *])
    have cc_3 : w3.cell? ⟨w1.heap.size, 2, none⟩ = some (.int .i64 B) := by first | exact cell_later hb3 cc_2 | exact cell_later hb3 (cell_later ((Below.refl _ _).alloc (Nat.le_refl _) _) cc_2) | exact cell_later hb3 (by simp [go_sem, *])
    have da_3 : w3.cell? ⟨w1.heap.size + 1, 0, none⟩ = some (.int .i64 (L + D)) := by first | exact cell_later hb3 da_2 | exact cell_later hb3 (cell_later ((Below.refl _ _).alloc (Nat.le_refl _) _) da_2) | exact cell_later hb3 (by simp [go_sem, *])
    have db_3 : w3.cell? ⟨w1.heap.size + 1, 1, none⟩ = some (.int .i64 (R + D)) := by first | exact cell_later hb3 db_2 | exact cell_later hb3 (cell_later ((Below.refl _ _).alloc (Nat.le_refl _) _) db_2) | exact cell_later hb3 (by simp [go_sem, *])
    have dc_3 : w3.cell? ⟨w1.heap.size + 1, 2, none⟩ = some (.int .i64 B) := by first | exact cell_later hb3 dc_2 | exact cell_later hb3 (cell_later ((Below.refl _ _).alloc (Nat.le_refl _) _) dc_2) | exact cell_later hb3 (by simp [go_sem, *])
    obtain ⟨hg3, hs3⟩ := below_c (w := w) hb3 (by first | (go_grown; done) | exact below_drewN (by go_grown) _)
    clear ca_2 cb_2 cc_2 da_2 db_2 dc_2 hb3 hg2 hs2
    go_wp2_with fail
    with_reducible refine (gnear_is (L + D) (R + D) B (n + D) (p + D) H2.out _).mono ?_
    rintro e w4 ⟨rfl, hb4⟩
    have ca_4 : w4.cell? ⟨w1.heap.size, 0, none⟩ = some (.int .i64 L) := by first | exact cell_later hb4 ca_3 | exact cell_later hb4 (cell_later ((Below.refl _ _).alloc (Nat.le_refl _) _) ca_3) | exact cell_later hb4 (by simp [go_sem, *])
    have cb_4 : w4.cell? ⟨w1.heap.size, 1, none⟩ = some (.int .i64 R) := by first | exact cell_later hb4 cb_3 | exact cell_later hb4 (cell_later ((Below.refl _ _).alloc (Nat.le_refl _) _) cb_3) | exact cell_later hb4 (by simp [go_sem, *])
    have cc_4 : w4.cell? ⟨w1.heap.size, 2, none⟩ = some (.int .i64 B) := by first | exact cell_later hb4 cc_3 | exact cell_later hb4 (cell_later ((Below.refl _ _).alloc (Nat.le_refl _) _) cc_3) | exact cell_later hb4 (by simp [go_sem, *])
    have da_4 : w4.cell? ⟨w1.heap.size + 1, 0, none⟩ = some (.int .i64 (L + D)) := by first | exact cell_later hb4 da_3 | exact cell_later hb4 (cell_later ((Below.refl _ _).alloc (Nat.le_refl _) _) da_3) | exact cell_later hb4 (by simp [go_sem, *])
    have db_4 : w4.cell? ⟨w1.heap.size + 1, 1, none⟩ = some (.int .i64 (R + D)) := by first | exact cell_later hb4 db_3 | exact cell_later hb4 (cell_later ((Below.refl _ _).alloc (Nat.le_refl _) _) db_3) | exact cell_later hb4 (by simp [go_sem, *])
    have dc_4 : w4.cell? ⟨w1.heap.size + 1, 2, none⟩ = some (.int .i64 B) := by first | exact cell_later hb4 dc_3 | exact cell_later hb4 (cell_later ((Below.refl _ _).alloc (Nat.le_refl _) _) dc_3) | exact cell_later hb4 (by simp [go_sem, *])
    obtain ⟨hg4, hs4⟩ := below_c (w := w) hb4 (by first | (go_grown; done) | exact below_drewN (by go_grown) _)
    clear ca_3 cb_3 cc_3 da_3 db_3 dc_3 hb4 hg3 hs3
    go_wp2_with fail
    with_reducible refine (index_is L R B n k H3.out _).mono ?_
    rintro e w5 ⟨rfl, hb5⟩
    have ca_5 : w5.cell? ⟨w1.heap.size, 0, none⟩ = some (.int .i64 L) := by first | exact cell_later hb5 ca_4 | exact cell_later hb5 (cell_later ((Below.refl _ _).alloc (Nat.le_refl _) _) ca_4) | exact cell_later hb5 (by simp [go_sem, *])
    have cb_5 : w5.cell? ⟨w1.heap.size, 1, none⟩ = some (.int .i64 R) := by first | exact cell_later hb5 cb_4 | exact cell_later hb5 (cell_later ((Below.refl _ _).alloc (Nat.le_refl _) _) cb_4) | exact cell_later hb5 (by simp [go_sem, *])
    have cc_5 : w5.cell? ⟨w1.heap.size, 2, none⟩ = some (.int .i64 B) := by first | exact cell_later hb5 cc_4 | exact cell_later hb5 (cell_later ((Below.refl _ _).alloc (Nat.le_refl _) _) cc_4) | exact cell_later hb5 (by simp [go_sem, *])
    have da_5 : w5.cell? ⟨w1.heap.size + 1, 0, none⟩ = some (.int .i64 (L + D)) := by first | exact cell_later hb5 da_4 | exact cell_later hb5 (cell_later ((Below.refl _ _).alloc (Nat.le_refl _) _) da_4) | exact cell_later hb5 (by simp [go_sem, *])
    have db_5 : w5.cell? ⟨w1.heap.size + 1, 1, none⟩ = some (.int .i64 (R + D)) := by first | exact cell_later hb5 db_4 | exact cell_later hb5 (cell_later ((Below.refl _ _).alloc (Nat.le_refl _) _) db_4) | exact cell_later hb5 (by simp [go_sem, *])
    have dc_5 : w5.cell? ⟨w1.heap.size + 1, 2, none⟩ = some (.int .i64 B) := by first | exact cell_later hb5 dc_4 | exact cell_later hb5 (cell_later ((Below.refl _ _).alloc (Nat.le_refl _) _) dc_4) | exact cell_later hb5 (by simp [go_sem, *])
    obtain ⟨hg5, hs5⟩ := below_c (w := w) hb5 (by first | (go_grown; done) | exact below_drewN (by go_grown) _)
    clear ca_4 cb_4 cc_4 da_4 db_4 dc_4 hb5 hg4 hs4
    go_wp2_with fail
    with_reducible refine (index_is (L + D) (R + D) B (n + D) k H4.out _).mono ?_
    rintro e w6 ⟨rfl, hb6⟩
    have ca_6 : w6.cell? ⟨w1.heap.size, 0, none⟩ = some (.int .i64 L) := by first | exact cell_later hb6 ca_5 | exact cell_later hb6 (cell_later ((Below.refl _ _).alloc (Nat.le_refl _) _) ca_5) | exact cell_later hb6 (by simp [go_sem, *])
    have cb_6 : w6.cell? ⟨w1.heap.size, 1, none⟩ = some (.int .i64 R) := by first | exact cell_later hb6 cb_5 | exact cell_later hb6 (cell_later ((Below.refl _ _).alloc (Nat.le_refl _) _) cb_5) | exact cell_later hb6 (by simp [go_sem, *])
    have cc_6 : w6.cell? ⟨w1.heap.size, 2, none⟩ = some (.int .i64 B) := by first | exact cell_later hb6 cc_5 | exact cell_later hb6 (cell_later ((Below.refl _ _).alloc (Nat.le_refl _) _) cc_5) | exact cell_later hb6 (by simp [go_sem, *])
    have da_6 : w6.cell? ⟨w1.heap.size + 1, 0, none⟩ = some (.int .i64 (L + D)) := by first | exact cell_later hb6 da_5 | exact cell_later hb6 (cell_later ((Below.refl _ _).alloc (Nat.le_refl _) _) da_5) | exact cell_later hb6 (by simp [go_sem, *])
    have db_6 : w6.cell? ⟨w1.heap.size + 1, 1, none⟩ = some (.int .i64 (R + D)) := by first | exact cell_later hb6 db_5 | exact cell_later hb6 (cell_later ((Below.refl _ _).alloc (Nat.le_refl _) _) db_5) | exact cell_later hb6 (by simp [go_sem, *])
    have dc_6 : w6.cell? ⟨w1.heap.size + 1, 2, none⟩ = some (.int .i64 B) := by first | exact cell_later hb6 dc_5 | exact cell_later hb6 (cell_later ((Below.refl _ _).alloc (Nat.le_refl _) _) dc_5) | exact cell_later hb6 (by simp [go_sem, *])
    obtain ⟨hg6, hs6⟩ := below_c (w := w) hb6 (by first | (go_grown; done) | exact below_drewN (by go_grown) _)
    clear ca_5 cb_5 cc_5 da_5 db_5 dc_5 hb6 hg5 hs5
    go_wp2_with fail
    with_reducible refine (error_is L R B f H5.out _).mono ?_
    rintro e w7 ⟨rfl, hb7⟩
    have ca_7 : w7.cell? ⟨w1.heap.size, 0, none⟩ = some (.int .i64 L) := by first | exact cell_later hb7 ca_6 | exact cell_later hb7 (cell_later ((Below.refl _ _).alloc (Nat.le_refl _) _) ca_6) | exact cell_later hb7 (by simp [go_sem, *])
    have cb_7 : w7.cell? ⟨w1.heap.size, 1, none⟩ = some (.int .i64 R) := by first | exact cell_later hb7 cb_6 | exact cell_later hb7 (cell_later ((Below.refl _ _).alloc (Nat.le_refl _) _) cb_6) | exact cell_later hb7 (by simp [go_sem, *])
    have cc_7 : w7.cell? ⟨w1.heap.size, 2, none⟩ = some (.int .i64 B) := by first | exact cell_later hb7 cc_6 | exact cell_later hb7 (cell_later ((Below.refl _ _).alloc (Nat.le_refl _) _) cc_6) | exact cell_later hb7 (by simp [go_sem, *])
    have da_7 : w7.cell? ⟨w1.heap.size + 1, 0, none⟩ = some (.int .i64 (L + D)) := by first | exact cell_later hb7 da_6 | exact cell_later hb7 (cell_later ((Below.refl _ _).alloc (Nat.le_refl _) _) da_6) | exact cell_later hb7 (by simp [go_sem, *])
    have db_7 : w7.cell? ⟨w1.heap.size + 1, 1, none⟩ = some (.int .i64 (R + D)) := by first | exact cell_later hb7 db_6 | exact cell_later hb7 (cell_later ((Below.refl _ _).alloc (Nat.le_refl _) _) db_6) | exact cell_later hb7 (by simp [go_sem, *])
    have dc_7 : w7.cell? ⟨w1.heap.size + 1, 2, none⟩ = some (.int .i64 B) := by first | exact cell_later hb7 dc_6 | exact cell_later hb7 (cell_later ((Below.refl _ _).alloc (Nat.le_refl _) _) dc_6) | exact cell_later hb7 (by simp [go_sem, *])
    obtain ⟨hg7, hs7⟩ := below_c (w := w) hb7 (by first | (go_grown; done) | exact below_drewN (by go_grown) _)
    clear ca_6 cb_6 cc_6 da_6 db_6 dc_6 hb7 hg6 hs6
    go_wp2_with fail
    with_reducible refine (error_is (L + D) (R + D) B f H6.out _).mono ?_
    rintro e w8 ⟨rfl, hb8⟩
    have ca_8 : w8.cell? ⟨w1.heap.size, 0, none⟩ = some (.int .i64 L) := by first | exact cell_later hb8 ca_7 | exact cell_later hb8 (cell_later ((Below.refl _ _).alloc (Nat.le_refl _) _) ca_7) | exact cell_later hb8 (by simp [go_sem, *])
    have cb_8 : w8.cell? ⟨w1.heap.size, 1, none⟩ = some (.int .i64 R) := by first | exact cell_later hb8 cb_7 | exact cell_later hb8 (cell_later ((Below.refl _ _).alloc (Nat.le_refl _) _) cb_7) | exact cell_later hb8 (by simp [go_sem, *])
    have cc_8 : w8.cell? ⟨w1.heap.size, 2, none⟩ = some (.int .i64 B) := by first | exact cell_later hb8 cc_7 | exact cell_later hb8 (cell_later ((Below.refl _ _).alloc (Nat.le_refl _) _) cc_7) | exact cell_later hb8 (by simp [go_sem, *])
    have da_8 : w8.cell? ⟨w1.heap.size + 1, 0, none⟩ = some (.int .i64 (L + D)) := by first | exact cell_later hb8 da_7 | exact cell_later hb8 (cell_later ((Below.refl _ _).alloc (Nat.le_refl _) _) da_7) | exact cell_later hb8 (by simp [go_sem, *])
    have db_8 : w8.cell? ⟨w1.heap.size + 1, 1, none⟩ = some (.int .i64 (R + D)) := by first | exact cell_later hb8 db_7 | exact cell_later hb8 (cell_later ((Below.refl _ _).alloc (Nat.le_refl _) _) db_7) | exact cell_later hb8 (by simp [go_sem, *])
    have dc_8 : w8.cell? ⟨w1.heap.size + 1, 2, none⟩ = some (.int .i64 B) := by first | exact cell_later hb8 dc_7 | exact cell_later hb8 (cell_later ((Below.refl _ _).alloc (Nat.le_refl _) _) dc_7) | exact cell_later hb8 (by simp [go_sem, *])
    obtain ⟨hg8, hs8⟩ := below_c (w := w) hb8 (by first | (go_grown; done) | exact below_drewN (by go_grown) _)
    clear ca_7 cb_7 cc_7 da_7 db_7 dc_7 hb8 hg7 hs7
    go_wp2_with (first | refine wpList_min2 _ rfl _ _ _ rfl _ _ _ rfl rfl ?_ | refine wpList_max2 _ rfl _ _ _ rfl _ _ _ rfl rfl ?_)
    with_reducible refine (error_is L (min (R + (R - L)) 1099511627776) B m H7.out _).mono ?_
    rintro e w9 ⟨rfl, hb9⟩
    have ca_9 : w9.cell? ⟨w1.heap.size, 0, none⟩ = some (.int .i64 L) := by first | exact cell_later hb9 ca_8 | exact cell_later hb9 (cell_later ((Below.refl _ _).alloc (Nat.le_refl _) _) ca_8) | exact cell_later hb9 (by simp [go_sem, *])
    have cb_9 : w9.cell? ⟨w1.heap.size, 1, none⟩ = some (.int .i64 R) := by first | exact cell_later hb9 cb_8 | exact cell_later hb9 (cell_later ((Below.refl _ _).alloc (Nat.le_refl _) _) cb_8) | exact cell_later hb9 (by simp [go_sem, *])
    have cc_9 : w9.cell? ⟨w1.heap.size, 2, none⟩ = some (.int .i64 B) := by first | exact cell_later hb9 cc_8 | exact cell_later hb9 (cell_later ((Below.refl _ _).alloc (Nat.le_refl _) _) cc_8) | exact cell_later hb9 (by simp [go_sem, *])
    have da_9 : w9.cell? ⟨w1.heap.size + 1, 0, none⟩ = some (.int .i64 (L + D)) := by first | exact cell_later hb9 da_8 | exact cell_later hb9 (cell_later ((Below.refl _ _).alloc (Nat.le_refl _) _) da_8) | exact cell_later hb9 (by simp [go_sem, *])
    have db_9 : w9.cell? ⟨w1.heap.size + 1, 1, none⟩ = some (.int .i64 (R + D)) := by first | exact cell_later hb9 db_8 | exact cell_later hb9 (cell_later ((Below.refl _ _).alloc (Nat.le_refl _) _) db_8) | exact cell_later hb9 (by simp [go_sem, *])
    have dc_9 : w9.cell? ⟨w1.heap.size + 1, 2, none⟩ = some (.int .i64 B) := by first | exact cell_later hb9 dc_8 | exact cell_later hb9 (cell_later ((Below.refl _ _).alloc (Nat.le_refl _) _) dc_8) | exact cell_later hb9 (by simp [go_sem, *])
    obtain ⟨hg9, hs9⟩ := below_c (w := w) hb9 (by first | (go_grown; done) | exact below_drewN (by go_grown) _)
    clear ca_8 cb_8 cc_8 da_8 db_8 dc_8 hb9 hg8 hs8
    go_wp2_with fail
    with_reducible refine (awake21 _).mono ?_
    rintro e w10 ⟨rfl, hb10⟩
    have ca_10 : w10.cell? ⟨w1.heap.size, 0, none⟩ = some (.int .i64 L) := by first | exact cell_later hb10 ca_9 | exact cell_later hb10 (cell_later ((Below.refl _ _).alloc (Nat.le_refl _) _) ca_9) | exact cell_later hb10 (by simp [go_sem, *])
    have cb_10 : w10.cell? ⟨w1.heap.size, 1, none⟩ = some (.int .i64 R) := by first | exact cell_later hb10 cb_9 | exact cell_later hb10 (cell_later ((Below.refl _ _).alloc (Nat.le_refl _) _) cb_9) | exact cell_later hb10 (by simp [go_sem, *])
    have cc_10 : w10.cell? ⟨w1.heap.size, 2, none⟩ = some (.int .i64 B) := by first | exact cell_later hb10 cc_9 | exact cell_later hb10 (cell_later ((Below.refl _ _).alloc (Nat.le_refl _) _) cc_9) | exact cell_later hb10 (by simp [go_sem, *])
    have da_10 : w10.cell? ⟨w1.heap.size + 1, 0, none⟩ = some (.int .i64 (L + D)) := by first | exact cell_later hb10 da_9 | exact cell_later hb10 (cell_later ((Below.refl _ _).alloc (Nat.le_refl _) _) da_9) | exact cell_later hb10 (by simp [go_sem, *])
    have db_10 : w10.cell? ⟨w1.heap.size + 1, 1, none⟩ = some (.int .i64 (R + D)) := by first | exact cell_later hb10 db_9 | exact cell_later hb10 (cell_later ((Below.refl _ _).alloc (Nat.le_refl _) _) db_9) | exact cell_later hb10 (by simp [go_sem, *])
    have dc_10 : w10.cell? ⟨w1.heap.size + 1, 2, none⟩ = some (.int .i64 B) := by first | exact cell_later hb10 dc_9 | exact cell_later hb10 (cell_later ((Below.refl _ _).alloc (Nat.le_refl _) _) dc_9) | exact cell_later hb10 (by simp [go_sem, *])
    obtain ⟨hg10, hs10⟩ := below_c (w := w) hb10 (by first | (go_grown; done) | exact below_drewN (by go_grown) _)
    clear ca_9 cb_9 cc_9 da_9 db_9 dc_9 hb10 hg9 hs9
    go_wp2
    go_returns
    exact ⟨rfl, by go_grown⟩
  · skip
    have hz := moves_facts L R B n 0 HG.out (by simp only [Int.add_zero]; exact HG.out)
    simp only [Int.add_zero] at hz
    obtain ⟨p, k, f, m, hfm, hp, H1, H2, H3, H4, H5, H6, H7⟩ := hz
    obtain ⟨p1, p2⟩ := hp m0 m1
    clear hp
    go_enter Try.func12, Try.ntmps12
    go_wp2_with fail
    with_reducible refine (grid_val _ _ _ _ _ _ H0.out _).mono ?_
    rintro e w1 ⟨rfl, hb1⟩
    obtain ⟨hg1, hs1⟩ := below_c (w := w) hb1 (by first | (go_grown; done) | exact below_drewN (by go_grown) _)
    clear hb1
    go_wp2_with fail
    with_reducible refine (inside_val _ _ _ _ _ HI.out _).mono ?_
    rintro e w2 ⟨rfl, hb2⟩
    have ca_2 : w2.cell? ⟨w1.heap.size, 0, none⟩ = some (.int .i64 L) := cell_later hb2 (by simp [go_sem])
    have cb_2 : w2.cell? ⟨w1.heap.size, 1, none⟩ = some (.int .i64 R) := cell_later hb2 (by simp [go_sem])
    have cc_2 : w2.cell? ⟨w1.heap.size, 2, none⟩ = some (.int .i64 B) := cell_later hb2 (by simp [go_sem])
    have da_2 : w2.cell? ⟨w1.heap.size + 1, 0, none⟩ = some (.int .i64 (L)) := cell_later hb2 (by simp [go_sem])
    have db_2 : w2.cell? ⟨w1.heap.size + 1, 1, none⟩ = some (.int .i64 (R)) := cell_later hb2 (by simp [go_sem])
    have dc_2 : w2.cell? ⟨w1.heap.size + 1, 2, none⟩ = some (.int .i64 B) := cell_later hb2 (by simp [go_sem])
    obtain ⟨hg2, hs2⟩ := below_c (w := w) hb2 (by first | (go_grown; done) | exact below_drewN (by go_grown) _)
    clear hb2 hg1 hs1
    go_wp2_with fail
    with_reducible refine (gnear_is L R B n p H1.out _).mono ?_
    rintro e w3 ⟨rfl, hb3⟩
    have ca_3 : w3.cell? ⟨w1.heap.size, 0, none⟩ = some (.int .i64 L) := by first | exact cell_later hb3 ca_2 | exact cell_later hb3 (cell_later ((Below.refl _ _).alloc (Nat.le_refl _) _) ca_2) | exact cell_later hb3 (by simp [go_sem, *])
    have cb_3 : w3.cell? ⟨w1.heap.size, 1, none⟩ = some (.int .i64 R) := by first | exact cell_later hb3 cb_2 | exact cell_later hb3 (cell_later ((Below.refl _ _).alloc (Nat.le_refl _) _) cb_2) | exact cell_later hb3 (by simp [go_sem, *])
    have cc_3 : w3.cell? ⟨w1.heap.size, 2, none⟩ = some (.int .i64 B) := by first | exact cell_later hb3 cc_2 | exact cell_later hb3 (cell_later ((Below.refl _ _).alloc (Nat.le_refl _) _) cc_2) | exact cell_later hb3 (by simp [go_sem, *])
    have da_3 : w3.cell? ⟨w1.heap.size + 1, 0, none⟩ = some (.int .i64 (L)) := by first | exact cell_later hb3 da_2 | exact cell_later hb3 (cell_later ((Below.refl _ _).alloc (Nat.le_refl _) _) da_2) | exact cell_later hb3 (by simp [go_sem, *])
    have db_3 : w3.cell? ⟨w1.heap.size + 1, 1, none⟩ = some (.int .i64 (R)) := by first | exact cell_later hb3 db_2 | exact cell_later hb3 (cell_later ((Below.refl _ _).alloc (Nat.le_refl _) _) db_2) | exact cell_later hb3 (by simp [go_sem, *])
    have dc_3 : w3.cell? ⟨w1.heap.size + 1, 2, none⟩ = some (.int .i64 B) := by first | exact cell_later hb3 dc_2 | exact cell_later hb3 (cell_later ((Below.refl _ _).alloc (Nat.le_refl _) _) dc_2) | exact cell_later hb3 (by simp [go_sem, *])
    obtain ⟨hg3, hs3⟩ := below_c (w := w) hb3 (by first | (go_grown; done) | exact below_drewN (by go_grown) _)
    clear ca_2 cb_2 cc_2 da_2 db_2 dc_2 hb3 hg2 hs2
    go_wp2_with fail
    with_reducible refine (gnear_is L R B n p H2.out _).mono ?_
    rintro e w4 ⟨rfl, hb4⟩
    have ca_4 : w4.cell? ⟨w1.heap.size, 0, none⟩ = some (.int .i64 L) := by first | exact cell_later hb4 ca_3 | exact cell_later hb4 (cell_later ((Below.refl _ _).alloc (Nat.le_refl _) _) ca_3) | exact cell_later hb4 (by simp [go_sem, *])
    have cb_4 : w4.cell? ⟨w1.heap.size, 1, none⟩ = some (.int .i64 R) := by first | exact cell_later hb4 cb_3 | exact cell_later hb4 (cell_later ((Below.refl _ _).alloc (Nat.le_refl _) _) cb_3) | exact cell_later hb4 (by simp [go_sem, *])
    have cc_4 : w4.cell? ⟨w1.heap.size, 2, none⟩ = some (.int .i64 B) := by first | exact cell_later hb4 cc_3 | exact cell_later hb4 (cell_later ((Below.refl _ _).alloc (Nat.le_refl _) _) cc_3) | exact cell_later hb4 (by simp [go_sem, *])
    have da_4 : w4.cell? ⟨w1.heap.size + 1, 0, none⟩ = some (.int .i64 (L)) := by first | exact cell_later hb4 da_3 | exact cell_later hb4 (cell_later ((Below.refl _ _).alloc (Nat.le_refl _) _) da_3) | exact cell_later hb4 (by simp [go_sem, *])
    have db_4 : w4.cell? ⟨w1.heap.size + 1, 1, none⟩ = some (.int .i64 (R)) := by first | exact cell_later hb4 db_3 | exact cell_later hb4 (cell_later ((Below.refl _ _).alloc (Nat.le_refl _) _) db_3) | exact cell_later hb4 (by simp [go_sem, *])
    have dc_4 : w4.cell? ⟨w1.heap.size + 1, 2, none⟩ = some (.int .i64 B) := by first | exact cell_later hb4 dc_3 | exact cell_later hb4 (cell_later ((Below.refl _ _).alloc (Nat.le_refl _) _) dc_3) | exact cell_later hb4 (by simp [go_sem, *])
    obtain ⟨hg4, hs4⟩ := below_c (w := w) hb4 (by first | (go_grown; done) | exact below_drewN (by go_grown) _)
    clear ca_3 cb_3 cc_3 da_3 db_3 dc_3 hb4 hg3 hs3
    go_wp2_with fail
    with_reducible refine (index_is L R B n k H3.out _).mono ?_
    rintro e w5 ⟨rfl, hb5⟩
    have ca_5 : w5.cell? ⟨w1.heap.size, 0, none⟩ = some (.int .i64 L) := by first | exact cell_later hb5 ca_4 | exact cell_later hb5 (cell_later ((Below.refl _ _).alloc (Nat.le_refl _) _) ca_4) | exact cell_later hb5 (by simp [go_sem, *])
    have cb_5 : w5.cell? ⟨w1.heap.size, 1, none⟩ = some (.int .i64 R) := by first | exact cell_later hb5 cb_4 | exact cell_later hb5 (cell_later ((Below.refl _ _).alloc (Nat.le_refl _) _) cb_4) | exact cell_later hb5 (by simp [go_sem, *])
    have cc_5 : w5.cell? ⟨w1.heap.size, 2, none⟩ = some (.int .i64 B) := by first | exact cell_later hb5 cc_4 | exact cell_later hb5 (cell_later ((Below.refl _ _).alloc (Nat.le_refl _) _) cc_4) | exact cell_later hb5 (by simp [go_sem, *])
    have da_5 : w5.cell? ⟨w1.heap.size + 1, 0, none⟩ = some (.int .i64 (L)) := by first | exact cell_later hb5 da_4 | exact cell_later hb5 (cell_later ((Below.refl _ _).alloc (Nat.le_refl _) _) da_4) | exact cell_later hb5 (by simp [go_sem, *])
    have db_5 : w5.cell? ⟨w1.heap.size + 1, 1, none⟩ = some (.int .i64 (R)) := by first | exact cell_later hb5 db_4 | exact cell_later hb5 (cell_later ((Below.refl _ _).alloc (Nat.le_refl _) _) db_4) | exact cell_later hb5 (by simp [go_sem, *])
    have dc_5 : w5.cell? ⟨w1.heap.size + 1, 2, none⟩ = some (.int .i64 B) := by first | exact cell_later hb5 dc_4 | exact cell_later hb5 (cell_later ((Below.refl _ _).alloc (Nat.le_refl _) _) dc_4) | exact cell_later hb5 (by simp [go_sem, *])
    obtain ⟨hg5, hs5⟩ := below_c (w := w) hb5 (by first | (go_grown; done) | exact below_drewN (by go_grown) _)
    clear ca_4 cb_4 cc_4 da_4 db_4 dc_4 hb5 hg4 hs4
    go_wp2_with fail
    with_reducible refine (index_is L R B n k H4.out _).mono ?_
    rintro e w6 ⟨rfl, hb6⟩
    have ca_6 : w6.cell? ⟨w1.heap.size, 0, none⟩ = some (.int .i64 L) := by first | exact cell_later hb6 ca_5 | exact cell_later hb6 (cell_later ((Below.refl _ _).alloc (Nat.le_refl _) _) ca_5) | exact cell_later hb6 (by simp [go_sem, *])
    have cb_6 : w6.cell? ⟨w1.heap.size, 1, none⟩ = some (.int .i64 R) := by first | exact cell_later hb6 cb_5 | exact cell_later hb6 (cell_later ((Below.refl _ _).alloc (Nat.le_refl _) _) cb_5) | exact cell_later hb6 (by simp [go_sem, *])
    have cc_6 : w6.cell? ⟨w1.heap.size, 2, none⟩ = some (.int .i64 B) := by first | exact cell_later hb6 cc_5 | exact cell_later hb6 (cell_later ((Below.refl _ _).alloc (Nat.le_refl _) _) cc_5) | exact cell_later hb6 (by simp [go_sem, *])
    have da_6 : w6.cell? ⟨w1.heap.size + 1, 0, none⟩ = some (.int .i64 (L)) := by first | exact cell_later hb6 da_5 | exact cell_later hb6 (cell_later ((Below.refl _ _).alloc (Nat.le_refl _) _) da_5) | exact cell_later hb6 (by simp [go_sem, *])
    have db_6 : w6.cell? ⟨w1.heap.size + 1, 1, none⟩ = some (.int .i64 (R)) := by first | exact cell_later hb6 db_5 | exact cell_later hb6 (cell_later ((Below.refl _ _).alloc (Nat.le_refl _) _) db_5) | exact cell_later hb6 (by simp [go_sem, *])
    have dc_6 : w6.cell? ⟨w1.heap.size + 1, 2, none⟩ = some (.int .i64 B) := by first | exact cell_later hb6 dc_5 | exact cell_later hb6 (cell_later ((Below.refl _ _).alloc (Nat.le_refl _) _) dc_5) | exact cell_later hb6 (by simp [go_sem, *])
    obtain ⟨hg6, hs6⟩ := below_c (w := w) hb6 (by first | (go_grown; done) | exact below_drewN (by go_grown) _)
    clear ca_5 cb_5 cc_5 da_5 db_5 dc_5 hb6 hg5 hs5
    go_wp2_with fail
    with_reducible refine (error_is L R B f H5.out _).mono ?_
    rintro e w7 ⟨rfl, hb7⟩
    have ca_7 : w7.cell? ⟨w1.heap.size, 0, none⟩ = some (.int .i64 L) := by first | exact cell_later hb7 ca_6 | exact cell_later hb7 (cell_later ((Below.refl _ _).alloc (Nat.le_refl _) _) ca_6) | exact cell_later hb7 (by simp [go_sem, *])
    have cb_7 : w7.cell? ⟨w1.heap.size, 1, none⟩ = some (.int .i64 R) := by first | exact cell_later hb7 cb_6 | exact cell_later hb7 (cell_later ((Below.refl _ _).alloc (Nat.le_refl _) _) cb_6) | exact cell_later hb7 (by simp [go_sem, *])
    have cc_7 : w7.cell? ⟨w1.heap.size, 2, none⟩ = some (.int .i64 B) := by first | exact cell_later hb7 cc_6 | exact cell_later hb7 (cell_later ((Below.refl _ _).alloc (Nat.le_refl _) _) cc_6) | exact cell_later hb7 (by simp [go_sem, *])
    have da_7 : w7.cell? ⟨w1.heap.size + 1, 0, none⟩ = some (.int .i64 (L)) := by first | exact cell_later hb7 da_6 | exact cell_later hb7 (cell_later ((Below.refl _ _).alloc (Nat.le_refl _) _) da_6) | exact cell_later hb7 (by simp [go_sem, *])
    have db_7 : w7.cell? ⟨w1.heap.size + 1, 1, none⟩ = some (.int .i64 (R)) := by first | exact cell_later hb7 db_6 | exact cell_later hb7 (cell_later ((Below.refl _ _).alloc (Nat.le_refl _) _) db_6) | exact cell_later hb7 (by simp [go_sem, *])
    have dc_7 : w7.cell? ⟨w1.heap.size + 1, 2, none⟩ = some (.int .i64 B) := by first | exact cell_later hb7 dc_6 | exact cell_later hb7 (cell_later ((Below.refl _ _).alloc (Nat.le_refl _) _) dc_6) | exact cell_later hb7 (by simp [go_sem, *])
    obtain ⟨hg7, hs7⟩ := below_c (w := w) hb7 (by first | (go_grown; done) | exact below_drewN (by go_grown) _)
    clear ca_6 cb_6 cc_6 da_6 db_6 dc_6 hb7 hg6 hs6
    go_wp2_with fail
    with_reducible refine (error_is L R B f H6.out _).mono ?_
    rintro e w8 ⟨rfl, hb8⟩
    have ca_8 : w8.cell? ⟨w1.heap.size, 0, none⟩ = some (.int .i64 L) := by first | exact cell_later hb8 ca_7 | exact cell_later hb8 (cell_later ((Below.refl _ _).alloc (Nat.le_refl _) _) ca_7) | exact cell_later hb8 (by simp [go_sem, *])
    have cb_8 : w8.cell? ⟨w1.heap.size, 1, none⟩ = some (.int .i64 R) := by first | exact cell_later hb8 cb_7 | exact cell_later hb8 (cell_later ((Below.refl _ _).alloc (Nat.le_refl _) _) cb_7) | exact cell_later hb8 (by simp [go_sem, *])
    have cc_8 : w8.cell? ⟨w1.heap.size, 2, none⟩ = some (.int .i64 B) := by first | exact cell_later hb8 cc_7 | exact cell_later hb8 (cell_later ((Below.refl _ _).alloc (Nat.le_refl _) _) cc_7) | exact cell_later hb8 (by simp [go_sem, *])
    have da_8 : w8.cell? ⟨w1.heap.size + 1, 0, none⟩ = some (.int .i64 (L)) := by first | exact cell_later hb8 da_7 | exact cell_later hb8 (cell_later ((Below.refl _ _).alloc (Nat.le_refl _) _) da_7) | exact cell_later hb8 (by simp [go_sem, *])
    have db_8 : w8.cell? ⟨w1.heap.size + 1, 1, none⟩ = some (.int .i64 (R)) := by first | exact cell_later hb8 db_7 | exact cell_later hb8 (cell_later ((Below.refl _ _).alloc (Nat.le_refl _) _) db_7) | exact cell_later hb8 (by simp [go_sem, *])
    have dc_8 : w8.cell? ⟨w1.heap.size + 1, 2, none⟩ = some (.int .i64 B) := by first | exact cell_later hb8 dc_7 | exact cell_later hb8 (cell_later ((Below.refl _ _).alloc (Nat.le_refl _) _) dc_7) | exact cell_later hb8 (by simp [go_sem, *])
    obtain ⟨hg8, hs8⟩ := below_c (w := w) hb8 (by first | (go_grown; done) | exact below_drewN (by go_grown) _)
    clear ca_7 cb_7 cc_7 da_7 db_7 dc_7 hb8 hg7 hs7
    go_wp2_with (first | refine wpList_min2 _ rfl _ _ _ rfl _ _ _ rfl rfl ?_ | refine wpList_max2 _ rfl _ _ _ rfl _ _ _ rfl rfl ?_)
    with_reducible refine (error_is L (min (R + (R - L)) 1099511627776) B m H7.out _).mono ?_
    rintro e w9 ⟨rfl, hb9⟩
    have ca_9 : w9.cell? ⟨w1.heap.size, 0, none⟩ = some (.int .i64 L) := by first | exact cell_later hb9 ca_8 | exact cell_later hb9 (cell_later ((Below.refl _ _).alloc (Nat.le_refl _) _) ca_8) | exact cell_later hb9 (by simp [go_sem, *])
    have cb_9 : w9.cell? ⟨w1.heap.size, 1, none⟩ = some (.int .i64 R) := by first | exact cell_later hb9 cb_8 | exact cell_later hb9 (cell_later ((Below.refl _ _).alloc (Nat.le_refl _) _) cb_8) | exact cell_later hb9 (by simp [go_sem, *])
    have cc_9 : w9.cell? ⟨w1.heap.size, 2, none⟩ = some (.int .i64 B) := by first | exact cell_later hb9 cc_8 | exact cell_later hb9 (cell_later ((Below.refl _ _).alloc (Nat.le_refl _) _) cc_8) | exact cell_later hb9 (by simp [go_sem, *])
    have da_9 : w9.cell? ⟨w1.heap.size + 1, 0, none⟩ = some (.int .i64 (L)) := by first | exact cell_later hb9 da_8 | exact cell_later hb9 (cell_later ((Below.refl _ _).alloc (Nat.le_refl _) _) da_8) | exact cell_later hb9 (by simp [go_sem, *])
    have db_9 : w9.cell? ⟨w1.heap.size + 1, 1, none⟩ = some (.int .i64 (R)) := by first | exact cell_later hb9 db_8 | exact cell_later hb9 (cell_later ((Below.refl _ _).alloc (Nat.le_refl _) _) db_8) | exact cell_later hb9 (by simp [go_sem, *])
    have dc_9 : w9.cell? ⟨w1.heap.size + 1, 2, none⟩ = some (.int .i64 B) := by first | exact cell_later hb9 dc_8 | exact cell_later hb9 (cell_later ((Below.refl _ _).alloc (Nat.le_refl _) _) dc_8) | exact cell_later hb9 (by simp [go_sem, *])
    obtain ⟨hg9, hs9⟩ := below_c (w := w) hb9 (by first | (go_grown; done) | exact below_drewN (by go_grown) _)
    clear ca_8 cb_8 cc_8 da_8 db_8 dc_8 hb9 hg8 hs8
    go_wp2_with fail
    with_reducible refine (awake21 _).mono ?_
    rintro e w10 ⟨rfl, hb10⟩
    have ca_10 : w10.cell? ⟨w1.heap.size, 0, none⟩ = some (.int .i64 L) := by first | exact cell_later hb10 ca_9 | exact cell_later hb10 (cell_later ((Below.refl _ _).alloc (Nat.le_refl _) _) ca_9) | exact cell_later hb10 (by simp [go_sem, *])
    have cb_10 : w10.cell? ⟨w1.heap.size, 1, none⟩ = some (.int .i64 R) := by first | exact cell_later hb10 cb_9 | exact cell_later hb10 (cell_later ((Below.refl _ _).alloc (Nat.le_refl _) _) cb_9) | exact cell_later hb10 (by simp [go_sem, *])
    have cc_10 : w10.cell? ⟨w1.heap.size, 2, none⟩ = some (.int .i64 B) := by first | exact cell_later hb10 cc_9 | exact cell_later hb10 (cell_later ((Below.refl _ _).alloc (Nat.le_refl _) _) cc_9) | exact cell_later hb10 (by simp [go_sem, *])
    have da_10 : w10.cell? ⟨w1.heap.size + 1, 0, none⟩ = some (.int .i64 (L)) := by first | exact cell_later hb10 da_9 | exact cell_later hb10 (cell_later ((Below.refl _ _).alloc (Nat.le_refl _) _) da_9) | exact cell_later hb10 (by simp [go_sem, *])
    have db_10 : w10.cell? ⟨w1.heap.size + 1, 1, none⟩ = some (.int .i64 (R)) := by first | exact cell_later hb10 db_9 | exact cell_later hb10 (cell_later ((Below.refl _ _).alloc (Nat.le_refl _) _) db_9) | exact cell_later hb10 (by simp [go_sem, *])
    have dc_10 : w10.cell? ⟨w1.heap.size + 1, 2, none⟩ = some (.int .i64 B) := by first | exact cell_later hb10 dc_9 | exact cell_later hb10 (cell_later ((Below.refl _ _).alloc (Nat.le_refl _) _) dc_9) | exact cell_later hb10 (by simp [go_sem, *])
    obtain ⟨hg10, hs10⟩ := below_c (w := w) hb10 (by first | (go_grown; done) | exact below_drewN (by go_grown) _)
    clear ca_9 cb_9 cc_9 da_9 db_9 dc_9 hb10 hg9 hs9
    go_wp2
    go_returns
    exact ⟨rfl, by go_grown⟩
  · skip
    obtain ⟨p, k, f, m, hfm, hp, H1, H2, H3, H4, H5, H6, H7⟩ := moves_facts L R B n D HG.out ⟨by omega, by omega, by omega, b1, b2⟩
    obtain ⟨p1, p2⟩ := hp m0 m1
    clear hp
    go_enter Try.func12, Try.ntmps12
    go_wp2_with fail
    with_reducible refine (grid_val _ _ _ _ _ _ H0.out _).mono ?_
    rintro e w1 ⟨rfl, hb1⟩
    obtain ⟨hg1, hs1⟩ := below_c (w := w) hb1 (by first | (go_grown; done) | exact below_drewN (by go_grown) _)
    clear hb1
    go_wp2_with fail
    with_reducible refine (inside_val _ _ _ _ _ HI.out _).mono ?_
    rintro e w2 ⟨rfl, hb2⟩
    have ca_2 : w2.cell? ⟨w1.heap.size, 0, none⟩ = some (.int .i64 L) := cell_later hb2 (by simp [go_sem])
    have cb_2 : w2.cell? ⟨w1.heap.size, 1, none⟩ = some (.int .i64 R) := cell_later hb2 (by simp [go_sem])
    have cc_2 : w2.cell? ⟨w1.heap.size, 2, none⟩ = some (.int .i64 B) := cell_later hb2 (by simp [go_sem])
    have da_2 : w2.cell? ⟨w1.heap.size + 1, 0, none⟩ = some (.int .i64 (L + D)) := cell_later hb2 (by simp [go_sem])
    have db_2 : w2.cell? ⟨w1.heap.size + 1, 1, none⟩ = some (.int .i64 (R + D)) := cell_later hb2 (by simp [go_sem])
    have dc_2 : w2.cell? ⟨w1.heap.size + 1, 2, none⟩ = some (.int .i64 B) := cell_later hb2 (by simp [go_sem])
    obtain ⟨hg2, hs2⟩ := below_c (w := w) hb2 (by first | (go_grown; done) | exact below_drewN (by go_grown) _)
    clear hb2 hg1 hs1
    go_wp2_with fail
    with_reducible refine (gnear_is L R B n p H1.out _).mono ?_
    rintro e w3 ⟨rfl, hb3⟩
    have ca_3 : w3.cell? ⟨w1.heap.size, 0, none⟩ = some (.int .i64 L) := by first | exact cell_later hb3 ca_2 | exact cell_later hb3 (cell_later ((Below.refl _ _).alloc (Nat.le_refl _) _) ca_2) | exact cell_later hb3 (by simp [go_sem, *])
    have cb_3 : w3.cell? ⟨w1.heap.size, 1, none⟩ = some (.int .i64 R) := by first | exact cell_later hb3 cb_2 | exact cell_later hb3 (cell_later ((Below.refl _ _).alloc (Nat.le_refl _) _) cb_2) | exact cell_later hb3 (by simp [go_sem, *])
    have cc_3 : w3.cell? ⟨w1.heap.size, 2, none⟩ = some (.int .i64 B) := by first | exact cell_later hb3 cc_2 | exact cell_later hb3 (cell_later ((Below.refl _ _).alloc (Nat.le_refl _) _) cc_2) | exact cell_later hb3 (by simp [go_sem, *])
    have da_3 : w3.cell? ⟨w1.heap.size + 1, 0, none⟩ = some (.int .i64 (L + D)) := by first | exact cell_later hb3 da_2 | exact cell_later hb3 (cell_later ((Below.refl _ _).alloc (Nat.le_refl _) _) da_2) | exact cell_later hb3 (by simp [go_sem, *])
    have db_3 : w3.cell? ⟨w1.heap.size + 1, 1, none⟩ = some (.int .i64 (R + D)) := by first | exact cell_later hb3 db_2 | exact cell_later hb3 (cell_later ((Below.refl _ _).alloc (Nat.le_refl _) _) db_2) | exact cell_later hb3 (by simp [go_sem, *])
    have dc_3 : w3.cell? ⟨w1.heap.size + 1, 2, none⟩ = some (.int .i64 B) := by first | exact cell_later hb3 dc_2 | exact cell_later hb3 (cell_later ((Below.refl _ _).alloc (Nat.le_refl _) _) dc_2) | exact cell_later hb3 (by simp [go_sem, *])
    obtain ⟨hg3, hs3⟩ := below_c (w := w) hb3 (by first | (go_grown; done) | exact below_drewN (by go_grown) _)
    clear ca_2 cb_2 cc_2 da_2 db_2 dc_2 hb3 hg2 hs2
    go_wp2_with fail
    with_reducible refine (gnear_is (L + D) (R + D) B (n + D) (p + D) H2.out _).mono ?_
    rintro e w4 ⟨rfl, hb4⟩
    have ca_4 : w4.cell? ⟨w1.heap.size, 0, none⟩ = some (.int .i64 L) := by first | exact cell_later hb4 ca_3 | exact cell_later hb4 (cell_later ((Below.refl _ _).alloc (Nat.le_refl _) _) ca_3) | exact cell_later hb4 (by simp [go_sem, *])
    have cb_4 : w4.cell? ⟨w1.heap.size, 1, none⟩ = some (.int .i64 R) := by first | exact cell_later hb4 cb_3 | exact cell_later hb4 (cell_later ((Below.refl _ _).alloc (Nat.le_refl _) _) cb_3) | exact cell_later hb4 (by simp [go_sem, *])
    have cc_4 : w4.cell? ⟨w1.heap.size, 2, none⟩ = some (.int .i64 B) := by first | exact cell_later hb4 cc_3 | exact cell_later hb4 (cell_later ((Below.refl _ _).alloc (Nat.le_refl _) _) cc_3) | exact cell_later hb4 (by simp [go_sem, *])
    have da_4 : w4.cell? ⟨w1.heap.size + 1, 0, none⟩ = some (.int .i64 (L + D)) := by first | exact cell_later hb4 da_3 | exact cell_later hb4 (cell_later ((Below.refl _ _).alloc (Nat.le_refl _) _) da_3) | exact cell_later hb4 (by simp [go_sem, *])
    have db_4 : w4.cell? ⟨w1.heap.size + 1, 1, none⟩ = some (.int .i64 (R + D)) := by first | exact cell_later hb4 db_3 | exact cell_later hb4 (cell_later ((Below.refl _ _).alloc (Nat.le_refl _) _) db_3) | exact cell_later hb4 (by simp [go_sem, *])
    have dc_4 : w4.cell? ⟨w1.heap.size + 1, 2, none⟩ = some (.int .i64 B) := by first | exact cell_later hb4 dc_3 | exact cell_later hb4 (cell_later ((Below.refl _ _).alloc (Nat.le_refl _) _) dc_3) | exact cell_later hb4 (by simp [go_sem, *])
    obtain ⟨hg4, hs4⟩ := below_c (w := w) hb4 (by first | (go_grown; done) | exact below_drewN (by go_grown) _)
    clear ca_3 cb_3 cc_3 da_3 db_3 dc_3 hb4 hg3 hs3
    go_wp2_with fail
    with_reducible refine (index_is L R B n k H3.out _).mono ?_
    rintro e w5 ⟨rfl, hb5⟩
    have ca_5 : w5.cell? ⟨w1.heap.size, 0, none⟩ = some (.int .i64 L) := by first | exact cell_later hb5 ca_4 | exact cell_later hb5 (cell_later ((Below.refl _ _).alloc (Nat.le_refl _) _) ca_4) | exact cell_later hb5 (by simp [go_sem, *])
    have cb_5 : w5.cell? ⟨w1.heap.size, 1, none⟩ = some (.int .i64 R) := by first | exact cell_later hb5 cb_4 | exact cell_later hb5 (cell_later ((Below.refl _ _).alloc (Nat.le_refl _) _) cb_4) | exact cell_later hb5 (by simp [go_sem, *])
    have cc_5 : w5.cell? ⟨w1.heap.size, 2, none⟩ = some (.int .i64 B) := by first | exact cell_later hb5 cc_4 | exact cell_later hb5 (cell_later ((Below.refl _ _).alloc (Nat.le_refl _) _) cc_4) | exact cell_later hb5 (by simp [go_sem, *])
    have da_5 : w5.cell? ⟨w1.heap.size + 1, 0, none⟩ = some (.int .i64 (L + D)) := by first | exact cell_later hb5 da_4 | exact cell_later hb5 (cell_later ((Below.refl _ _).alloc (Nat.le_refl _) _) da_4) | exact cell_later hb5 (by simp [go_sem, *])
    have db_5 : w5.cell? ⟨w1.heap.size + 1, 1, none⟩ = some (.int .i64 (R + D)) := by first | exact cell_later hb5 db_4 | exact cell_later hb5 (cell_later ((Below.refl _ _).alloc (Nat.le_refl _) _) db_4) | exact cell_later hb5 (by simp [go_sem, *])
    have dc_5 : w5.cell? ⟨w1.heap.size + 1, 2, none⟩ = some (.int .i64 B) := by first | exact cell_later hb5 dc_4 | exact cell_later hb5 (cell_later ((Below.refl _ _).alloc (Nat.le_refl _) _) dc_4) | exact cell_later hb5 (by simp [go_sem, *])
    obtain ⟨hg5, hs5⟩ := below_c (w := w) hb5 (by first | (go_grown; done) | exact below_drewN (by go_grown) _)
    clear ca_4 cb_4 cc_4 da_4 db_4 dc_4 hb5 hg4 hs4
    go_wp2_with fail
    with_reducible refine (index_is (L + D) (R + D) B (n + D) k H4.out _).mono ?_
    rintro e w6 ⟨rfl, hb6⟩
    have ca_6 : w6.cell? ⟨w1.heap.size, 0, none⟩ = some (.int .i64 L) := by first | exact cell_later hb6 ca_5 | exact cell_later hb6 (cell_later ((Below.refl _ _).alloc (Nat.le_refl _) _) ca_5) | exact cell_later hb6 (by simp [go_sem, *])
    have cb_6 : w6.cell? ⟨w1.heap.size, 1, none⟩ = some (.int .i64 R) := by first | exact cell_later hb6 cb_5 | exact cell_later hb6 (cell_later ((Below.refl _ _).alloc (Nat.le_refl _) _) cb_5) | exact cell_later hb6 (by simp [go_sem, *])
    have cc_6 : w6.cell? ⟨w1.heap.size, 2, none⟩ = some (.int .i64 B) := by first | exact cell_later hb6 cc_5 | exact cell_later hb6 (cell_later ((Below.refl _ _).alloc (Nat.le_refl _) _) cc_5) | exact cell_later hb6 (by simp [go_sem, *])
    have da_6 : w6.cell? ⟨w1.heap.size + 1, 0, none⟩ = some (.int .i64 (L + D)) := by first | exact cell_later hb6 da_5 | exact cell_later hb6 (cell_later ((Below.refl _ _).alloc (Nat.le_refl _) _) da_5) | exact cell_later hb6 (by simp [go_sem, *])
    have db_6 : w6.cell? ⟨w1.heap.size + 1, 1, none⟩ = some (.int .i64 (R + D)) := by first | exact cell_later hb6 db_5 | exact cell_later hb6 (cell_later ((Below.refl _ _).alloc (Nat.le_refl _) _) db_5) | exact cell_later hb6 (by simp [go_sem, *])
    have dc_6 : w6.cell? ⟨w1.heap.size + 1, 2, none⟩ = some (.int .i64 B) := by first | exact cell_later hb6 dc_5 | exact cell_later hb6 (cell_later ((Below.refl _ _).alloc (Nat.le_refl _) _) dc_5) | exact cell_later hb6 (by simp [go_sem, *])
    obtain ⟨hg6, hs6⟩ := below_c (w := w) hb6 (by first | (go_grown; done) | exact below_drewN (by go_grown) _)
    clear ca_5 cb_5 cc_5 da_5 db_5 dc_5 hb6 hg5 hs5
    go_wp2_with fail
    with_reducible refine (error_is L R B f H5.out _).mono ?_
    rintro e w7 ⟨rfl, hb7⟩
    have ca_7 : w7.cell? ⟨w1.heap.size, 0, none⟩ = some (.int .i64 L) := by first | exact cell_later hb7 ca_6 | exact cell_later hb7 (cell_later ((Below.refl _ _).alloc (Nat.le_refl _) _) ca_6) | exact cell_later hb7 (by simp [go_sem, *])
    have cb_7 : w7.cell? ⟨w1.heap.size, 1, none⟩ = some (.int .i64 R) := by first | exact cell_later hb7 cb_6 | exact cell_later hb7 (cell_later ((Below.refl _ _).alloc (Nat.le_refl _) _) cb_6) | exact cell_later hb7 (by simp [go_sem, *])
    have cc_7 : w7.cell? ⟨w1.heap.size, 2, none⟩ = some (.int .i64 B) := by first | exact cell_later hb7 cc_6 | exact cell_later hb7 (cell_later ((Below.refl _ _).alloc (Nat.le_refl _) _) cc_6) | exact cell_later hb7 (by simp [go_sem, *])
    have da_7 : w7.cell? ⟨w1.heap.size + 1, 0, none⟩ = some (.int .i64 (L + D)) := by first | exact cell_later hb7 da_6 | exact cell_later hb7 (cell_later ((Below.refl _ _).alloc (Nat.le_refl _) _) da_6) | exact cell_later hb7 (by simp [go_sem, *])
    have db_7 : w7.cell? ⟨w1.heap.size + 1, 1, none⟩ = some (.int .i64 (R + D)) := by first | exact cell_later hb7 db_6 | exact cell_later hb7 (cell_later ((Below.refl _ _).alloc (Nat.le_refl _) _) db_6) | exact cell_later hb7 (by simp [go_sem, *])
    have dc_7 : w7.cell? ⟨w1.heap.size + 1, 2, none⟩ = some (.int .i64 B) := by first | exact cell_later hb7 dc_6 | exact cell_later hb7 (cell_later ((Below.refl _ _).alloc (Nat.le_refl _) _) dc_6) | exact cell_later hb7 (by simp [go_sem, *])
    obtain ⟨hg7, hs7⟩ := below_c (w := w) hb7 (by first | (go_grown; done) | exact below_drewN (by go_grown) _)
    clear ca_6 cb_6 cc_6 da_6 db_6 dc_6 hb7 hg6 hs6
    go_wp2_with fail
    with_reducible refine (error_is (L + D) (R + D) B f H6.out _).mono ?_
    rintro e w8 ⟨rfl, hb8⟩
    have ca_8 : w8.cell? ⟨w1.heap.size, 0, none⟩ = some (.int .i64 L) := by first | exact cell_later hb8 ca_7 | exact cell_later hb8 (cell_later ((Below.refl _ _).alloc (Nat.le_refl _) _) ca_7) | exact cell_later hb8 (by simp [go_sem, *])
    have cb_8 : w8.cell? ⟨w1.heap.size, 1, none⟩ = some (.int .i64 R) := by first | exact cell_later hb8 cb_7 | exact cell_later hb8 (cell_later ((Below.refl _ _).alloc (Nat.le_refl _) _) cb_7) | exact cell_later hb8 (by simp [go_sem, *])
    have cc_8 : w8.cell? ⟨w1.heap.size, 2, none⟩ = some (.int .i64 B) := by first | exact cell_later hb8 cc_7 | exact cell_later hb8 (cell_later ((Below.refl _ _).alloc (Nat.le_refl _) _) cc_7) | exact cell_later hb8 (by simp [go_sem, *])
    have da_8 : w8.cell? ⟨w1.heap.size + 1, 0, none⟩ = some (.int .i64 (L + D)) := by first | exact cell_later hb8 da_7 | exact cell_later hb8 (cell_later ((Below.refl _ _).alloc (Nat.le_refl _) _) da_7) | exact cell_later hb8 (by simp [go_sem, *])
    have db_8 : w8.cell? ⟨w1.heap.size + 1, 1, none⟩ = some (.int .i64 (R + D)) := by first | exact cell_later hb8 db_7 | exact cell_later hb8 (cell_later ((Below.refl _ _).alloc (Nat.le_refl _) _) db_7) | exact cell_later hb8 (by simp [go_sem, *])
    have dc_8 : w8.cell? ⟨w1.heap.size + 1, 2, none⟩ = some (.int .i64 B) := by first | exact cell_later hb8 dc_7 | exact cell_later hb8 (cell_later ((Below.refl _ _).alloc (Nat.le_refl _) _) dc_7) | exact cell_later hb8 (by simp [go_sem, *])
    obtain ⟨hg8, hs8⟩ := below_c (w := w) hb8 (by first | (go_grown; done) | exact below_drewN (by go_grown) _)
    clear ca_7 cb_7 cc_7 da_7 db_7 dc_7 hb8 hg7 hs7
    go_wp2_with (first | refine wpList_min2 _ rfl _ _ _ rfl _ _ _ rfl rfl ?_ | refine wpList_max2 _ rfl _ _ _ rfl _ _ _ rfl rfl ?_)
    with_reducible refine (error_is L (min (R + (R - L)) 1099511627776) B m H7.out _).mono ?_
    rintro e w9 ⟨rfl, hb9⟩
    have ca_9 : w9.cell? ⟨w1.heap.size, 0, none⟩ = some (.int .i64 L) := by first | exact cell_later hb9 ca_8 | exact cell_later hb9 (cell_later ((Below.refl _ _).alloc (Nat.le_refl _) _) ca_8) | exact cell_later hb9 (by simp [go_sem, *])
    have cb_9 : w9.cell? ⟨w1.heap.size, 1, none⟩ = some (.int .i64 R) := by first | exact cell_later hb9 cb_8 | exact cell_later hb9 (cell_later ((Below.refl _ _).alloc (Nat.le_refl _) _) cb_8) | exact cell_later hb9 (by simp [go_sem, *])
    have cc_9 : w9.cell? ⟨w1.heap.size, 2, none⟩ = some (.int .i64 B) := by first | exact cell_later hb9 cc_8 | exact cell_later hb9 (cell_later ((Below.refl _ _).alloc (Nat.le_refl _) _) cc_8) | exact cell_later hb9 (by simp [go_sem, *])
    have da_9 : w9.cell? ⟨w1.heap.size + 1, 0, none⟩ = some (.int .i64 (L + D)) := by first | exact cell_later hb9 da_8 | exact cell_later hb9 (cell_later ((Below.refl _ _).alloc (Nat.le_refl _) _) da_8) | exact cell_later hb9 (by simp [go_sem, *])
    have db_9 : w9.cell? ⟨w1.heap.size + 1, 1, none⟩ = some (.int .i64 (R + D)) := by first | exact cell_later hb9 db_8 | exact cell_later hb9 (cell_later ((Below.refl _ _).alloc (Nat.le_refl _) _) db_8) | exact cell_later hb9 (by simp [go_sem, *])
    have dc_9 : w9.cell? ⟨w1.heap.size + 1, 2, none⟩ = some (.int .i64 B) := by first | exact cell_later hb9 dc_8 | exact cell_later hb9 (cell_later ((Below.refl _ _).alloc (Nat.le_refl _) _) dc_8) | exact cell_later hb9 (by simp [go_sem, *])
    obtain ⟨hg9, hs9⟩ := below_c (w := w) hb9 (by first | (go_grown; done) | exact below_drewN (by go_grown) _)
    clear ca_8 cb_8 cc_8 da_8 db_8 dc_8 hb9 hg8 hs8
    go_wp2_with fail
    with_reducible refine (awake21 _).mono ?_
    rintro e w10 ⟨rfl, hb10⟩
    have ca_10 : w10.cell? ⟨w1.heap.size, 0, none⟩ = some (.int .i64 L) := by first | exact cell_later hb10 ca_9 | exact cell_later hb10 (cell_later ((Below.refl _ _).alloc (Nat.le_refl _) _) ca_9) | exact cell_later hb10 (by simp [go_sem, *])
    have cb_10 : w10.cell? ⟨w1.heap.size, 1, none⟩ = some (.int .i64 R) := by first | exact cell_later hb10 cb_9 | exact cell_later hb10 (cell_later ((Below.refl _ _).alloc (Nat.le_refl _) _) cb_9) | exact cell_later hb10 (by simp [go_sem, *])
    have cc_10 : w10.cell? ⟨w1.heap.size, 2, none⟩ = some (.int .i64 B) := by first | exact cell_later hb10 cc_9 | exact cell_later hb10 (cell_later ((Below.refl _ _).alloc (Nat.le_refl _) _) cc_9) | exact cell_later hb10 (by simp [go_sem, *])
    have da_10 : w10.cell? ⟨w1.heap.size + 1, 0, none⟩ = some (.int .i64 (L + D)) := by first | exact cell_later hb10 da_9 | exact cell_later hb10 (cell_later ((Below.refl _ _).alloc (Nat.le_refl _) _) da_9) | exact cell_later hb10 (by simp [go_sem, *])
    have db_10 : w10.cell? ⟨w1.heap.size + 1, 1, none⟩ = some (.int .i64 (R + D)) := by first | exact cell_later hb10 db_9 | exact cell_later hb10 (cell_later ((Below.refl _ _).alloc (Nat.le_refl _) _) db_9) | exact cell_later hb10 (by simp [go_sem, *])
    have dc_10 : w10.cell? ⟨w1.heap.size + 1, 2, none⟩ = some (.int .i64 B) := by first | exact cell_later hb10 dc_9 | exact cell_later hb10 (cell_later ((Below.refl _ _).alloc (Nat.le_refl _) _) dc_9) | exact cell_later hb10 (by simp [go_sem, *])
    obtain ⟨hg10, hs10⟩ := below_c (w := w) hb10 (by first | (go_grown; done) | exact below_drewN (by go_grown) _)
    clear ca_9 cb_9 cc_9 da_9 db_9 dc_9 hb10 hg9 hs9
    go_wp2
    go_returns
    exact ⟨rfl, by go_grown⟩
end Go.Proofs.Ytolifgjkejhlhaa
