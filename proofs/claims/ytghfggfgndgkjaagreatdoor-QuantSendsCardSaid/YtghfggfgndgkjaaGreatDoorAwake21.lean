/- The walk of the examples of chapter 21: they stand. -/
import Derived.Test.YtghfggfgndgkjaaGreatDoorGrid
set_option linter.unusedVariables false
set_option linter.unusedSimpArgs false
namespace Go.Proofs.YtghfggfgndgkjaaGreatDoor
open Go.RowKit

theorem point_val (lo hi b k v : Int) (h : (-1099511627776 ≤ lo ∧ lo < hi ∧ hi ≤ 1099511627776 ∧ 1 ≤ b ∧ b ≤ 32) ∧ 0 ≤ k ∧ k ≤ gn b ∧ qp lo hi b k = v) (w : World) :
    Calls Tryz.prog 47 #[G lo hi b, .int .i64 k] w fun e w' => e = .returned (.tuple #[.int .i64 v, .int .i64 0]) ∧ Below w.heap.size w w' := by
  obtain ⟨h1, h2, h3, rfl⟩ := h
  exact point_any lo hi b k h1 h2 h3 w
theorem index_val (lo hi b x v : Int) (h : (-1099511627776 ≤ lo ∧ lo < hi ∧ hi ≤ 1099511627776 ∧ 1 ≤ b ∧ b ≤ 32) ∧ qi lo hi b x = v) (w : World) :
    Calls Tryz.prog 46 #[G lo hi b, .int .i64 x] w fun e w' => e = .returned (.tuple #[.int .i64 v, .int .i64 0]) ∧ Below w.heap.size w w' := by
  obtain ⟨h1, rfl⟩ := h
  exact index_any lo hi b x h1 w
theorem gnear_val (lo hi b x v : Int) (h : (-1099511627776 ≤ lo ∧ lo < hi ∧ hi ≤ 1099511627776 ∧ 1 ≤ b ∧ b ≤ 32) ∧ qp lo hi b (qi lo hi b x) = v) (w : World) :
    Calls Tryz.prog 48 #[G lo hi b, .int .i64 x] w fun e w' => e = .returned (.tuple #[.int .i64 v, .int .i64 0]) ∧ Below w.heap.size w w' := by
  obtain ⟨h1, rfl⟩ := h
  exact gnear_any lo hi b x h1 w
theorem error_val (lo hi b v : Int) (h : (-1099511627776 ≤ lo ∧ lo < hi ∧ hi ≤ 1099511627776 ∧ 1 ≤ b ∧ b ≤ 32) ∧ qe lo hi b = v) (w : World) :
    Calls Tryz.prog 44 #[G lo hi b] w fun e w' => e = .returned (.tuple #[.int .i64 v, .int .i64 0]) ∧ Below w.heap.size w w' := by
  obtain ⟨h1, rfl⟩ := h
  exact error_any lo hi b h1 w
/-- Fit at a known number of bits: it fits with this many, and not with one fewer -/
theorem fit_val (lo hi most : Int) (k : Nat) (h : (-1099511627776 ≤ lo ∧ lo < hi ∧ hi ≤ 1099511627776 ∧ 0 ≤ most) ∧ (0 < k ∧ k < 32) ∧ qe lo hi ((k : Int) + 1) ≤ most ∧ most < qe lo hi k) (w : World) :
    Calls Tryz.prog 6 #[.int .i64 lo, .int .i64 hi, .int .i64 most] w fun e w' => e = .returned (.tuple #[G lo hi ((k : Int) + 1), .int .i64 0]) ∧ Below w.heap.size w w' := by
  obtain ⟨⟨h1, h2, h3, h4⟩, ⟨h5, h6⟩, h7, h8⟩ := h
  have hk : k = fk lo hi most := by
    refine fk_unique lo hi most h2 k (by omega) (fun _ => ?_) (fun _ => ?_)
    · unfold fits; rw [decide_eq_true_iff]; exact h7
    · unfold fits; rw [decide_eq_false_iff_not, show (((k - 1 : Nat) : Int) + 1) = k by omega]; omega
  have h := fit_any lo hi most h1 h2 h3 h4 w
  rw [← hk] at h
  rw [show fitV lo hi k = .tuple #[G lo hi ((k : Int) + 1), .int .i64 0] by unfold fitV; rw [if_neg (by omega)]] at h
  exact h
theorem ex1 : qp 0 10 2 0 = 0 ∧ qp 0 10 2 1 = 3 ∧ qp 0 10 2 2 = 7 ∧ qp 0 10 2 3 = 10 := by decide +kernel
theorem ex2 : qi 0 10 2 1 = 0 ∧ qi 0 10 2 2 = 1 ∧ qi 0 10 2 5 = 2 ∧ qi 0 10 2 9 = 3 := by decide +kernel
theorem ex3 : qe (-1000) 1000 8 = 4 ∧ qe (-1000) 1000 7 = 8 ∧ qe (-1000) 1000 9 = 2 ∧ qi (-1000) 1000 8 100 = 140 ∧ qp (-1000) 1000 8 140 = 98 ∧ qe 0 10 2 = 2 := by decide +kernel
theorem ex_fit4 (w : World) : Calls Tryz.prog 6 #[.int .i64 (-1000), .int .i64 1000, .int .i64 4] w fun e w' => e = .returned (.tuple #[G (-1000) 1000 8, .int .i64 0]) ∧ Below w.heap.size w w' :=
  fit_val (-1000) 1000 4 7 (by decide +kernel) w
theorem ex_fit3 (w : World) : Calls Tryz.prog 6 #[.int .i64 (-1000), .int .i64 1000, .int .i64 3] w fun e w' => e = .returned (.tuple #[G (-1000) 1000 9, .int .i64 0]) ∧ Below w.heap.size w w' :=
  fit_val (-1000) 1000 3 8 (by decide +kernel) w
/-- the eight numbers of the examples of indices -/
def Row8 (w : World) (n : Nat) : Prop :=
  w.cell? ⟨n, 0, none⟩ = some (.int .i64 1) ∧ w.cell? ⟨n, 1, none⟩ = some (.int .i64 0) ∧ w.cell? ⟨n, 2, none⟩ = some (.int .i64 2) ∧ w.cell? ⟨n, 3, none⟩ = some (.int .i64 1) ∧ w.cell? ⟨n, 4, none⟩ = some (.int .i64 5) ∧ w.cell? ⟨n, 5, none⟩ = some (.int .i64 2) ∧ w.cell? ⟨n, 6, none⟩ = some (.int .i64 9) ∧ w.cell? ⟨n, 7, none⟩ = some (.int .i64 3)
theorem rowLater {V w1 : World} {n : Nat} {o : Obj} (hb : Below (V.alloc o).heap.size (V.alloc o) w1) (h : Row8 V n) : Row8 w1 n := by
  obtain ⟨t0, t1, t2, t3, t4, t5, t6, t7⟩ := h
  have ha : Below V.heap.size V (V.alloc o) := (Below.refl _ _).alloc (Nat.le_refl _) o
  exact ⟨cell_later hb (cell_later ha t0), cell_later hb (cell_later ha t1), cell_later hb (cell_later ha t2), cell_later hb (cell_later ha t3), cell_later hb (cell_later ha t4), cell_later hb (cell_later ha t5), cell_later hb (cell_later ha t6), cell_later hb (cell_later ha t7)⟩

set_option maxRecDepth 100000 in
set_option maxHeartbeats 8000000 in
theorem awake21 (w : World) : Calls Tryz.prog 9 #[] w fun e w' => e = .returned (.bool true) ∧ Below w.heap.size w w' := by
  go_enter Tryz.func9, Tryz.ntmps9
  go_wp2
  go_loopw [28] (fun v28 wr => ∃ k : Nat, k ≤ 4 ∧ v28 = .int .i64 k ∧ (wr.cell? ⟨w.heap.size, 0, none⟩ = some (.int .i64 0) ∧ wr.cell? ⟨w.heap.size, 1, none⟩ = some (.int .i64 10) ∧ wr.cell? ⟨w.heap.size, 2, none⟩ = some (.int .i64 2)) ∧
      (wr.cell? ⟨w.heap.size + 1, 0, none⟩ = some (.int .i64 0) ∧ wr.cell? ⟨w.heap.size + 1, 1, none⟩ = some (.int .i64 3) ∧ wr.cell? ⟨w.heap.size + 1, 2, none⟩ = some (.int .i64 7) ∧ wr.cell? ⟨w.heap.size + 1, 3, none⟩ = some (.int .i64 10)) ∧ Below w.heap.size w wr ∧ w.heap.size + 1 + 1 ≤ wr.heap.size) (fun v28 _ => 4 - (intOf v28).toNat)
  case atStart => exact ⟨0, by omega, rfl, ⟨by simp [go_sem], by simp [go_sem], by simp [go_sem]⟩, ⟨by simp [go_sem], by simp [go_sem], by simp [go_sem], by simp [go_sem]⟩, by go_grown, by simp⟩
  case round =>
    obtain ⟨k, hk, rfl, ⟨c0, c1, c2⟩, ⟨s0, s1, s2, s3⟩, hB, hz⟩ := hrel
    rcases (by omega : k = 0 ∨ k = 1 ∨ k = 2 ∨ k = 3 ∨ k = 4) with rfl | rfl | rfl | rfl | rfl
    · go_wp2_with (go_at_call 47; with_reducible refine (point_val 0 10 2 0 0 (by decide +kernel) _).mono ?_; rintro e w1 ⟨rfl, hb1⟩; have d0 := cell_later hb1 c0; have d1 := cell_later hb1 c1; have d2 := cell_later hb1 c2; have e0 := cell_later hb1 s0; have e1 := cell_later hb1 s1; have e2 := cell_later hb1 s2; have e3 := cell_later hb1 s3; obtain ⟨hg1, hs1⟩ := below_c (w := w) hb1 (by go_grown); have hz1 := Nat.le_trans hz hb1.size; clear hb1)
      go_roundw
      case rel => exact ⟨1, by omega, rfl, ⟨d0, d1, d2⟩, ⟨e0, e1, e2, e3⟩, by with_reducible assumption, hz1⟩
      case measure => simp [intOf]
    · go_wp2_with (go_at_call 47; with_reducible refine (point_val 0 10 2 1 3 (by decide +kernel) _).mono ?_; rintro e w1 ⟨rfl, hb1⟩; have d0 := cell_later hb1 c0; have d1 := cell_later hb1 c1; have d2 := cell_later hb1 c2; have e0 := cell_later hb1 s0; have e1 := cell_later hb1 s1; have e2 := cell_later hb1 s2; have e3 := cell_later hb1 s3; obtain ⟨hg1, hs1⟩ := below_c (w := w) hb1 (by go_grown); have hz1 := Nat.le_trans hz hb1.size; clear hb1)
      go_roundw
      case rel => exact ⟨2, by omega, rfl, ⟨d0, d1, d2⟩, ⟨e0, e1, e2, e3⟩, by with_reducible assumption, hz1⟩
      case measure => simp [intOf]
    · go_wp2_with (go_at_call 47; with_reducible refine (point_val 0 10 2 2 7 (by decide +kernel) _).mono ?_; rintro e w1 ⟨rfl, hb1⟩; have d0 := cell_later hb1 c0; have d1 := cell_later hb1 c1; have d2 := cell_later hb1 c2; have e0 := cell_later hb1 s0; have e1 := cell_later hb1 s1; have e2 := cell_later hb1 s2; have e3 := cell_later hb1 s3; obtain ⟨hg1, hs1⟩ := below_c (w := w) hb1 (by go_grown); have hz1 := Nat.le_trans hz hb1.size; clear hb1)
      go_roundw
      case rel => exact ⟨3, by omega, rfl, ⟨d0, d1, d2⟩, ⟨e0, e1, e2, e3⟩, by with_reducible assumption, hz1⟩
      case measure => simp [intOf]
    · go_wp2_with (go_at_call 47; with_reducible refine (point_val 0 10 2 3 10 (by decide +kernel) _).mono ?_; rintro e w1 ⟨rfl, hb1⟩; have d0 := cell_later hb1 c0; have d1 := cell_later hb1 c1; have d2 := cell_later hb1 c2; have e0 := cell_later hb1 s0; have e1 := cell_later hb1 s1; have e2 := cell_later hb1 s2; have e3 := cell_later hb1 s3; obtain ⟨hg1, hs1⟩ := below_c (w := w) hb1 (by go_grown); have hz1 := Nat.le_trans hz hb1.size; clear hb1)
      go_roundw
      case rel => exact ⟨4, by omega, rfl, ⟨d0, d1, d2⟩, ⟨e0, e1, e2, e3⟩, by with_reducible assumption, hz1⟩
      case measure => simp [intOf]
    · go_wp2
      obtain ⟨wo, rfl⟩ : ∃ wo : World, wo = wr := ⟨_, rfl⟩
      go_loopw [53] (fun v53 ws => ∃ k : Nat, k ≤ 4 ∧ v53 = .int .i64 k ∧ (ws.cell? ⟨w.heap.size, 0, none⟩ = some (.int .i64 0) ∧ ws.cell? ⟨w.heap.size, 1, none⟩ = some (.int .i64 10) ∧ ws.cell? ⟨w.heap.size, 2, none⟩ = some (.int .i64 2)) ∧
        Row8 ws wo.heap.size ∧ Below w.heap.size w ws ∧ wo.heap.size + 1 ≤ ws.heap.size) (fun v53 _ => 4 - (intOf v53).toNat)
      case atStart => exact ⟨0, by omega, rfl, ⟨cell_later ((Below.refl _ _).alloc (Nat.le_refl _) _) c0, cell_later ((Below.refl _ _).alloc (Nat.le_refl _) _) c1, cell_later ((Below.refl _ _).alloc (Nat.le_refl _) _) c2⟩, by unfold Row8; simp [go_sem], by go_grown, by simp⟩
      case round =>
        obtain ⟨k, hk2, rfl, ⟨c0, c1, c2⟩, hR, hB2, hz2⟩ := hrel
        have zz : w.heap.size < wr.heap.size := World.block_lt_of_cell? wr ⟨w.heap.size, 0, none⟩ c0
        rcases (by omega : k = 0 ∨ k = 1 ∨ k = 2 ∨ k = 3 ∨ k = 4) with rfl | rfl | rfl | rfl | rfl
        · obtain ⟨t0, t1, t2, t3, t4, t5, t6, t7⟩ := id hR
          go_wp2_with (go_at_call 46; with_reducible refine (index_val 0 10 2 1 0 (by decide +kernel) _).mono ?_; rintro e w1 ⟨rfl, hb1⟩; have d0 := cell_later hb1 (cell_later ((Below.refl _ _).alloc (Nat.le_refl _) _) c0); have d1 := cell_later hb1 (cell_later ((Below.refl _ _).alloc (Nat.le_refl _) _) c1); have d2 := cell_later hb1 (cell_later ((Below.refl _ _).alloc (Nat.le_refl _) _) c2); have hS := rowLater hb1 hR; have hn : w1.cell? ⟨wr.heap.size, 1, none⟩ = some (.int .i64 0) := cell_later hb1 (by simp [go_sem]); obtain ⟨hg1, hs1⟩ := below_c (w := w) hb1 (by go_grown); have hz1 := Nat.le_trans (Nat.le_succ_of_le hz2) (by have := hb1.size; simp at this; exact this); clear hb1)
          go_roundw
          case rel => first | exact ⟨1, by omega, rfl, ⟨d0, d1, d2⟩, hS, by with_reducible assumption, hz1⟩ | ((repeat apply Exists.intro); exact ⟨⟨1, by omega, rfl, ⟨d0, d1, d2⟩, hS, by with_reducible assumption, hz1⟩, rfl⟩)
          case measure => simp [intOf]
        · obtain ⟨t0, t1, t2, t3, t4, t5, t6, t7⟩ := id hR
          go_wp2_with (go_at_call 46; with_reducible refine (index_val 0 10 2 2 1 (by decide +kernel) _).mono ?_; rintro e w1 ⟨rfl, hb1⟩; have d0 := cell_later hb1 (cell_later ((Below.refl _ _).alloc (Nat.le_refl _) _) c0); have d1 := cell_later hb1 (cell_later ((Below.refl _ _).alloc (Nat.le_refl _) _) c1); have d2 := cell_later hb1 (cell_later ((Below.refl _ _).alloc (Nat.le_refl _) _) c2); have hS := rowLater hb1 hR; have hn : w1.cell? ⟨wr.heap.size, 1, none⟩ = some (.int .i64 1) := cell_later hb1 (by simp [go_sem]); obtain ⟨hg1, hs1⟩ := below_c (w := w) hb1 (by go_grown); have hz1 := Nat.le_trans (Nat.le_succ_of_le hz2) (by have := hb1.size; simp at this; exact this); clear hb1)
          go_roundw
          case rel => first | exact ⟨2, by omega, rfl, ⟨d0, d1, d2⟩, hS, by with_reducible assumption, hz1⟩ | ((repeat apply Exists.intro); exact ⟨⟨2, by omega, rfl, ⟨d0, d1, d2⟩, hS, by with_reducible assumption, hz1⟩, rfl⟩)
          case measure => simp [intOf]
        · obtain ⟨t0, t1, t2, t3, t4, t5, t6, t7⟩ := id hR
          go_wp2_with (go_at_call 46; with_reducible refine (index_val 0 10 2 5 2 (by decide +kernel) _).mono ?_; rintro e w1 ⟨rfl, hb1⟩; have d0 := cell_later hb1 (cell_later ((Below.refl _ _).alloc (Nat.le_refl _) _) c0); have d1 := cell_later hb1 (cell_later ((Below.refl _ _).alloc (Nat.le_refl _) _) c1); have d2 := cell_later hb1 (cell_later ((Below.refl _ _).alloc (Nat.le_refl _) _) c2); have hS := rowLater hb1 hR; have hn : w1.cell? ⟨wr.heap.size, 1, none⟩ = some (.int .i64 2) := cell_later hb1 (by simp [go_sem]); obtain ⟨hg1, hs1⟩ := below_c (w := w) hb1 (by go_grown); have hz1 := Nat.le_trans (Nat.le_succ_of_le hz2) (by have := hb1.size; simp at this; exact this); clear hb1)
          go_roundw
          case rel => first | exact ⟨3, by omega, rfl, ⟨d0, d1, d2⟩, hS, by with_reducible assumption, hz1⟩ | ((repeat apply Exists.intro); exact ⟨⟨3, by omega, rfl, ⟨d0, d1, d2⟩, hS, by with_reducible assumption, hz1⟩, rfl⟩)
          case measure => simp [intOf]
        · obtain ⟨t0, t1, t2, t3, t4, t5, t6, t7⟩ := id hR
          go_wp2_with (go_at_call 46; with_reducible refine (index_val 0 10 2 9 3 (by decide +kernel) _).mono ?_; rintro e w1 ⟨rfl, hb1⟩; have d0 := cell_later hb1 (cell_later ((Below.refl _ _).alloc (Nat.le_refl _) _) c0); have d1 := cell_later hb1 (cell_later ((Below.refl _ _).alloc (Nat.le_refl _) _) c1); have d2 := cell_later hb1 (cell_later ((Below.refl _ _).alloc (Nat.le_refl _) _) c2); have hS := rowLater hb1 hR; have hn : w1.cell? ⟨wr.heap.size, 1, none⟩ = some (.int .i64 3) := cell_later hb1 (by simp [go_sem]); obtain ⟨hg1, hs1⟩ := below_c (w := w) hb1 (by go_grown); have hz1 := Nat.le_trans (Nat.le_succ_of_le hz2) (by have := hb1.size; simp at this; exact this); clear hb1)
          go_roundw
          case rel => first | exact ⟨4, by omega, rfl, ⟨d0, d1, d2⟩, hS, by with_reducible assumption, hz1⟩ | ((repeat apply Exists.intro); exact ⟨⟨4, by omega, rfl, ⟨d0, d1, d2⟩, hS, by with_reducible assumption, hz1⟩, rfl⟩)
          case measure => simp [intOf]
        · clear hR
          go_wp2_with fail
          refine (gnear_val 0 10 2 5 7 (by decide +kernel) _).mono ?_
          rintro e w1 ⟨rfl, hb1⟩
          have d0 := cell_later hb1 c0
          have d1 := cell_later hb1 c1
          have d2 := cell_later hb1 c2
          obtain ⟨hg1, hs1⟩ := below_c (w := w) hb1 (by go_grown)
          clear hb1 c0 c1 c2 hB2
          go_wp2_with fail
          refine (error_val 0 10 2 2 (by decide +kernel) _).mono ?_
          rintro e w2 ⟨rfl, hb2⟩
          obtain ⟨hg2, hs2⟩ := below_c (w := w) hb2 (by go_grown)
          clear hb2 d0 d1 d2 hg1 hs1
          go_wp2_with fail
          refine (index_val (-1000) 1000 8 100 140 (by decide +kernel) _).mono ?_
          rintro e w3 ⟨rfl, hb3⟩
          have h0 : w3.cell? ⟨w2.heap.size, 0, none⟩ = some (.int .i64 (-1000)) := cell_later hb3 (by simp [go_sem])
          have h1 : w3.cell? ⟨w2.heap.size, 1, none⟩ = some (.int .i64 1000) := cell_later hb3 (by simp [go_sem])
          have h2 : w3.cell? ⟨w2.heap.size, 2, none⟩ = some (.int .i64 8) := cell_later hb3 (by simp [go_sem])
          obtain ⟨hg3, hs3⟩ := below_c (w := w) hb3 (by go_grown)
          clear hb3 hg2
          go_wp2_with fail
          refine (point_val (-1000) 1000 8 140 98 (by decide +kernel) _).mono ?_
          rintro e w4 ⟨rfl, hb4⟩
          have i0 := cell_later hb4 h0
          have i1 := cell_later hb4 h1
          have i2 := cell_later hb4 h2
          obtain ⟨hg4, hs4⟩ := below_c (w := w) hb4 (by go_grown)
          clear hb4 hg3 h0 h1 h2
          go_wp2_with fail
          refine (error_val (-1000) 1000 8 4 (by decide +kernel) _).mono ?_
          rintro e w5 ⟨rfl, hb5⟩
          have j0 := cell_later hb5 i0
          have j1 := cell_later hb5 i1
          have j2 := cell_later hb5 i2
          obtain ⟨hg5, hs5⟩ := below_c (w := w) hb5 (by go_grown)
          clear hb5 hg4 i0 i1 i2
          go_wp2_with fail
          refine (ex_fit4 _).mono ?_
          rintro e w6 ⟨rfl, hb6⟩
          have k0 := cell_later hb6 j0
          have k1 := cell_later hb6 j1
          have k2 := cell_later hb6 j2
          obtain ⟨hg6, hs6⟩ := below_c (w := w) hb6 (by go_grown)
          clear hb6 hg5 j0 j1 j2
          go_wp2_with fail
          refine (ex_fit3 _).mono ?_
          rintro e w7 ⟨rfl, hb7⟩
          have l0 := cell_later hb7 (cell_later ((Below.refl _ _).alloc (Nat.le_refl _) _) k0)
          have l1 := cell_later hb7 (cell_later ((Below.refl _ _).alloc (Nat.le_refl _) _) k1)
          have l2 := cell_later hb7 (cell_later ((Below.refl _ _).alloc (Nat.le_refl _) _) k2)
          have m0 : w7.cell? ⟨w6.heap.size, 0, none⟩ = some (.int .i64 (-1000)) := cell_later hb7 (by simp [go_sem])
          have m1 : w7.cell? ⟨w6.heap.size, 1, none⟩ = some (.int .i64 1000) := cell_later hb7 (by simp [go_sem])
          have m2 : w7.cell? ⟨w6.heap.size, 2, none⟩ = some (.int .i64 8) := cell_later hb7 (by simp [go_sem])
          obtain ⟨hg7, hs7⟩ := below_c (w := w) hb7 (by go_grown)
          have z1 : w2.heap.size < w7.heap.size := World.block_lt_of_cell? w7 ⟨w2.heap.size, 0, none⟩ l0
          have z2 : w6.heap.size < w7.heap.size := World.block_lt_of_cell? w7 ⟨w6.heap.size, 0, none⟩ m0
          clear hb7 hg6 k0 k1 k2
          go_wp2_with fail
          go_returns
          exact ⟨rfl, by go_grown⟩
end Go.Proofs.YtghfggfgndgkjaaGreatDoor
