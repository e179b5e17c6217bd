/- The walks of package wide: the sum of numbers, the root bit by bit. -/
import Derived.Test.YtghfggfgndgkjaaGreatDoorWide2
set_option linter.unusedVariables false
set_option linter.unusedSimpArgs false
namespace Go.Proofs.YtghfggfgndgkjaaGreatDoor
open Go.RowKit

def psum (el : Nat → Int) : Nat → Int
  | 0 => 0
  | k + 1 => psum el k + el k
/-- the two blocks of the sum: what is handed back, and the sum so far -/
def SumCells (b : Nat) (wr : World) (z : Int) : Prop :=
  (wr.cell? ⟨b, 0, none⟩ = some (.int .u64 0) ∧ wr.cell? ⟨b, 1, none⟩ = some (.int .u64 0) ∧ wr.cell? ⟨b, 2, none⟩ = some (.bool false) ∧
  wr.cell? ⟨b + 1, 0, none⟩ = some (.int .u64 (hiw z)) ∧ wr.cell? ⟨b + 1, 1, none⟩ = some (.int .u64 (low z)) ∧ wr.cell? ⟨b + 1, 2, none⟩ = some (.bool (ngw z))) ∧
  wr.frozen? ⟨b, 0, none⟩ = false ∧ wr.frozen? ⟨b, 1, none⟩ = false ∧ wr.frozen? ⟨b, 2, none⟩ = false ∧ wr.frozen? ⟨b + 1, 0, none⟩ = false ∧ wr.frozen? ⟨b + 1, 1, none⟩ = false ∧ wr.frozen? ⟨b + 1, 2, none⟩ = false
theorem sumCells_below {b : Nat} {wr w3 : World} {z : Int} (h : SumCells b wr z) (hb : Below wr.heap.size wr w3) (hz : b + 1 + 1 ≤ wr.heap.size) : SumCells b w3 z := by
  obtain ⟨⟨c1, c2, c3, c4, c5, c6⟩, f1, f2, f3, f4, f5, f6⟩ := h
  obtain ⟨hc, hf⟩ := bcell hb
  exact ⟨⟨cell_later hb c1, cell_later hb c2, cell_later hb c3, cell_later hb c4, cell_later hb c5, cell_later hb c6⟩, (hf _ _ (by omega)).trans f1, (hf _ _ (by omega)).trans f2, (hf _ _ (by omega)).trans f3, (hf _ _ (by omega)).trans f4, (hf _ _ (by omega)).trans f5, (hf _ _ (by omega)).trans f6⟩
theorem agg_W {h l z : Int} {n : Bool} (e : Value.agg #[.int .u64 h, .int .u64 l, .bool n] = W z) : h = hiw z ∧ l = low z ∧ n = ngw z := by simpa using e
theorem sumCells_set {b : Nat} {w3 : World} {z z' h l : Int} {n : Bool} (H : SumCells b w3 z) (e : Value.agg #[.int .u64 h, .int .u64 l, .bool n] = W z') :
    SumCells b (((w3.setCell ⟨b + 1, 0, none⟩ (.int .u64 h)).setCell ⟨b + 1, 1, none⟩ (.int .u64 l)).setCell ⟨b + 1, 2, none⟩ (.bool n)) z' := by
  obtain ⟨⟨c1, c2, c3, c4, c5, c6⟩, f1, f2, f3, f4, f5, f6⟩ := H
  obtain ⟨rfl, rfl, rfl⟩ := agg_W e
  refine ⟨⟨?_, ?_, ?_, ?_, ?_, ?_⟩, ?_, ?_, ?_, ?_, ?_, ?_⟩
  all_goals simp [go_sem, c1, c2, c3, c4, c5, c6, f1, f2, f3, f4, f5, f6]

theorem ngw_true {z : Int} (h : ngw z = true) : z < 0 := by unfold ngw at h; simpa using h
theorem ngw_false {z : Int} (h : ngw z = false) : 0 ≤ z := by unfold ngw at h; simpa using h
theorem sum_same (z v : Int) (b : Bool) (hz : ngw z = b) (hv : ngw v = b) (h1 : (z.natAbs : Int) < 170141183460469231731687303715884105728) (h2 : (v.natAbs : Int) < 170141183460469231731687303715884105728) :
    Value.agg #[.int .u64 (plh (hiw z) (low z) (hiw v) (low v)), .int .u64 (pll (low z) (low v)), .bool (nz b (plh (hiw z) (low z) (hiw v) (low v)) (pll (low z) (low v)))] = W (z + v) := by
  have e1 := hilo z
  have e2 := hilo v
  have hP := pl_eq (hiw z) (low z) (hiw v) (low v) (by omega) (by omega)
  rw [e1, e2] at hP
  have hP2 := pll_bd (low z) (low v)
  refine made_sgn_eq hP hP2.1 (by omega) (by omega) ⟨fun hb => ?_, fun hb => ?_⟩
  · subst hb; have := ngw_false hz; have := ngw_false hv; omega
  · subst hb; have := ngw_true hz; have := ngw_true hv; omega
theorem sum_other (z v : Int) (b : Bool) (hz : ngw z = b) (hv : ngw v = !b) (hl : (v.natAbs : Int) ≤ (z.natAbs : Int)) (h1 : (z.natAbs : Int) < 170141183460469231731687303715884105728) :
    Value.agg #[.int .u64 (mih (hiw z) (low z) (hiw v) (low v)), .int .u64 (mil (low z) (low v)), .bool (nz b (mih (hiw z) (low z) (hiw v) (low v)) (mil (low z) (low v)))] = W (z + v) := by
  have e1 := hilo z
  have e2 := hilo v
  have hP := mi_eq (hiw z) (low z) (hiw v) (low v) (by omega) (by omega)
  rw [e1, e2] at hP
  have hP2 := mil_bd (low z) (low v)
  refine made_sgn_eq hP hP2.1 (by omega) (by omega) ⟨fun hb => ?_, fun hb => ?_⟩
  · subst hb; have := ngw_false hz; have := ngw_true hv; omega
  · subst hb; have := ngw_true hz; have := ngw_false hv; omega

theorem sum_less (z v : Int) (p : Bool) (hz : ngw z = p) (hv : ngw v = !p) (hl : ltw (hiw z) (low z) (hiw v) (low v) = true) (h2 : (v.natAbs : Int) < 170141183460469231731687303715884105728) :
    Value.agg #[.int .u64 (mih (hiw v) (low v) (hiw z) (low z)), .int .u64 (mil (low v) (low z)), .bool (nz (!p) (mih (hiw v) (low v) (hiw z) (low z)) (mil (low v) (low z)))] = W (z + v) := by
  have hl' : hiw z * 18446744073709551616 + low z < hiw v * 18446744073709551616 + low v := by unfold ltw at hl; simpa using hl
  rw [hilo, hilo] at hl'
  rw [Int.add_comm z v]
  exact sum_other v z (!p) hv (by simpa using hz) (by omega) h2
theorem sum_geq (z v : Int) (p : Bool) (hz : ngw z = p) (hv : ngw v = !p) (hl : ltw (hiw z) (low z) (hiw v) (low v) = false) (h1 : (z.natAbs : Int) < 170141183460469231731687303715884105728) :
    Value.agg #[.int .u64 (mih (hiw z) (low z) (hiw v) (low v)), .int .u64 (mil (low z) (low v)), .bool (nz p (mih (hiw z) (low z) (hiw v) (low v)) (mil (low z) (low v)))] = W (z + v) := by
  have hl' : ¬ (hiw z * 18446744073709551616 + low z < hiw v * 18446744073709551616 + low v) := by unfold ltw at hl; rw [decide_eq_false_iff_not] at hl; exact hl
  rw [hilo, hilo] at hl'
  exact sum_other z v p hz hv (by omega) h1

theorem chainD {B : Nat} {V0 w1 w2 : World} (h1 : Below B V0 w1) (hB : B ≤ V0.heap.size) (h2 : Below w1.drew.heap.size w1.drew w2) : Below B V0 w2 := h1.drew.trans (h2.mono (Nat.le_trans hB h1.size))

set_option maxHeartbeats 20000000 in
theorem sum_loop (b n : Nat) (el : Nat → Int) (w : World) (hn : n ≤ 1000) (hb : b < w.heap.size)
    (hcl : ∀ j, j < n → w.cell? ⟨b, j * 3, none⟩ = some (.int .u64 (hiw (el j))) ∧ w.cell? ⟨b, j * 3 + 1, none⟩ = some (.int .u64 (low (el j))) ∧ w.cell? ⟨b, j * 3 + 2, none⟩ = some (.bool (ngw (el j))))
    (hbd : ∀ j, j < n → ((psum el j).natAbs : Int) < 170141183460469231731687303715884105728 ∧ ((el j).natAbs : Int) < 170141183460469231731687303715884105728) :
    Calls Tryz.prog 87 #[.slice (some ⟨b, 0, none⟩) n n] w fun e w' => e = .returned (W (psum el n)) ∧ Below w.heap.size w w' := by
  have HCL := Lib.hid hcl
  have HBD := Lib.hid hbd
  clear hcl hbd
  go_enter Tryz.func87, Tryz.ntmps87
  go_wp2
  go_loopw [9] (fun v9 wr => ∃ k : Nat, k ≤ n ∧ v9 = .int .i64 k ∧ SumCells w.heap.size wr (psum el k) ∧ Below w.heap.size w wr ∧ w.heap.size + 1 + 1 ≤ wr.heap.size) (fun v9 _ => n - (intOf v9).toNat)
  case atStart => exact ⟨0, by omega, rfl, by unfold SumCells; simp [go_sem, psum, hiw, low, ngw], by go_grown, by simp⟩
  case round =>
    obtain ⟨k, hk, rfl, hC, hB, hz⟩ := hrel
    have hC2 := hC
    obtain ⟨⟨c1, c2, c3, c4, c5, c6⟩, f1, f2, f3, f4, f5, f6⟩ := hC2
    have HC := Lib.hid hC
    clear hC
    obtain ⟨z1, z2⟩ := sz2 hz
    by_cases hlt : k < n
    · obtain ⟨y1, y2, y3⟩ := HCL.out k hlt
      have y4 := cell_later hB y1
      have y5 := cell_later hB y2
      have y6 := cell_later hB y3
      clear y1 y2 y3
      have HS : Hid (psum el (k + 1) = psum el k + el k) := Lib.hid rfl
      have HN := Lib.hid (HBD.out k hlt)
      generalize psum el k = z at *
      generalize el k = v at *
      have l1 := low_nonneg z
      have l2 := low_le z
      have l3 := low_nonneg v
      have l4 := low_le v
      obtain ⟨p, hp⟩ : ∃ p, ngw z = p := ⟨_, rfl⟩
      by_cases hq : ngw v = p
      · have HF := Lib.hid (sum_same z v p hp hq HN.out.1 HN.out.2)
        go_wp2
        go_region_with (first
          | (go_at_call 109; refine (plus_any _ _ _ _ (by assumption) (by assumption) (by assumption) (by assumption) _).mono ?_; rintro e w2 ⟨rfl, hb2⟩; obtain ⟨hc2, hf2, hz2, hg2⟩ := after (w := wr) hb2 (by go_grown); simp at hz2; have hz3 := Nat.le_of_succ_le hz2; have k1 := Nat.lt_of_lt_of_le z1 hz3; have k2 := Nat.lt_of_lt_of_le z2 hz3)
          | (go_at_call 108; refine (made_any _ _ _ _).mono ?_; rintro e w3 ⟨rfl, hb3⟩; obtain ⟨hc3, hf3, hz3, hg3⟩ := after (w := wr) hb3 (by go_grown)))
        all_goals
          go_wp2
          go_roundw
          case rel => exact ⟨k + 1, by omega, by go_num, by rw [HS.out]; exact sumCells_set (sumCells_below HC.out hg3 hz) HF.out, by go_grown; exact hB.trans (hg3.mono hB.size), by simp; have := hg3.size; omega⟩
          case measure => simp [intOf]; omega
      · have hq : ngw v = !p := by cases p <;> simpa using hq
        have hpq : (p == !p) = false := by cases p <;> rfl
        by_cases hl : ltw (hiw z) (low z) (hiw v) (low v) = true
        · have HF := Lib.hid (sum_less z v p hp hq hl HN.out.2)
          go_wp2_with (go_at_call 111; refine (less_any _ _ _ _ (by assumption) (by assumption) (by assumption) (by assumption) _).mono ?_; rintro e w1 ⟨rfl, hb1⟩; obtain ⟨hc1, hf1, hz1, hg1⟩ := after (w := wr) hb1 (by go_grown); simp at hz1; have hz0 := Nat.le_of_succ_le hz1; have j1 := Nat.lt_of_lt_of_le z1 hz0; have j2 := Nat.lt_of_lt_of_le z2 hz0; have j3 := Nat.lt_of_succ_le hz1)
          go_region_with (first
            | (go_at_call 112; refine (minus_any _ _ _ _ (by assumption) (by assumption) (by assumption) (by assumption) _).mono ?_; rintro e w2 ⟨rfl, hb2⟩; have hb4 := chainD hb1 (Nat.le_refl _) hb2; obtain ⟨hc2, hf2, hz2, hg2⟩ := after (w := wr) hb4 (by go_grown); simp at hz2; have hz3 := Nat.le_of_succ_le hz2; have k1 := Nat.lt_of_lt_of_le z1 hz3; have k2 := Nat.lt_of_lt_of_le z2 hz3)
            | (go_at_call 108; refine (made_any _ _ _ _).mono ?_; rintro e w3 ⟨rfl, hb3⟩; obtain ⟨hc3, hf3, hz3, hg3⟩ := after (w := wr) hb3 (by go_grown)))
          all_goals
            go_wp2
            go_roundw
            case rel => exact ⟨k + 1, by omega, by go_num, by rw [HS.out]; exact sumCells_set (sumCells_below HC.out hg3 hz) HF.out, by go_grown; exact hB.trans (hg3.mono hB.size), by simp; have := hg3.size; omega⟩
            case measure => simp [intOf]; omega
        · have hl : ltw (hiw z) (low z) (hiw v) (low v) = false := by simpa using hl
          have HF := Lib.hid (sum_geq z v p hp hq hl HN.out.1)
          go_wp2_with (go_at_call 111; refine (less_any _ _ _ _ (by assumption) (by assumption) (by assumption) (by assumption) _).mono ?_; rintro e w1 ⟨rfl, hb1⟩; obtain ⟨hc1, hf1, hz1, hg1⟩ := after (w := wr) hb1 (by go_grown); simp at hz1; have hz0 := Nat.le_of_succ_le hz1; have j1 := Nat.lt_of_lt_of_le z1 hz0; have j2 := Nat.lt_of_lt_of_le z2 hz0; have j3 := Nat.lt_of_succ_le hz1)
          go_region_with (first
            | (go_at_call 112; refine (minus_any _ _ _ _ (by assumption) (by assumption) (by assumption) (by assumption) _).mono ?_; rintro e w2 ⟨rfl, hb2⟩; have hb4 := chainD hb1 (Nat.le_refl _) hb2; obtain ⟨hc2, hf2, hz2, hg2⟩ := after (w := wr) hb4 (by go_grown); simp at hz2; have hz3 := Nat.le_of_succ_le hz2; have k1 := Nat.lt_of_lt_of_le z1 hz3; have k2 := Nat.lt_of_lt_of_le z2 hz3)
            | (go_at_call 108; refine (made_any _ _ _ _).mono ?_; rintro e w3 ⟨rfl, hb3⟩; obtain ⟨hc3, hf3, hz3, hg3⟩ := after (w := wr) hb3 (by go_grown)))
          all_goals
            go_wp2
            go_roundw
            case rel => exact ⟨k + 1, by omega, by go_num, by rw [HS.out]; exact sumCells_set (sumCells_below HC.out hg3 hz) HF.out, by go_grown; exact hB.trans (hg3.mono hB.size), by simp; have := hg3.size; omega⟩
            case measure => simp [intOf]; omega
    · have hkn : k = n := by omega
      subst hkn
      go_wp2
      refine bodyPost_ret (by simp [results, Tryz.results87, go_sem, c1, c2, c3, c4, c5, c6]; try rfl) rfl ?_
      exact ⟨rfl, by go_grown⟩
end Go.Proofs.YtghfggfgndgkjaaGreatDoor
