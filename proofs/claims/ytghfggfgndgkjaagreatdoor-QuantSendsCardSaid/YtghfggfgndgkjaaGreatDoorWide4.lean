/- The walks of package wide: the quotient rounded down and towards 0. -/
import Derived.Test.YtghfggfgndgkjaaGreatDoorWide2
import Derived.Test.YtghfggfgndgkjaaGreatDoorWide3
set_option linter.unusedVariables false
set_option linter.unusedSimpArgs false
namespace Go.Proofs.YtghfggfgndgkjaaGreatDoor
open Go.RowKit

theorem natAbs_pos {y : Int} (hy : y ≠ 0) (h1 : -18446744073709551616 < y) (h2 : y < 18446744073709551616) : 0 < low y ∧ low y = (y.natAbs : Int) := by unfold low; omega

/-- what the three ways of the quotient come to -/
theorem floor_pos_val (x y : Int) (hy : y ≠ 0) (hy1 : -18446744073709551616 < y) (hy2 : y < 18446744073709551616) (hs : (0 ≤ x ∧ 0 < y) ∨ (x < 0 ∧ y < 0)) :
    Value.tuple #[.agg #[.int .u64 (dvh (hiw x) (low x) (low y)), .int .u64 (dvl (hiw x) (low x) (low y)), .bool (nz false (dvh (hiw x) (low x) (low y)) (dvl (hiw x) (low x) (low y)))], .int .u64 (dvr (hiw x) (low x) (low y))] = .tuple #[W (fl x y), .int .u64 (fr x y)] := by
  obtain ⟨y0, yl⟩ := natAbs_pos hy hy1 hy2
  have hF := (fl_nat x y hy).1 (by omega)
  rw [← yl, ← hilo x] at hF
  have hD2 := dvl_bd (hiw x) (low x) (low y)
  rw [made_pos_eq (dv_eq (hiw x) (low x) (low y)) hD2.1 (by omega) (Int.ediv_nonneg (by rw [hilo]; omega) (by omega)), hF.1, hF.2]
  rfl
theorem floor_even_val (x y : Int) (hy : y ≠ 0) (hy1 : -18446744073709551616 < y) (hy2 : y < 18446744073709551616) (hs : (0 ≤ x ∧ y < 0) ∨ (x < 0 ∧ 0 < y)) (hr : dvr (hiw x) (low x) (low y) = 0) :
    Value.tuple #[.agg #[.int .u64 (dvh (hiw x) (low x) (low y)), .int .u64 (dvl (hiw x) (low x) (low y)), .bool (nz true (dvh (hiw x) (low x) (low y)) (dvl (hiw x) (low x) (low y)))], .int .u64 0] = .tuple #[W (fl x y), .int .u64 (fr x y)] := by
  obtain ⟨y0, yl⟩ := natAbs_pos hy hy1 hy2
  have hF := (fl_nat x y hy).2.1 (by omega)
  rw [← yl, ← hilo x] at hF
  have hF := hF hr
  have hD2 := dvl_bd (hiw x) (low x) (low y)
  rw [made_neg_eq (dv_eq (hiw x) (low x) (low y)) hD2.1 (by omega) (Int.ediv_nonneg (by rw [hilo]; omega) (by omega)), hF.1, hF.2]
theorem half_le {N d : Int} (h0 : 0 ≤ N) (d1 : 2 ≤ d) : N / d * 2 ≤ N := by
  have h1 := Int.mul_ediv_add_emod N d
  have h3 : 0 ≤ N % d := Int.emod_nonneg _ (by omega)
  have hQ : 0 ≤ N / d := Int.ediv_nonneg h0 (by omega)
  have h4 : N / d * 2 ≤ N / d * d := Int.mul_le_mul_of_nonneg_left d1 hQ
  rw [Int.mul_comm d] at h1
  omega
theorem floor_odd_val (x y : Int) (hx1 : -340282366920938463463374607431768211456 < x) (hx2 : x < 340282366920938463463374607431768211456) (hy : y ≠ 0) (hy1 : -18446744073709551616 < y) (hy2 : y < 18446744073709551616) (hs : (0 ≤ x ∧ y < 0) ∨ (x < 0 ∧ 0 < y)) (hr : dvr (hiw x) (low x) (low y) ≠ 0) :
    Value.tuple #[.agg #[.int .u64 (plh (dvh (hiw x) (low x) (low y)) (dvl (hiw x) (low x) (low y)) 0 1), .int .u64 (pll (dvl (hiw x) (low x) (low y)) 1), .bool (nz true (plh (dvh (hiw x) (low x) (low y)) (dvl (hiw x) (low x) (low y)) 0 1) (pll (dvl (hiw x) (low x) (low y)) 1))], .int .u64 (low y - dvr (hiw x) (low x) (low y))] = .tuple #[W (fl x y), .int .u64 (fr x y)] := by
  obtain ⟨y0, yl⟩ := natAbs_pos hy hy1 hy2
  have hF := (fl_nat x y hy).2.2 (by omega)
  rw [← yl, ← hilo x] at hF
  have hF := hF hr
  have hN0 : 0 ≤ hiw x * 18446744073709551616 + low x := by rw [hilo]; omega
  have hN1 : hiw x * 18446744073709551616 + low x < 340282366920938463463374607431768211456 := by rw [hilo]; omega
  have hD := dv_eq (hiw x) (low x) (low y)
  have hD2 := dvl_bd (hiw x) (low x) (low y)
  have hP2 := pll_bd (dvl (hiw x) (low x) (low y)) 1
  have h2 : low y ≠ 1 := by
    intro h; apply hr; unfold dvr; rw [h]; omega
  have hQ : 0 ≤ (hiw x * 18446744073709551616 + low x) / low y := Int.ediv_nonneg hN0 (by omega)
  have hQ2 := half_le hN0 (show 2 ≤ low y by omega)
  have hP := pl_eq (dvh (hiw x) (low x) (low y)) (dvl (hiw x) (low x) (low y)) 0 1 (by omega) (by omega)
  rw [hD] at hP
  have hP : plh (dvh (hiw x) (low x) (low y)) (dvl (hiw x) (low x) (low y)) 0 1 * 18446744073709551616 + pll (dvl (hiw x) (low x) (low y)) 1 = (hiw x * 18446744073709551616 + low x) / low y + 1 := by rw [hP]; omega
  rw [made_neg_eq hP hP2.1 (by omega) (by omega), hF.1, hF.2]
  rfl

set_option maxHeartbeats 1000000 in
theorem floor_pos (x y : Int) (hx1 : -340282366920938463463374607431768211456 < x) (hx2 : x < 340282366920938463463374607431768211456) (hy : y ≠ 0) (hy1 : -18446744073709551616 < y) (hy2 : y < 18446744073709551616)
    (hs : (0 ≤ x ∧ 0 < y) ∨ (x < 0 ∧ y < 0)) (w : World) :
    Calls Tryz.prog 83 #[W x, W y] w fun e w' => e = .returned (.tuple #[W (fl x y), .int .u64 (fr x y)]) ∧ Below w.heap.size w w' := by
  have HF := Lib.hid (floor_pos_val x y hy hy1 hy2 hs)
  obtain ⟨y0, yl⟩ := natAbs_pos hy hy1 hy2
  have e1 := hiw_nonneg x
  have e2 := hiw_le x hx1 hx2
  have e3 := low_nonneg x
  have e4 := low_le x
  have e5 := low_le y
  clear yl
  have hn : ngw x = ngw y := by unfold ngw; rw [Bool.eq_iff_iff]; simp; omega
  clear hs
  obtain ⟨b, hb⟩ : ∃ b, ngw x = b := ⟨_, rfl⟩
  have hb' : ngw y = b := by rw [← hn]; exact hb
  clear hn
  cases b
  all_goals
    go_enter Tryz.func83, Tryz.ntmps83
    go_wp2_with (first
      | (go_at_call 107; refine (divide_any _ _ _ (by assumption) (by assumption) (by assumption) (by assumption) (by assumption) (by assumption) _).mono ?_; rintro e w1 ⟨rfl, hb1⟩; obtain ⟨hc1, hf1, hz1, hg1⟩ := after (w := w) hb1 (by go_grown); simp at hz1; obtain ⟨z1, z2, z3⟩ := sz3 hz1)
      | (go_at_call 108; refine (made_any _ _ _ _).mono ?_; rintro e w2 ⟨rfl, hb2⟩; obtain ⟨hc2, hf2, hz2, hg2⟩ := after (w := w) hb2 (by go_grown); simp at hz2; have hz3 := Nat.le_trans hz1 (Nat.le_trans (Nat.le_succ _) hz2); obtain ⟨z4, z5, z6⟩ := sz3 hz3))
    refine bodyPost_ret (v := .tuple #[.agg #[.int .u64 (dvh (hiw x) (low x) (low y)), .int .u64 (dvl (hiw x) (low x) (low y)), .bool (nz false (dvh (hiw x) (low x) (low y)) (dvl (hiw x) (low x) (low y)))], .int .u64 (dvr (hiw x) (low x) (low y))]) (by simp [results, Tryz.results83, go_sem, hc1, hc2, z1, z2, z3]; try rfl) rfl ?_
    exact ⟨by rw [HF.out], by go_grown⟩

set_option maxHeartbeats 1000000 in
theorem floor_even (x y : Int) (hx1 : -340282366920938463463374607431768211456 < x) (hx2 : x < 340282366920938463463374607431768211456) (hy : y ≠ 0) (hy1 : -18446744073709551616 < y) (hy2 : y < 18446744073709551616)
    (hs : (0 ≤ x ∧ y < 0) ∨ (x < 0 ∧ 0 < y)) (hr : dvr (hiw x) (low x) (low y) = 0) (w : World) :
    Calls Tryz.prog 83 #[W x, W y] w fun e w' => e = .returned (.tuple #[W (fl x y), .int .u64 (fr x y)]) ∧ Below w.heap.size w w' := by
  have HF := Lib.hid (floor_even_val x y hy hy1 hy2 hs hr)
  obtain ⟨y0, yl⟩ := natAbs_pos hy hy1 hy2
  have e1 := hiw_nonneg x
  have e2 := hiw_le x hx1 hx2
  have e3 := low_nonneg x
  have e4 := low_le x
  have e5 := low_le y
  clear yl
  obtain ⟨b, hb, hb'⟩ : ∃ b, ngw x = b ∧ ngw y = !b := ⟨_, rfl, by unfold ngw; rw [Bool.eq_iff_iff]; simp; omega⟩
  clear hs
  cases b
  all_goals
    simp only [Bool.not_true, Bool.not_false] at hb'
    go_enter Tryz.func83, Tryz.ntmps83
    go_wp2_with (first
      | (go_at_call 107; refine (divide_any _ _ _ (by assumption) (by assumption) (by assumption) (by assumption) (by assumption) (by assumption) _).mono ?_; rintro e w1 ⟨rfl, hb1⟩; obtain ⟨hc1, hf1, hz1, hg1⟩ := after (w := w) hb1 (by go_grown); simp at hz1; obtain ⟨z1, z2, z3⟩ := sz3 hz1)
      | (go_at_call 108; refine (made_any _ _ _ _).mono ?_; rintro e w2 ⟨rfl, hb2⟩; obtain ⟨hc2, hf2, hz2, hg2⟩ := after (w := w) hb2 (by go_grown); simp at hz2; have hz3 := Nat.le_trans hz1 (Nat.le_trans (Nat.le_succ _) hz2); obtain ⟨z4, z5, z6⟩ := sz3 hz3))
    refine bodyPost_ret (v := .tuple #[.agg #[.int .u64 (dvh (hiw x) (low x) (low y)), .int .u64 (dvl (hiw x) (low x) (low y)), .bool (nz true (dvh (hiw x) (low x) (low y)) (dvl (hiw x) (low x) (low y)))], .int .u64 0]) (by simp [results, Tryz.results83, go_sem, hc1, hc2, z1, z2, z3]; try rfl) rfl ?_
    exact ⟨by rw [HF.out], by go_grown⟩

set_option maxHeartbeats 1000000 in
theorem floor_odd (x y : Int) (hx1 : -340282366920938463463374607431768211456 < x) (hx2 : x < 340282366920938463463374607431768211456) (hy : y ≠ 0) (hy1 : -18446744073709551616 < y) (hy2 : y < 18446744073709551616)
    (hs : (0 ≤ x ∧ y < 0) ∨ (x < 0 ∧ 0 < y)) (hr : (dvr (hiw x) (low x) (low y) == 0) = false) (w : World) :
    Calls Tryz.prog 83 #[W x, W y] w fun e w' => e = .returned (.tuple #[W (fl x y), .int .u64 (fr x y)]) ∧ Below w.heap.size w w' := by
  have HF := Lib.hid (floor_odd_val x y hx1 hx2 hy hy1 hy2 hs (by simpa using hr))
  obtain ⟨y0, yl⟩ := natAbs_pos hy hy1 hy2
  have e1 := hiw_nonneg x
  have e2 := hiw_le x hx1 hx2
  have e3 := low_nonneg x
  have e4 := low_le x
  have e5 := low_le y
  have r1 := (dvr_bd (hiw x) (low x) (low y) y0).1
  have r2 := (dvr_bd (hiw x) (low x) (low y) y0).2
  have hw := Lib.hid (show IntKind.u64.wrap (low y - dvr (hiw x) (low x) (low y)) = low y - dvr (hiw x) (low x) (low y) by rw [IntKind.wrap_u64]; omega)
  have d1 := (dvl_bd (hiw x) (low x) (low y)).1
  have d2 := (dvl_bd (hiw x) (low x) (low y)).2
  clear yl
  obtain ⟨b, hb, hb'⟩ : ∃ b, ngw x = b ∧ ngw y = !b := ⟨_, rfl, by unfold ngw; rw [Bool.eq_iff_iff]; simp; omega⟩
  clear hs
  cases b
  all_goals
    simp only [Bool.not_true, Bool.not_false] at hb'
    go_enter Tryz.func83, Tryz.ntmps83
    go_wp2_with (go_at_call 107; refine (divide_any _ _ _ (by assumption) (by assumption) (by assumption) (by assumption) (by assumption) (by assumption) _).mono ?_; rintro e w1 ⟨rfl, hb1⟩; obtain ⟨hc1, hf1, hz1, hg1⟩ := after (w := w) hb1 (by go_grown); simp at hz1; obtain ⟨z1, z2, z3⟩ := sz3 hz1)
    have k1 : (w1.alloc (.cells #[.int .u64 (dvh (hiw x) (low x) (low y)), .int .u64 (dvl (hiw x) (low x) (low y))] 133)).cell? ⟨w.heap.size + 1, 1, none⟩ = some (.int .u64 (low y)) := by simp [go_sem, hc1, z2]
    go_region_held3 (fun w' => w'.cell? ⟨w1.heap.size, 0, none⟩ = some (.int .u64 (dvh (hiw x) (low x) (low y))) ∧ w'.cell? ⟨w1.heap.size, 1, none⟩ = some (.int .u64 (dvl (hiw x) (low x) (low y))) ∧ w'.cell? ⟨w.heap.size + 1, 1, none⟩ = some (.int .u64 (low y))) (first | exact keep3 (by assumption) (by assumption) | (simp [go_sem, k1]; done) | (simp [go_sem, *]; done))
      (first
        | (go_at_call 109; refine (plus_any _ _ 0 1 (by assumption) (by assumption) (by decide) (by decide) _).mono ?_; rintro e w2 ⟨rfl, hb2⟩)
        | (go_at_call 108; refine (made_any _ _ _ _).mono ?_; rintro e w3 ⟨rfl, hb3⟩; have hb4 := chain (by assumption) (Nat.le_refl _) hb3; obtain ⟨hc4, hf4⟩ := bcell hb4))
    go_wp2
    refine bodyPost_ret (v := .tuple #[.agg #[.int .u64 (plh (dvh (hiw x) (low x) (low y)) (dvl (hiw x) (low x) (low y)) 0 1), .int .u64 (pll (dvl (hiw x) (low x) (low y)) 1), .bool (nz true (plh (dvh (hiw x) (low x) (low y)) (dvl (hiw x) (low x) (low y)) 0 1) (pll (dvl (hiw x) (low x) (low y)) 1))], .int .u64 (IntKind.u64.wrap (low y - (dvr (hiw x) (low x) (low y))))]) (by simp [results, Tryz.results83, go_sem, hc4, hc1, z1, z2, z3]; try rfl) rfl ?_
    exact ⟨by rw [hw.out, HF.out], by go_grown; exact (after hb4 (by go_grown)).2.2.2⟩

theorem floor_any (x y : Int) (hx1 : -340282366920938463463374607431768211456 < x) (hx2 : x < 340282366920938463463374607431768211456) (hy : y ≠ 0) (hy1 : -18446744073709551616 < y) (hy2 : y < 18446744073709551616) (w : World) :
    Calls Tryz.prog 83 #[W x, W y] w fun e w' => e = .returned (.tuple #[W (fl x y), .int .u64 (fr x y)]) ∧ Below w.heap.size w w' := by
  by_cases h1 : (0 ≤ x ∧ 0 < y) ∨ (x < 0 ∧ y < 0)
  · exact floor_pos x y hx1 hx2 hy hy1 hy2 h1 w
  · by_cases h2 : dvr (hiw x) (low x) (low y) = 0
    · exact floor_even x y hx1 hx2 hy hy1 hy2 (by omega) h2 w
    · exact floor_odd x y hx1 hx2 hy hy1 hy2 (by omega) (by simpa using h2) w

/-- the quotient, rounded towards 0 -/
def tq (x y : Int) : Int := if (x < 0 ↔ y < 0) then (x.natAbs : Int) / (y.natAbs : Int) else -((x.natAbs : Int) / (y.natAbs : Int))
theorem trunc_val (x y : Int) (hy : y ≠ 0) (hy1 : -18446744073709551616 < y) (hy2 : y < 18446744073709551616) (b c : Bool) (hb : ngw x = b) (hc : ngw y = c) :
    Ending.returned (.agg #[.int .u64 (dvh (hiw x) (low x) (low y)), .int .u64 (dvl (hiw x) (low x) (low y)), .bool (nz (b != c) (dvh (hiw x) (low x) (low y)) (dvl (hiw x) (low x) (low y)))]) = .returned (W (tq x y)) := by
  obtain ⟨y0, yl⟩ := natAbs_pos hy hy1 hy2
  have hD2 := dvl_bd (hiw x) (low x) (low y)
  have hb' : b = decide (x < 0) := by rw [← hb]; rfl
  have hc' : c = decide (y < 0) := by rw [← hc]; rfl
  rw [made_sgn_eq (dv_eq (hiw x) (low x) (low y)) hD2.1 (by omega) (Int.ediv_nonneg (by rw [hilo]; omega) (by omega)) (z := tq x y)]
  unfold tq
  rw [hilo, yl, hb', hc']
  by_cases g1 : x < 0 <;> by_cases g2 : y < 0 <;> simp [g1, g2]

end Go.Proofs.YtghfggfgndgkjaaGreatDoor
