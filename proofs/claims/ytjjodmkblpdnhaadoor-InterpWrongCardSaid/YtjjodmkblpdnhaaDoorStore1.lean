/- How worlds lie in memory; store.Fits. -/
import Derived.Test.YtjjodmkblpdnhaaDoorWorldPlain
import Derived.Test.YtjjodmkblpdnhaaDoorAppend
import Derived.BigRegion
import Derived.WalkLawsBesides
import Derived.Deep.QuietTactic
import Derived.BigQuiet
set_option linter.unusedVariables false
set_option linter.unusedSimpArgs false
namespace Go.Proofs.YtjjodmkblpdnhaaDoor
open Go Go.RowKit Go.Sort
set_option maxRecDepth 100000

/-- the table of ranges lies where the program's initialiser laid it -/
def RG (w : World) : Prop := ∀ j, j < 88 → w.cell? ⟨0, j, none⟩ = some (.int .i64 (tab.getD j 0))
theorem RG.below {w w' : World} (h : RG w) (hb : Below w.heap.size w w') : RG w' := fun j hj => cell_later hb (h j hj)
/-- a component as a value -/
abbrev C (x : Cmp) : Value := .agg #[.int .u8 x.k, .int .i64 x.a, .int .i64 x.b, .int .i64 x.c, .int .i64 x.d]
set_option maxHeartbeats 4000000 in
theorem fits_any (x : Cmp) (w : World) (hR : RG w) (k0 : 0 ≤ x.k) (k1 : x.k ≤ 255) :
    Calls Tryd.prog 57 #[C x] w fun e w' => e = .returned (.bool (fits x)) ∧ Below w.heap.size w w' := by
  obtain ⟨k, a, b, c, d⟩ := x
  simp only at k0 k1
  have hR0 : 0 < w.heap.size := World.block_lt_of_cell? w _ (hR 0 (by decide))
  by_cases h1 : 1 ≤ k
  · by_cases h2 : k ≤ 10
    · obtain ⟨r0, hr0⟩ : ∃ r, tab.getD (k.toNat * 8) 0 = r := ⟨_, rfl⟩
      obtain ⟨r1, hr1⟩ : ∃ r, tab.getD (k.toNat * 8 + 1) 0 = r := ⟨_, rfl⟩
      obtain ⟨r2, hr2⟩ : ∃ r, tab.getD (k.toNat * 8 + 2) 0 = r := ⟨_, rfl⟩
      obtain ⟨r3, hr3⟩ : ∃ r, tab.getD (k.toNat * 8 + 3) 0 = r := ⟨_, rfl⟩
      obtain ⟨r4, hr4⟩ : ∃ r, tab.getD (k.toNat * 8 + 4) 0 = r := ⟨_, rfl⟩
      obtain ⟨r5, hr5⟩ : ∃ r, tab.getD (k.toNat * 8 + 5) 0 = r := ⟨_, rfl⟩
      obtain ⟨r6, hr6⟩ : ∃ r, tab.getD (k.toNat * 8 + 6) 0 = r := ⟨_, rfl⟩
      obtain ⟨r7, hr7⟩ : ∃ r, tab.getD (k.toNat * 8 + 7) 0 = r := ⟨_, rfl⟩
      have g0 := hR (k.toNat * 8) (by omega)
      have g1 := hR (k.toNat * 8 + 1) (by omega)
      have g2 := hR (k.toNat * 8 + 2) (by omega)
      have g3 := hR (k.toNat * 8 + 3) (by omega)
      have g4 := hR (k.toNat * 8 + 4) (by omega)
      have g5 := hR (k.toNat * 8 + 5) (by omega)
      have g6 := hR (k.toNat * 8 + 6) (by omega)
      have g7 := hR (k.toNat * 8 + 7) (by omega)
      rw [hr0] at g0
      rw [hr1] at g1
      rw [hr2] at g2
      rw [hr3] at g3
      rw [hr4] at g4
      rw [hr5] at g5
      rw [hr6] at g6
      rw [hr7] at g7
      have HS := Lib.hid (show fits ⟨k, a, b, c, d⟩ = ((decide (r0 ≤ a) && decide (a ≤ r1)) && (decide (r2 ≤ b) && decide (b ≤ r3)) && (decide (r4 ≤ c) && decide (c ≤ r5)) && (decide (r6 ≤ d) && decide (d ≤ r7)) && extra ⟨k, a, b, c, d⟩) by
        subst hr0 hr1 hr2 hr3 hr4 hr5 hr6 hr7
        simp [fits, inLim, lim, Cmp.v, h1, h2])
      clear hR hr0 hr1 hr2 hr3 hr4 hr5 hr6 hr7
      go_enter Tryd.func57, Tryd.ntmps57
      go_wp2
      have ix0 : ∀ w, (Instr.index 121 (.agg #[.int .i64 r0, .int .i64 r1, .int .i64 r2, .int .i64 r3, .int .i64 r4, .int .i64 r5, .int .i64 r6, .int .i64 r7]) (.int .i64 0)).run Tryd.prog w = .ok (.agg #[.int .i64 r0, .int .i64 r1]) w := fun _ => by kernel_rfl
      have ix1 : ∀ w, (Instr.index 121 (.agg #[.int .i64 r0, .int .i64 r1, .int .i64 r2, .int .i64 r3, .int .i64 r4, .int .i64 r5, .int .i64 r6, .int .i64 r7]) (.int .i64 1)).run Tryd.prog w = .ok (.agg #[.int .i64 r2, .int .i64 r3]) w := fun _ => by kernel_rfl
      have ix2 : ∀ w, (Instr.index 121 (.agg #[.int .i64 r0, .int .i64 r1, .int .i64 r2, .int .i64 r3, .int .i64 r4, .int .i64 r5, .int .i64 r6, .int .i64 r7]) (.int .i64 2)).run Tryd.prog w = .ok (.agg #[.int .i64 r4, .int .i64 r5]) w := fun _ => by kernel_rfl
      have ix3 : ∀ w, (Instr.index 121 (.agg #[.int .i64 r0, .int .i64 r1, .int .i64 r2, .int .i64 r3, .int .i64 r4, .int .i64 r5, .int .i64 r6, .int .i64 r7]) (.int .i64 3)).run Tryd.prog w = .ok (.agg #[.int .i64 r6, .int .i64 r7]) w := fun _ => by kernel_rfl
      clear g0 g1 g2 g3 g4 g5 g6 g7
      go_loopw [17] (fun v17 wr => ∃ i : Nat, i ≤ 4 ∧ v17 = .int .i64 i ∧ Hid ((1 ≤ i → r0 ≤ a ∧ a ≤ r1) ∧ (2 ≤ i → r2 ≤ b ∧ b ≤ r3) ∧ (3 ≤ i → r4 ≤ c ∧ c ≤ r5) ∧ (4 ≤ i → r6 ≤ d ∧ d ≤ r7)) ∧ Bk wr w.heap.size #[.int .u8 k, .int .i64 a, .int .i64 b, .int .i64 c, .int .i64 d] 67 ∧ Below w.heap.size w wr) (fun v17 _ => 4 - (intOf v17).toNat)
      case atStart => exact ⟨0, by omega, rfl, Lib.hid ⟨fun h => absurd h (by omega), fun h => absurd h (by omega), fun h => absurd h (by omega), fun h => absurd h (by omega)⟩, Bk.made _ _ _, (Below.refl _ _).alloc (Nat.le_refl _) _⟩
      case round =>
        obtain ⟨i, hi, rfl, HI, hB, hb⟩ := hrel
        have hs := hb.size
        have c0 := hB.cell (v := .int .u8 k) 0 rfl
        have c1 := hB.cell (v := .int .i64 a) 1 rfl
        have c2 := hB.cell (v := .int .i64 b) 2 rfl
        have c3 := hB.cell (v := .int .i64 c) 3 rfl
        have c4 := hB.cell (v := .int .i64 d) 4 rfl
        have lt := hB.lt
        rcases (by omega : i = 0 ∨ i = 1 ∨ i = 2 ∨ i = 3 ∨ i = 4) with rfl | rfl | rfl | rfl | rfl
        · by_cases hlo : r0 ≤ a
          · by_cases hhi : a ≤ r1
            · have d1 : decide (a < r0) = false := by simp; omega
              have d2 : decide (r1 < a) = false := by simp; omega
              go_wp2
              go_quiet (fail)
              go_wp2
              go_roundw
              case rel => exact ⟨1, by omega, by go_num, Lib.hid ⟨fun _ => ⟨hlo, hhi⟩, fun h => absurd h (by omega), fun h => absurd h (by omega), fun h => absurd h (by omega)⟩, hB.alloc _, below_drewN (hb.alloc hs _) _⟩
              case measure => simp [intOf]
            · have d1 : decide (a < r0) = false := by simp; omega
              have d2 : decide (r1 < a) = true := by simp; omega
              go_wp2
              go_quiet (fail)
              go_wp2
              go_returns
              have e : decide (a ≤ r1) = false := by simp; omega
              exact ⟨ret_bool (by rw [HS.out]; simp [e]), below_drewN (hb.alloc hs _) _⟩
          · have d1 : decide (a < r0) = true := by simp; omega
            go_wp2
            go_quiet (fail)
            go_wp2
            go_returns
            have e : decide (r0 ≤ a) = false := by simp; omega
            exact ⟨ret_bool (by rw [HS.out]; simp [e]), below_drewN (hb.alloc hs _) _⟩
        · by_cases hlo : r2 ≤ b
          · by_cases hhi : b ≤ r3
            · have d1 : decide (b < r2) = false := by simp; omega
              have d2 : decide (r3 < b) = false := by simp; omega
              go_wp2
              go_quiet (fail)
              go_wp2
              go_roundw
              case rel => exact ⟨2, by omega, by go_num, Lib.hid ⟨fun _ => HI.out.1 (by omega), fun _ => ⟨hlo, hhi⟩, fun h => absurd h (by omega), fun h => absurd h (by omega)⟩, hB.alloc _, below_drewN (hb.alloc hs _) _⟩
              case measure => simp [intOf]
            · have d1 : decide (b < r2) = false := by simp; omega
              have d2 : decide (r3 < b) = true := by simp; omega
              go_wp2
              go_quiet (fail)
              go_wp2
              go_returns
              have e : decide (b ≤ r3) = false := by simp; omega
              exact ⟨ret_bool (by rw [HS.out]; simp [e]), below_drewN (hb.alloc hs _) _⟩
          · have d1 : decide (b < r2) = true := by simp; omega
            go_wp2
            go_quiet (fail)
            go_wp2
            go_returns
            have e : decide (r2 ≤ b) = false := by simp; omega
            exact ⟨ret_bool (by rw [HS.out]; simp [e]), below_drewN (hb.alloc hs _) _⟩
        · by_cases hlo : r4 ≤ c
          · by_cases hhi : c ≤ r5
            · have d1 : decide (c < r4) = false := by simp; omega
              have d2 : decide (r5 < c) = false := by simp; omega
              go_wp2
              go_quiet (fail)
              go_wp2
              go_roundw
              case rel => exact ⟨3, by omega, by go_num, Lib.hid ⟨fun _ => HI.out.1 (by omega), fun _ => HI.out.2.1 (by omega), fun _ => ⟨hlo, hhi⟩, fun h => absurd h (by omega)⟩, hB.alloc _, below_drewN (hb.alloc hs _) _⟩
              case measure => simp [intOf]
            · have d1 : decide (c < r4) = false := by simp; omega
              have d2 : decide (r5 < c) = true := by simp; omega
              go_wp2
              go_quiet (fail)
              go_wp2
              go_returns
              have e : decide (c ≤ r5) = false := by simp; omega
              exact ⟨ret_bool (by rw [HS.out]; simp [e]), below_drewN (hb.alloc hs _) _⟩
          · have d1 : decide (c < r4) = true := by simp; omega
            go_wp2
            go_quiet (fail)
            go_wp2
            go_returns
            have e : decide (r4 ≤ c) = false := by simp; omega
            exact ⟨ret_bool (by rw [HS.out]; simp [e]), below_drewN (hb.alloc hs _) _⟩
        · by_cases hlo : r6 ≤ d
          · by_cases hhi : d ≤ r7
            · have d1 : decide (d < r6) = false := by simp; omega
              have d2 : decide (r7 < d) = false := by simp; omega
              go_wp2
              go_quiet (fail)
              go_wp2
              go_roundw
              case rel => exact ⟨4, by omega, by go_num, Lib.hid ⟨fun _ => HI.out.1 (by omega), fun _ => HI.out.2.1 (by omega), fun _ => HI.out.2.2.1 (by omega), fun _ => ⟨hlo, hhi⟩⟩, hB.alloc _, below_drewN (hb.alloc hs _) _⟩
              case measure => simp [intOf]
            · have d1 : decide (d < r6) = false := by simp; omega
              have d2 : decide (r7 < d) = true := by simp; omega
              go_wp2
              go_quiet (fail)
              go_wp2
              go_returns
              have e : decide (d ≤ r7) = false := by simp; omega
              exact ⟨ret_bool (by rw [HS.out]; simp [e]), below_drewN (hb.alloc hs _) _⟩
          · have d1 : decide (d < r6) = true := by simp; omega
            go_wp2
            go_quiet (fail)
            go_wp2
            go_returns
            have e : decide (r6 ≤ d) = false := by simp; omega
            exact ⟨ret_bool (by rw [HS.out]; simp [e]), below_drewN (hb.alloc hs _) _⟩
        · have HX := Lib.hid (show fits ⟨k, a, b, c, d⟩ = extra ⟨k, a, b, c, d⟩ by
            rw [HS.out]
            obtain ⟨q1, q2, q3, q4⟩ := HI.out
            have q1 := q1 (by omega); have q2 := q2 (by omega); have q3 := q3 (by omega); have q4 := q4 (by omega)
            simp [q1, q2, q3, q4])
          by_cases h3 : k = 3
          · subst h3
            by_cases hc : c = 0
            · subst hc
              go_wp2
              go_returns
              exact ⟨ret_bool (by rw [HX.out]; simp [extra]), by go_grown⟩
            · by_cases hab : a = b
              · subst hab
                go_wp2
                go_returns
                exact ⟨ret_bool (by rw [HX.out]; simp [extra]), by go_grown⟩
              · go_wp2
                go_returns
                exact ⟨ret_bool (by rw [HX.out]; simp [extra, hc, hab]), by go_grown⟩
          · by_cases h5 : k = 5
            · subst h5
              have e0 : IntKind.i64.wrap (a.tmod 2) = a.tmod 2 := by
                have h1 := Int.tmod_lt_of_pos a (show (0 : Int) < 2 by decide)
                have h2 := Int.lt_tmod_of_pos a (show (0 : Int) < 2 by decide)
                rw [IntKind.wrap_i64]; omega
              have e2 := Int.mul_tdiv_add_tmod a 2
              have e3 := Int.tmod_lt_of_pos a (show (0 : Int) < 2 by decide)
              have e4 := Int.lt_tmod_of_pos a (show (0 : Int) < 2 by decide)
              by_cases ha : a.tmod 2 = 0
              · have e1 : (a.tmod 2 == 0) = true := by simp [ha]
                have HA := Lib.hid (show a % 2 = 0 by omega)
                clear ha e2 e3 e4
                go_wp2
                go_returns
                exact ⟨ret_bool (by rw [HX.out]; simp [extra]; exact HA.out), by go_grown⟩
              · have e1 : (a.tmod 2 == 0) = false := by simp [ha]
                have HA := Lib.hid (show ¬ a % 2 = 0 by omega)
                clear ha e2 e3 e4
                go_wp2
                go_returns
                exact ⟨ret_bool (by rw [HX.out]; simp [extra]; exact HA.out), by go_grown⟩
            · go_wp2
              go_returns
              exact ⟨ret_bool (by rw [HX.out]; simp [extra, h3, h5]), by go_grown⟩
    · clear hR
      go_enter Tryd.func57, Tryd.ntmps57
      go_wp2
      go_returns
      exact ⟨ret_bool (by simp [fits]; omega), by go_grown⟩
  · clear hR
    go_enter Tryd.func57, Tryd.ntmps57
    go_wp2
    go_returns
    exact ⟨ret_bool (by simp [fits]; omega), by go_grown⟩
end Go.Proofs.YtjjodmkblpdnhaaDoor
