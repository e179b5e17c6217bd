/- The walks of package wide: sums, differences, comparisons, the cut to an int. The walks of package wide: the long division bit by bit, and what is made of it. The walks of package wide: the quotient rounded down and towards 0. -/
import Derived.Test.YtlcjkomfjgddeaaGreatDoorM02
set_option linter.unusedVariables false
set_option linter.unusedSimpArgs false
namespace Go.Proofs.YtlcjkomfjgddeaaGreatDoor
open Go.RowKit

theorem less_any (h l h' l' : Int) (a1 : 0 ≤ l) (a2 : l ≤ 18446744073709551615) (b1 : 0 ≤ l') (b2 : l' ≤ 18446744073709551615) (w : World) :
    Calls Tryz.prog 97 #[.agg #[.int .u64 h, .int .u64 l], .agg #[.int .u64 h', .int .u64 l']] w fun e w' => e = .returned (.bool (ltw h l h' l')) ∧ Below w.heap.size w w' := by
  by_cases g1 : h < h'
  · go_enter Tryz.func97, Tryz.ntmps97
    go_wp2
    go_returns
    exact ⟨ret_bool (by unfold ltw; symm; rw [decide_eq_true_iff]; omega), by go_grown⟩
  · by_cases g2 : h = h'
    · subst g2
      by_cases g3 : l < l'
      · go_enter Tryz.func97, Tryz.ntmps97
        go_wp2
        go_returns
        exact ⟨ret_bool (by unfold ltw; symm; rw [decide_eq_true_iff]; omega), by go_grown⟩
      · go_enter Tryz.func97, Tryz.ntmps97
        go_wp2
        go_returns
        exact ⟨ret_bool (by unfold ltw; symm; rw [decide_eq_false_iff_not]; omega), by go_grown⟩
    · have hd : decide (h < h') = false := by rw [decide_eq_false_iff_not]; exact g1
      have he : (h == h') = false := by rw [beq_eq_false_iff_ne]; exact g2
      go_enter Tryz.func97, Tryz.ntmps97
      go_wp2
      go_returns
      exact ⟨ret_bool (by unfold ltw; symm; rw [decide_eq_false_iff_not]; omega), by go_grown⟩

theorem plus_any (h l h' l' : Int) (a1 : 0 ≤ l) (a2 : l ≤ 18446744073709551615) (b1 : 0 ≤ l') (b2 : l' ≤ 18446744073709551615) (w : World) :
    Calls Tryz.prog 126 #[.agg #[.int .u64 h, .int .u64 l], .agg #[.int .u64 h', .int .u64 l']] w fun e w' => e = .returned (.agg #[.int .u64 (plh h l h' l'), .int .u64 (pll l l')]) ∧ Below w.heap.size w w' := by
  by_cases g : IntKind.u64.wrap (l + l') < l
  all_goals
    go_enter Tryz.func126, Tryz.ntmps126
    go_wp2
    refine bodyPost_ret (by simp [results, Tryz.results126, go_sem]; try rfl) rfl ?_
    refine ⟨ret_agg2 ?_ ?_, by go_grown⟩
    all_goals (simp only [plh, pll, IntKind.wrap_u64] at *; first | done | omega)

theorem minus_any (h l h' l' : Int) (a1 : 0 ≤ l) (a2 : l ≤ 18446744073709551615) (b1 : 0 ≤ l') (b2 : l' ≤ 18446744073709551615) (w : World) :
    Calls Tryz.prog 127 #[.agg #[.int .u64 h, .int .u64 l], .agg #[.int .u64 h', .int .u64 l']] w fun e w' => e = .returned (.agg #[.int .u64 (mih h l h' l'), .int .u64 (mil l l')]) ∧ Below w.heap.size w w' := by
  by_cases g : l < l'
  all_goals
    go_enter Tryz.func127, Tryz.ntmps127
    go_wp2
    refine bodyPost_ret (by simp [results, Tryz.results127, go_sem]; try rfl) rfl ?_
    refine ⟨ret_agg2 ?_ ?_, by go_grown⟩
    all_goals (simp only [mih, mil, IntKind.wrap_u64] at *; first | done | omega)

theorem sat_any (z : Int) (h1 : -340282366920938463463374607431768211456 < z) (h2 : z < 340282366920938463463374607431768211456) (w : World) :
    Calls Tryz.prog 101 #[W z] w fun e w' => e = .returned (.int .i64 (sat z)) ∧ Below w.heap.size w w' := by
  have e1 := hilo z
  have e2 := low_nonneg z
  have e3 := low_le z
  have e4 := hiw_nonneg z
  by_cases hn : z < 0
  · have hg : ngw z = true := by unfold ngw; simpa using hn
    by_cases hh : 0 < hiw z
    · go_enter Tryz.func101, Tryz.ntmps101
      go_wp2
      go_returns
      exact ⟨ret_int (by unfold sat; omega), by go_grown⟩
    · by_cases hl : 9223372036854775808 < low z
      · go_enter Tryz.func101, Tryz.ntmps101
        go_wp2
        go_returns
        exact ⟨ret_int (by unfold sat; omega), by go_grown⟩
      · go_enter Tryz.func101, Tryz.ntmps101
        go_wp2
        go_returns
        exact ⟨ret_int (by unfold sat; (try simp only [wrap64, IntKind.wrap_u64, IntKind.wrap_i64]); omega), by go_grown⟩
  · have hg : ngw z = false := by unfold ngw; simpa using hn
    by_cases hh : 0 < hiw z
    · go_enter Tryz.func101, Tryz.ntmps101
      go_wp2
      go_returns
      exact ⟨ret_int (by unfold sat; omega), by go_grown⟩
    · by_cases hl : 9223372036854775808 ≤ low z
      · go_enter Tryz.func101, Tryz.ntmps101
        go_wp2
        go_returns
        exact ⟨ret_int (by unfold sat; omega), by go_grown⟩
      · go_enter Tryz.func101, Tryz.ntmps101
        go_wp2
        go_returns
        exact ⟨ret_int (by unfold sat; (try simp only [wrap64, IntKind.wrap_u64, IntKind.wrap_i64]); omega), by go_grown⟩

end Go.Proofs.YtlcjkomfjgddeaaGreatDoor
namespace Go.Proofs.YtlcjkomfjgddeaaGreatDoor
open Go.RowKit

/-- a word shifted left by one, the other's top bit behind it -/
def sh1 (x y : Int) : Int := 2 * x % 18446744073709551616 + y / 9223372036854775808
def sh0 (x : Int) : Int := 2 * x % 18446744073709551616
theorem or1 (x y : Int) (h0 : 0 ≤ y) (h1 : y ≤ 18446744073709551615) : bits .or .u64 (IntKind.u64.wrap (x * 2)) (y / 9223372036854775808) = sh1 x y := by
  have h := u64_or (IntKind.u64.wrap (x * 2)) (y / 9223372036854775808) (by rw [IntKind.wrap_u64]; omega) (by rw [IntKind.wrap_u64]; omega) (by omega) (by omega)
  rw [h, nat_join 1 _ _ (by rw [IntKind.wrap_u64]; omega) (by omega)]
  unfold sh1; rw [IntKind.wrap_u64]; omega
theorem wr1 (x : Int) : IntKind.u64.wrap (x * 2) = sh0 x := by unfold sh0; rw [IntKind.wrap_u64]; omega
theorem or1b (x : Int) : bits .or .u64 (sh0 x) 1 = sh0 x + 1 := by
  have h := u64_or (sh0 x) 1 (by unfold sh0; omega) (by unfold sh0; omega) (by omega) (by omega)
  rw [h, nat_join 1 _ _ (by unfold sh0; omega) (by decide)]
  unfold sh0; omega

/-- the three blocks of the division: the number, the quotient so far, the result's -/
def DivCells (b : Nat) (wr : World) (hh ll oh ol : Int) : Prop :=
  (wr.cell? ⟨b, 0, none⟩ = some (.int .u64 hh) ∧ wr.cell? ⟨b, 1, none⟩ = some (.int .u64 ll) ∧ wr.cell? ⟨b + 1 + 1, 0, none⟩ = some (.int .u64 oh) ∧ wr.cell? ⟨b + 1 + 1, 1, none⟩ = some (.int .u64 ol) ∧
      wr.cell? ⟨b + 1, 0, none⟩ = some (.int .u64 0) ∧ wr.cell? ⟨b + 1, 1, none⟩ = some (.int .u64 0)) ∧
      wr.frozen? ⟨b, 0, none⟩ = false ∧ wr.frozen? ⟨b, 1, none⟩ = false ∧ wr.frozen? ⟨b + 1 + 1, 0, none⟩ = false ∧ wr.frozen? ⟨b + 1 + 1, 1, none⟩ = false ∧ wr.frozen? ⟨b + 1, 0, none⟩ = false ∧ wr.frozen? ⟨b + 1, 1, none⟩ = false
theorem divCells_step (b : Nat) (wr : World) (hh ll oh ol h' l' oh' ol' : Int) (H : DivCells b wr hh ll oh ol) :
    DivCells b ((((wr.setCell ⟨b, 0, none⟩ (.int .u64 h')).setCell ⟨b, 1, none⟩ (.int .u64 l')).setCell ⟨b + 1 + 1, 0, none⟩ (.int .u64 oh')).setCell ⟨b + 1 + 1, 1, none⟩ (.int .u64 ol')) h' l' oh' ol' := by
  obtain ⟨⟨c1, c2, c3, c4, c5, c6⟩, f1, f2, f3, f4, f5, f6⟩ := H
  refine ⟨⟨?_, ?_, ?_, ?_, ?_, ?_⟩, ?_, ?_, ?_, ?_, ?_, ?_⟩
  all_goals simp [go_sem, c1, c2, c3, c4, c5, c6, f1, f2, f3, f4, f5, f6]
theorem divCells_last (b : Nat) (wr : World) (hh ll oh ol ol' : Int) (H : DivCells b wr hh ll oh ol) : DivCells b (wr.setCell ⟨b + 1 + 1, 1, none⟩ (.int .u64 ol')) hh ll oh ol' := by
  obtain ⟨⟨c1, c2, c3, c4, c5, c6⟩, f1, f2, f3, f4, f5, f6⟩ := H
  refine ⟨⟨?_, ?_, ?_, ?_, ?_, ?_⟩, ?_, ?_, ?_, ?_, ?_, ?_⟩
  all_goals simp [go_sem, c1, c2, c3, c4, c5, c6, f1, f2, f3, f4, f5, f6]

set_option maxRecDepth 100000 in
set_option maxHeartbeats 1000000 in
theorem divide_any (h l d : Int) (h0 : 0 ≤ h) (h1 : h ≤ 18446744073709551615) (l0 : 0 ≤ l) (l1 : l ≤ 18446744073709551615) (d0 : 0 < d) (d1 : d ≤ 18446744073709551615) (w : World) :
    Calls Tryz.prog 124 #[.agg #[.int .u64 h, .int .u64 l], .int .u64 d] w fun e w' => e = .returned (.tuple #[.agg #[.int .u64 (dvh h l d), .int .u64 (dvl h l d)], .int .u64 (dvr h l d)]) ∧ Below w.heap.size w w' := by
  have hst := divInv_start (h * 18446744073709551616 + l) d h l ⟨h0, by omega⟩ ⟨l0, by omega⟩ (by omega) rfl
  go_enter Tryz.func124, Tryz.ntmps124
  go_wp2
  go_loopw [7, 9] (fun v7 v9 wr => ∃ (k : Nat) (hh ll oh ol r : Int), k ≤ 128 ∧ v9 = .int .i64 k ∧ v7 = .int .u64 r ∧ DivInv (h * 18446744073709551616 + l) d k hh ll oh ol r ∧ DivCells w.heap.size wr hh ll oh ol ∧ Below w.heap.size w wr) (fun _ v9 _ => 128 - (intOf v9).toNat)
  case atStart =>
    exact ⟨0, h, l, 0, 0, 0, by omega, rfl, rfl, hst, by unfold DivCells; simp [go_sem], by go_grown⟩
  case round =>
    obtain ⟨k, hh, ll, oh, ol, r, hk, rfl, rfl, hI, hC, hB⟩ := hrel
    have hI2 := hI
    obtain ⟨⟨a1, a2⟩, ⟨b1, b2⟩, ⟨p1, p2⟩, ⟨q1, q2⟩, r1, r2, -⟩ := hI2
    have HI := Lib.hid hI
    clear hI hst
    have hC2 := hC
    obtain ⟨⟨c1, c2, c3, c4, c5, c6⟩, f1, f2, f3, f4, f5, f6⟩ := hC2
    have HC := Lib.hid hC
    clear hC
    have ea := or1 r hh a1 (by omega)
    have eb := or1 hh ll b1 (by omega)
    have ec := or1 oh ol q1 (by omega)
    have ed := wr1 ll
    have ee := wr1 ol
    have ef := or1b ol
    by_cases hlt : k < 128
    · by_cases g1 : (r / 9223372036854775808 == 1) = true
      · have g2 : r / 9223372036854775808 = 1 := by simpa using g1
        have hs : IntKind.u64.wrap (sh1 r hh - d) = 2 * r + hh / 9223372036854775808 - d := by unfold sh1; rw [IntKind.wrap_u64]; omega
        have HS := Lib.hid hs
        have G2 := Lib.hid g2
        clear hs g2
        go_wp2
        go_roundw
        case rel => exact ⟨k + 1, sh1 hh ll, sh0 ll, sh1 oh ol, sh0 ol + 1, IntKind.u64.wrap (sh1 r hh - d), by omega, by go_num, rfl, divInv_step _ d k hh ll oh ol r hlt (by omega) HI.out _ _ _ _ _ rfl rfl rfl (.inr ⟨by have := G2.out; omega, rfl, HS.out⟩), divCells_last _ _ _ _ _ _ _ (divCells_step _ _ _ _ _ _ _ _ _ _ HC.out), by go_grown⟩
        case measure => simp [intOf]; omega
      · have g2 : (r / 9223372036854775808 == 1) = false := by simpa using g1
        have g3 : ¬ r / 9223372036854775808 = 1 := by simpa using g1
        have hs : sh1 r hh = 2 * r + hh / 9223372036854775808 := by unfold sh1; omega
        have hs0 : 0 ≤ sh1 r hh := by omega
        have hs1 : sh1 r hh ≤ 18446744073709551615 := by omega
        have HS := Lib.hid hs
        clear hs g1 g3
        by_cases g4 : d ≤ sh1 r hh
        · have hs2 : sh1 r hh - d ≤ 18446744073709551615 := by omega
          go_wp2
          go_roundw
          case rel => exact ⟨k + 1, sh1 hh ll, sh0 ll, sh1 oh ol, sh0 ol + 1, sh1 r hh - d, by omega, by go_num, rfl, divInv_step _ d k hh ll oh ol r hlt (by omega) HI.out _ _ _ _ _ rfl rfl rfl (.inr ⟨by have := HS.out; omega, rfl, by have := HS.out; omega⟩), divCells_last _ _ _ _ _ _ _ (divCells_step _ _ _ _ _ _ _ _ _ _ HC.out), by go_grown⟩
          case measure => simp [intOf]; omega
        · have g5 : sh1 r hh < d := by omega
          go_wp2
          go_roundw
          case rel => exact ⟨k + 1, sh1 hh ll, sh0 ll, sh1 oh ol, sh0 ol, sh1 r hh, by omega, by go_num, rfl, divInv_step _ d k hh ll oh ol r hlt (by omega) HI.out _ _ _ _ _ rfl rfl rfl (.inl ⟨by have := HS.out; omega, rfl, HS.out⟩), divCells_step _ _ _ _ _ _ _ _ _ _ HC.out, by go_grown⟩
          case measure => simp [intOf]; omega
    · have hk' : k = 128 := by omega
      subst hk'
      go_wp2
      have hE := divInv_end _ d hh ll oh ol r (by omega) HI.out
      refine bodyPost_ret (v := .tuple #[.agg #[.int .u64 oh, .int .u64 ol], .int .u64 r]) (by simp [results, Tryz.results124, go_sem, c5, c6]; try rfl) rfl ?_
      obtain ⟨-, e1, e2, e3⟩ := hE
      exact ⟨by rw [e1, e2, e3]; rfl, by go_grown⟩
end Go.Proofs.YtlcjkomfjgddeaaGreatDoor
namespace Go.Proofs.YtlcjkomfjgddeaaGreatDoor
open Go.RowKit

theorem natAbs_pos {y : Int} (hy : y ≠ 0) (h1 : -18446744073709551616 < y) (h2 : y < 18446744073709551616) : 0 < low y ∧ low y = (y.natAbs : Int) := by unfold low; omega

/-- what the three ways of the quotient come to -/
theorem floor_pos_val (x y : Int) (hy : y ≠ 0) (hy1 : -18446744073709551616 < y) (hy2 : y < 18446744073709551616) (hs : (0 ≤ x ∧ 0 < y) ∨ (x < 0 ∧ y < 0)) :
    Value.tuple #[.agg #[.int .u64 (dvh (hiw x) (low x) (low y)), .int .u64 (dvl (hiw x) (low x) (low y)), .bool (nz false (dvh (hiw x) (low x) (low y)) (dvl (hiw x) (low x) (low y)))], .int .u64 (dvr (hiw x) (low x) (low y))] = .tuple #[W (fl x y), .int .u64 (fr x y)] := by
  obtain ⟨y0, yl⟩ := natAbs_pos hy hy1 hy2
  have hF := (fl_nat x y hy).1 (by omega)
  rw [← yl, ← hilo x] at hF
  have hD2 := dvl_bd (hiw x) (low x) (low y)
  rw [made_pos_eq (dv_eq (hiw x) (low x) (low y)) hD2.1 (by omega) (Int.ediv_nonneg (by rw [hilo]; omega) (by omega)), hF.1, hF.2]
  rfl
theorem floor_even_val (x y : Int) (hy : y ≠ 0) (hy1 : -18446744073709551616 < y) (hy2 : y < 18446744073709551616) (hs : (0 ≤ x ∧ y < 0) ∨ (x < 0 ∧ 0 < y)) (hr : dvr (hiw x) (low x) (low y) = 0) :
    Value.tuple #[.agg #[.int .u64 (dvh (hiw x) (low x) (low y)), .int .u64 (dvl (hiw x) (low x) (low y)), .bool (nz true (dvh (hiw x) (low x) (low y)) (dvl (hiw x) (low x) (low y)))], .int .u64 0] = .tuple #[W (fl x y), .int .u64 (fr x y)] := by
  obtain ⟨y0, yl⟩ := natAbs_pos hy hy1 hy2
  have hF := (fl_nat x y hy).2.1 (by omega)
  rw [← yl, ← hilo x] at hF
  have hF := hF hr
  have hD2 := dvl_bd (hiw x) (low x) (low y)
  rw [made_neg_eq (dv_eq (hiw x) (low x) (low y)) hD2.1 (by omega) (Int.ediv_nonneg (by rw [hilo]; omega) (by omega)), hF.1, hF.2]
theorem half_le {N d : Int} (h0 : 0 ≤ N) (d1 : 2 ≤ d) : N / d * 2 ≤ N := by
  have h1 := Int.mul_ediv_add_emod N d
  have h3 : 0 ≤ N % d := Int.emod_nonneg _ (by omega)
  have hQ : 0 ≤ N / d := Int.ediv_nonneg h0 (by omega)
  have h4 : N / d * 2 ≤ N / d * d := Int.mul_le_mul_of_nonneg_left d1 hQ
  rw [Int.mul_comm d] at h1
  omega
theorem floor_odd_val (x y : Int) (hx1 : -340282366920938463463374607431768211456 < x) (hx2 : x < 340282366920938463463374607431768211456) (hy : y ≠ 0) (hy1 : -18446744073709551616 < y) (hy2 : y < 18446744073709551616) (hs : (0 ≤ x ∧ y < 0) ∨ (x < 0 ∧ 0 < y)) (hr : dvr (hiw x) (low x) (low y) ≠ 0) :
    Value.tuple #[.agg #[.int .u64 (plh (dvh (hiw x) (low x) (low y)) (dvl (hiw x) (low x) (low y)) 0 1), .int .u64 (pll (dvl (hiw x) (low x) (low y)) 1), .bool (nz true (plh (dvh (hiw x) (low x) (low y)) (dvl (hiw x) (low x) (low y)) 0 1) (pll (dvl (hiw x) (low x) (low y)) 1))], .int .u64 (low y - dvr (hiw x) (low x) (low y))] = .tuple #[W (fl x y), .int .u64 (fr x y)] := by
  obtain ⟨y0, yl⟩ := natAbs_pos hy hy1 hy2
  have hF := (fl_nat x y hy).2.2 (by omega)
  rw [← yl, ← hilo x] at hF
  have hF := hF hr
  have hN0 : 0 ≤ hiw x * 18446744073709551616 + low x := by rw [hilo]; omega
  have hN1 : hiw x * 18446744073709551616 + low x < 340282366920938463463374607431768211456 := by rw [hilo]; omega
  have hD := dv_eq (hiw x) (low x) (low y)
  have hD2 := dvl_bd (hiw x) (low x) (low y)
  have hP2 := pll_bd (dvl (hiw x) (low x) (low y)) 1
  have h2 : low y ≠ 1 := by
    intro h; apply hr; unfold dvr; rw [h]; omega
  have hQ : 0 ≤ (hiw x * 18446744073709551616 + low x) / low y := Int.ediv_nonneg hN0 (by omega)
  have hQ2 := half_le hN0 (show 2 ≤ low y by omega)
  have hP := pl_eq (dvh (hiw x) (low x) (low y)) (dvl (hiw x) (low x) (low y)) 0 1 (by omega) (by omega)
  rw [hD] at hP
  have hP : plh (dvh (hiw x) (low x) (low y)) (dvl (hiw x) (low x) (low y)) 0 1 * 18446744073709551616 + pll (dvl (hiw x) (low x) (low y)) 1 = (hiw x * 18446744073709551616 + low x) / low y + 1 := by rw [hP]; omega
  rw [made_neg_eq hP hP2.1 (by omega) (by omega), hF.1, hF.2]
  rfl

/-- the quotient, rounded towards 0 -/
def tq (x y : Int) : Int := if (x < 0 ↔ y < 0) then (x.natAbs : Int) / (y.natAbs : Int) else -((x.natAbs : Int) / (y.natAbs : Int))
theorem trunc_val (x y : Int) (hy : y ≠ 0) (hy1 : -18446744073709551616 < y) (hy2 : y < 18446744073709551616) (b c : Bool) (hb : ngw x = b) (hc : ngw y = c) :
    Ending.returned (.agg #[.int .u64 (dvh (hiw x) (low x) (low y)), .int .u64 (dvl (hiw x) (low x) (low y)), .bool (nz (b != c) (dvh (hiw x) (low x) (low y)) (dvl (hiw x) (low x) (low y)))]) = .returned (W (tq x y)) := by
  obtain ⟨y0, yl⟩ := natAbs_pos hy hy1 hy2
  have hD2 := dvl_bd (hiw x) (low x) (low y)
  have hb' : b = decide (x < 0) := by rw [← hb]; rfl
  have hc' : c = decide (y < 0) := by rw [← hc]; rfl
  rw [made_sgn_eq (dv_eq (hiw x) (low x) (low y)) hD2.1 (by omega) (Int.ediv_nonneg (by rw [hilo]; omega) (by omega)) (z := tq x y)]
  unfold tq
  rw [hilo, yl, hb', hc']
  by_cases g1 : x < 0 <;> by_cases g2 : y < 0 <;> simp [g1, g2]

set_option maxHeartbeats 1000000 in
theorem trunc_any (x y : Int) (hx1 : -340282366920938463463374607431768211456 < x) (hx2 : x < 340282366920938463463374607431768211456) (hy : y ≠ 0) (hy1 : -18446744073709551616 < y) (hy2 : y < 18446744073709551616) (w : World) :
    Calls Tryz.prog 98 #[W x, W y] w fun e w' => e = .returned (W (tq x y)) ∧ Below w.heap.size w w' := by
  obtain ⟨y0, yl⟩ := natAbs_pos hy hy1 hy2
  have e1 := hiw_nonneg x
  have e2 := hiw_le x hx1 hx2
  have e3 := low_nonneg x
  have e4 := low_le x
  have e5 := low_le y
  clear yl
  obtain ⟨b, hb⟩ : ∃ b, ngw x = b := ⟨_, rfl⟩
  obtain ⟨c, hc⟩ : ∃ c, ngw y = c := ⟨_, rfl⟩
  have HF := Lib.hid (trunc_val x y hy hy1 hy2 b c hb hc)
  cases b <;> cases c
  all_goals
    go_enter Tryz.func98, Tryz.ntmps98
    go_wp2_with (first
      | (go_at_call 124; refine (divide_any _ _ _ (by assumption) (by assumption) (by assumption) (by assumption) (by assumption) (by assumption) _).mono ?_; rintro e w1 ⟨rfl, hb1⟩; obtain ⟨hc1, hf1, hz1, hg1⟩ := after (w := w) hb1 (by go_grown); simp at hz1; obtain ⟨z1, z2, z3⟩ := sz3 hz1)
      | (go_at_call 123; refine (made_any _ _ _ _).mono ?_; rintro e w2 ⟨rfl, hb2⟩; obtain ⟨hc2, hf2, hz2, hg2⟩ := after (w := w) hb2 (by go_grown); simp at hz2; have hz3 := Nat.le_trans hz1 (Nat.le_trans (Nat.le_succ _) hz2); obtain ⟨z4, z5, z6⟩ := sz3 hz3))
    refine bodyPost_ret (by simp [results, Tryz.results98, go_sem, hc1, hc2, z1, z2, z3]; try rfl) rfl ?_
    exact ⟨HF.out, by go_grown⟩
end Go.Proofs.YtlcjkomfjgddeaaGreatDoor
