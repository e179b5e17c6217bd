/- The walks of package quant: grids, their indices, points and errors. -/
import Derived.Test.YtghfggfgndgkjaaGreatDoorFixed2
set_option linter.unusedVariables false
set_option linter.unusedSimpArgs false
namespace Go.Proofs.YtghfggfgndgkjaaGreatDoor
open Go.RowKit

abbrev G (lo hi b : Int) : Value := .agg #[.int .i64 lo, .int .i64 hi, .int .i64 b]
/-- a valid grid -/
def GV (lo hi b : Int) : Prop := -1099511627776 ≤ lo ∧ lo < hi ∧ hi ≤ 1099511627776 ∧ 1 ≤ b ∧ b ≤ 32
/-- the greatest index -/
def gn (b : Int) : Int := 2 ^ b.toNat - 1
theorem gn_bd (b : Int) (h1 : 1 ≤ b) (h2 : b ≤ 32) : 1 ≤ gn b ∧ gn b ≤ 4294967295 ∧ IntKind.i64.wrap (2 ^ b.toNat) = gn b + 1 := by
  have e : gn b + 1 = 2 ^ b.toNat := by unfold gn; omega
  have h3 : (2 : Int) ^ 1 ≤ 2 ^ b.toNat := by exact_mod_cast Nat.pow_le_pow_right (n := 2) (by decide) (show 1 ≤ b.toNat by omega)
  have h4 : (2 : Int) ^ b.toNat ≤ 2 ^ 32 := by exact_mod_cast Nat.pow_le_pow_right (n := 2) (by decide) (show b.toNat ≤ 32 by omega)
  refine ⟨by unfold gn; omega, by unfold gn; omega, ?_⟩
  rw [e, IntKind.wrap_i64]; omega

theorem ranged_yes (lo hi : Int) (h1 : -1099511627776 ≤ lo) (h2 : lo < hi) (h3 : hi ≤ 1099511627776) (w : World) :
    Calls Tryz.prog 41 #[.int .i64 lo, .int .i64 hi] w fun e w' => e = .returned (.bool true) ∧ Below w.heap.size w w' := by
  go_enter Tryz.func41, Tryz.ntmps41
  go_wp2
  go_returns
  exact ⟨rfl, by go_grown⟩
theorem ranged_no (lo hi : Int) (h : lo < -1099511627776 ∨ hi ≤ lo ∨ 1099511627776 < hi) (w : World) :
    Calls Tryz.prog 41 #[.int .i64 lo, .int .i64 hi] w fun e w' => e = .returned (.bool false) ∧ Below w.heap.size w w' := by
  rcases (by omega : lo < -1099511627776 ∨ (-1099511627776 ≤ lo ∧ hi ≤ lo) ∨ (-1099511627776 ≤ lo ∧ lo < hi ∧ 1099511627776 < hi)) with h | ⟨h, h'⟩ | ⟨h, h', h''⟩
  all_goals
    go_enter Tryz.func41, Tryz.ntmps41
    go_wp2
    go_returns
    exact ⟨ret_bool (by first | rfl | (simp; omega)), by go_grown⟩
theorem valid_yes (lo hi b : Int) (hg : GV lo hi b) (w : World) :
    Calls Tryz.prog 49 #[G lo hi b] w fun e w' => e = .returned (.bool true) ∧ Below w.heap.size w w' := by
  obtain ⟨h1, h2, h3, h4, h5⟩ := hg
  go_enter Tryz.func49, Tryz.ntmps49
  go_wp2_with (go_at_call 41; refine (ranged_yes _ _ (by assumption) (by assumption) (by assumption) _).mono ?_; rintro e w1 ⟨rfl, hb1⟩; obtain ⟨hc1, hf1, hz1, hg1⟩ := after (w := w) hb1 (by go_grown); simp at hz1; have z1 := sz1 hz1)
  go_returns
  exact ⟨rfl, by go_grown⟩
theorem valid_no (lo hi b : Int) (hg : ¬ GV lo hi b) (w : World) :
    Calls Tryz.prog 49 #[G lo hi b] w fun e w' => e = .returned (.bool false) ∧ Below w.heap.size w w' := by
  by_cases hr : lo < -1099511627776 ∨ hi ≤ lo ∨ 1099511627776 < hi
  · have HR := Lib.hid hr
    clear hr hg
    go_enter Tryz.func49, Tryz.ntmps49
    go_wp2_with (go_at_call 41; refine (ranged_no _ _ HR.out _).mono ?_; rintro e w1 ⟨rfl, hb1⟩; obtain ⟨hc1, hf1, hz1, hg1⟩ := after (w := w) hb1 (by go_grown); simp at hz1; have z1 := sz1 hz1)
    go_returns
    exact ⟨ret_bool (by first | rfl | (simp; omega)), by go_grown⟩
  · have h1 : -1099511627776 ≤ lo := by omega
    have h2 : lo < hi := by omega
    have h3 : hi ≤ 1099511627776 := by omega
    rcases (by unfold GV at hg; omega : b < 1 ∨ (1 ≤ b ∧ 32 < b)) with h | ⟨h, h'⟩
    all_goals
      clear hr hg
      go_enter Tryz.func49, Tryz.ntmps49
      go_wp2_with (go_at_call 41; refine (ranged_yes _ _ (by assumption) (by assumption) (by assumption) _).mono ?_; rintro e w1 ⟨rfl, hb1⟩; obtain ⟨hc1, hf1, hz1, hg1⟩ := after (w := w) hb1 (by go_grown); simp at hz1; have z1 := sz1 hz1)
      go_returns
      exact ⟨ret_bool (by first | rfl | (simp; omega)), by go_grown⟩
theorem steps_any (lo hi b : Int) (hg : GV lo hi b) (w : World) :
    Calls Tryz.prog 74 #[G lo hi b] w fun e w' => e = .returned (.tuple #[.int .i64 (gn b), .int .i64 (hi - lo)]) ∧ Below w.heap.size w w' := by
  obtain ⟨h1, h2, h3, h4, h5⟩ := hg
  obtain ⟨g1, g2, g3⟩ := gn_bd b h4 h5
  go_enter Tryz.func74, Tryz.ntmps74
  go_wp2
  go_quiet (fail)
  go_wp2
  go_returns
  exact ⟨by congr 1, below_drewN (by go_grown) _⟩

/-- a number cut to the range, from its lower end -/
def cut (lo hi x : Int) : Int := min hi (max x lo) - lo
theorem cut_bd (lo hi x : Int) (h : lo < hi) : 0 ≤ cut lo hi x ∧ cut lo hi x ≤ hi - lo := by unfold cut; omega
theorem fl_nonneg (a b : Int) (ha : 0 ≤ a) (hb : 0 < b) : 0 ≤ fl a b := by unfold fl; rw [if_pos hb]; exact Int.ediv_nonneg ha (by omega)
/-- what the nearest number is, for a divisor greater than 0 -/
theorem nr_pos (p c : Int) (hc : 0 < c) : nr p c = (2 * p + c) / (2 * c) := by
  obtain ⟨h1, -, h3, h4⟩ := fl_spec p c (by omega)
  have h1 := h1 hc
  unfold nr
  rw [show (c.natAbs : Int) = c by omega] at h4 ⊢
  symm
  by_cases g : c ≤ 2 * fr p c
  · rw [if_pos g]
    refine (div_unique (q := fl p c + 1) (r := 2 * fr p c - c) ?_ (by omega) (by omega)).1
    rw [Int.add_mul, Int.one_mul, Int.mul_left_comm]; omega
  · rw [if_neg g]
    refine (div_unique (q := fl p c) (r := 2 * fr p c + c) ?_ (by omega) (by omega)).1
    rw [Int.mul_left_comm]; omega
theorem nr_mono (p q c : Int) (hc : 0 < c) (h : p ≤ q) : nr p c ≤ nr q c := by
  rw [nr_pos p c hc, nr_pos q c hc]; exact Int.ediv_le_ediv (by omega) (by omega)
theorem nr_mul (k c : Int) (hc : 0 < c) : nr (k * c) c = k := by
  rw [nr_pos _ c hc]
  refine (div_unique (q := k) (r := c) ?_ (by omega) (by omega)).1
  rw [Int.mul_left_comm]
theorem nr_zero (c : Int) (hc : 0 < c) : nr 0 c = 0 := by have := nr_mul 0 c hc; rwa [Int.zero_mul] at this
/-- an index -/
def qi (lo hi b x : Int) : Int := nr (cut lo hi x * gn b) (hi - lo)
/-- a point -/
def qp (lo hi b k : Int) : Int := lo + nr (k * (hi - lo)) (gn b)
def qe (lo hi b : Int) : Int := if hi - lo ≤ gn b then 0 else nr ((hi - lo) * 1) (2 * gn b)
theorem qi_bd (lo hi b x : Int) (hg : GV lo hi b) : 0 ≤ qi lo hi b x ∧ qi lo hi b x ≤ gn b := by
  obtain ⟨h1, h2, h3, h4, h5⟩ := hg
  obtain ⟨g1, g2, -⟩ := gn_bd b h4 h5
  obtain ⟨c1, c2⟩ := cut_bd lo hi x h2
  unfold qi
  have m1 := nr_mono 0 (cut lo hi x * gn b) (hi - lo) (by omega) (Int.mul_nonneg c1 (by omega))
  have m2 := nr_mono (cut lo hi x * gn b) (gn b * (hi - lo)) (hi - lo) (by omega) (by rw [Int.mul_comm]; exact Int.mul_le_mul_of_nonneg_left c2 (by omega))
  rw [nr_zero _ (by omega)] at m1
  rw [nr_mul _ _ (by omega)] at m2
  exact ⟨m1, m2⟩
theorem qp_bd (lo hi b k : Int) (hg : GV lo hi b) (k0 : 0 ≤ k) (k1 : k ≤ gn b) : lo ≤ qp lo hi b k ∧ qp lo hi b k ≤ hi := by
  obtain ⟨h1, h2, h3, h4, h5⟩ := hg
  obtain ⟨g1, g2, -⟩ := gn_bd b h4 h5
  unfold qp
  have m1 := nr_mono 0 (k * (hi - lo)) (gn b) (by omega) (Int.mul_nonneg k0 (by omega))
  have m2 := nr_mono (k * (hi - lo)) ((hi - lo) * gn b) (gn b) (by omega) (by rw [Int.mul_comm (hi - lo)]; exact Int.mul_le_mul_of_nonneg_right k1 (by omega))
  rw [nr_zero _ (by omega)] at m1
  rw [nr_mul _ _ (by omega)] at m2
  omega

theorem index_no (lo hi b x : Int) (hg : ¬ GV lo hi b) (w : World) :
    Calls Tryz.prog 46 #[G lo hi b, .int .i64 x] w fun e w' => e = .returned (.tuple #[.int .i64 0, .int .i64 2]) ∧ Below w.heap.size w w' := by
  have HG := Lib.hid hg
  clear hg
  go_enter Tryz.func46, Tryz.ntmps46
  go_wp2_with (go_at_call 49; refine (valid_no _ _ _ HG.out _).mono ?_; rintro e w1 ⟨rfl, hb1⟩; obtain ⟨hg1, hs1⟩ := below_c (w := w) hb1 (by go_grown); clear hb1)
  go_returns
  exact ⟨rfl, by go_grown⟩
theorem point_no (lo hi b k : Int) (hg : ¬ GV lo hi b) (w : World) :
    Calls Tryz.prog 47 #[G lo hi b, .int .i64 k] w fun e w' => e = .returned (.tuple #[.int .i64 0, .int .i64 2]) ∧ Below w.heap.size w w' := by
  have HG := Lib.hid hg
  clear hg
  go_enter Tryz.func47, Tryz.ntmps47
  go_wp2_with (go_at_call 49; refine (valid_no _ _ _ HG.out _).mono ?_; rintro e w1 ⟨rfl, hb1⟩; obtain ⟨hg1, hs1⟩ := below_c (w := w) hb1 (by go_grown); clear hb1)
  go_returns
  exact ⟨rfl, by go_grown⟩
theorem error_no (lo hi b : Int) (hg : ¬ GV lo hi b) (w : World) :
    Calls Tryz.prog 44 #[G lo hi b] w fun e w' => e = .returned (.tuple #[.int .i64 0, .int .i64 2]) ∧ Below w.heap.size w w' := by
  have HG := Lib.hid hg
  clear hg
  go_enter Tryz.func44, Tryz.ntmps44
  go_wp2_with (go_at_call 49; refine (valid_no _ _ _ HG.out _).mono ?_; rintro e w1 ⟨rfl, hb1⟩; obtain ⟨hg1, hs1⟩ := below_c (w := w) hb1 (by go_grown); clear hb1)
  go_returns
  exact ⟨rfl, by go_grown⟩

theorem near_val' (a b c v : Int) (h : (-9223372036854775808 ≤ a ∧ a ≤ 9223372036854775807 ∧ -9223372036854775808 ≤ b ∧ b ≤ 9223372036854775807 ∧ -9223372036854775808 ≤ c ∧ c ≤ 9223372036854775807 ∧ c ≠ 0) ∧ sat (nr (a * b) c) = v) (w : World) :
    Calls Tryz.prog 75 #[.int .i64 a, .int .i64 b, .int .i64 c] w fun e w' => e = .returned (.tuple #[.int .i64 v, .int .i64 0]) ∧ Below w.heap.size w w' := by
  obtain ⟨⟨h1, h2, h3, h4, h5, h6, h7⟩, rfl⟩ := h
  exact near_any a b c h1 h2 h3 h4 h5 h6 h7 w
theorem clamp_val' (n lo hi v : Int) (h : min hi (max n lo) = v) (w : World) :
    Calls Tryz.prog 76 #[.int .i64 n, .int .i64 lo, .int .i64 hi] w fun e w' => e = .returned (.int .i64 v) ∧ Below w.heap.size w w' := by
  subst h; exact clamp_any n lo hi w
set_option maxHeartbeats 1000000 in
theorem index_any (lo hi b x : Int) (hg : GV lo hi b) (w : World) :
    Calls Tryz.prog 46 #[G lo hi b, .int .i64 x] w fun e w' => e = .returned (.tuple #[.int .i64 (qi lo hi b x), .int .i64 0]) ∧ Below w.heap.size w w' := by
  have HG := Lib.hid hg
  obtain ⟨q1, q2⟩ := qi_bd lo hi b x hg
  obtain ⟨h1, h2, h3, h4, h5⟩ := hg
  obtain ⟨g1, g2, -⟩ := gn_bd b h4 h5
  obtain ⟨c, hc⟩ : ∃ c, min hi (max x lo) = c := ⟨_, rfl⟩
  have c1 : lo ≤ c := by omega
  have c2 : c ≤ hi := by omega
  have HC := Lib.hid hc
  have V := Lib.hid (show (-9223372036854775808 ≤ c - lo ∧ c - lo ≤ 9223372036854775807 ∧ -9223372036854775808 ≤ gn b ∧ gn b ≤ 9223372036854775807 ∧ -9223372036854775808 ≤ hi - lo ∧ hi - lo ≤ 9223372036854775807 ∧ hi - lo ≠ 0) ∧ sat (nr ((c - lo) * gn b) (hi - lo)) = qi lo hi b x from ⟨⟨by omega, by omega, by omega, by omega, by omega, by omega, by omega⟩, by rw [← hc]; exact sat_in _ (by show _ ≤ qi lo hi b x; omega) (by show qi lo hi b x ≤ _; omega)⟩)
  have hw : IntKind.i64.wrap (c - lo) = c - lo := by rw [IntKind.wrap_i64]; omega
  clear hc q1 q2
  go_enter Tryz.func46, Tryz.ntmps46
  go_wp2_with (first
    | (go_at_call 49; refine (valid_yes _ _ _ HG.out _).mono ?_; rintro e w1 ⟨rfl, hb1⟩; obtain ⟨hc1, hf1, hz1, hg1⟩ := after (w := w) hb1 (by go_grown); simp at hz1; have z1 := sz1 hz1)
    | (go_at_call 74; refine (steps_any _ _ _ HG.out _).mono ?_; rintro e w2 ⟨rfl, hb2⟩; obtain ⟨hc2, hf2, hz2, hg2⟩ := after (w := w) hb2 (by go_grown); (try simp at hz2); have z2 := Nat.lt_of_lt_of_le z1 hz2))
  go_region_held3 (fun w' => w'.cell? ⟨w.heap.size, 0, none⟩ = some (.int .i64 lo) ∧ w'.cell? ⟨w.heap.size, 1, none⟩ = some (.int .i64 hi)) (first | exact keep2 (by assumption) (by assumption) | (simp [go_sem, hc1, hc2, z1, z2]; done) | (simp [go_sem, *]; done))
    (first
      | (go_at_call 76; with_reducible refine (clamp_val' x lo hi c HC.out _).mono ?_; rintro e w1 ⟨rfl, hb0⟩; obtain ⟨hg3, hs3⟩ := below_c (w := w) hb0 (by go_grown); have hb1 := hb0; clear hb0)
      | (go_at_call 75; with_reducible refine (near_val' (c - lo) (gn b) (hi - lo) _ V.out _).mono ?_; rintro e w1 ⟨rfl, hb0⟩; obtain ⟨hg4, hs4⟩ := below_c (w := w) hb0 (by go_grown); have hb1 := hb0; clear hb0))
  all_goals
    go_wp2
    go_returns
    exact ⟨rfl, by go_grown⟩

set_option maxHeartbeats 1000000 in
theorem point_any (lo hi b k : Int) (hg : GV lo hi b) (k0 : 0 ≤ k) (k1 : k ≤ gn b) (w : World) :
    Calls Tryz.prog 47 #[G lo hi b, .int .i64 k] w fun e w' => e = .returned (.tuple #[.int .i64 (qp lo hi b k), .int .i64 0]) ∧ Below w.heap.size w w' := by
  have HG := Lib.hid hg
  obtain ⟨q1, q2⟩ := qp_bd lo hi b k hg k0 k1
  obtain ⟨h1, h2, h3, h4, h5⟩ := hg
  obtain ⟨g1, g2, -⟩ := gn_bd b h4 h5
  obtain ⟨p, hp⟩ : ∃ p, nr (k * (hi - lo)) (gn b) = p := ⟨_, rfl⟩
  have hq : qp lo hi b k = lo + p := by unfold qp; rw [hp]
  have HQ := Lib.hid hq
  rw [hq] at q1 q2
  have V := Lib.hid (show (-9223372036854775808 ≤ k ∧ k ≤ 9223372036854775807 ∧ -9223372036854775808 ≤ hi - lo ∧ hi - lo ≤ 9223372036854775807 ∧ -9223372036854775808 ≤ gn b ∧ gn b ≤ 9223372036854775807 ∧ gn b ≠ 0) ∧ sat (nr (k * (hi - lo)) (gn b)) = p from ⟨⟨by omega, by omega, by omega, by omega, by omega, by omega, by omega⟩, by rw [hp]; exact sat_in _ (by omega) (by omega)⟩)
  clear hp hq
  go_enter Tryz.func47, Tryz.ntmps47
  go_wp2_with (first
    | (go_at_call 49; refine (valid_yes _ _ _ HG.out _).mono ?_; rintro e w1 ⟨rfl, hb1⟩; obtain ⟨hc1, hf1, hz1, hg1⟩ := after (w := w) hb1 (by go_grown); simp at hz1; have z1 := sz1 hz1)
    | (go_at_call 74; refine (steps_any _ _ _ HG.out _).mono ?_; rintro e w2 ⟨rfl, hb2⟩; obtain ⟨hc2, hf2, hz2, hg2⟩ := after (w := w) hb2 (by go_grown); (try simp at hz2); have z2 := Nat.lt_of_lt_of_le z1 hz2)
    | (go_at_call 75; with_reducible refine (near_val' k (hi - lo) (gn b) p V.out _).mono ?_; rintro e w3 ⟨rfl, hb3⟩; obtain ⟨hc3, hf3, hz3, hg3⟩ := after (w := w) hb3 (by go_grown)))
  go_returns
  exact ⟨by rw [HQ.out]; rfl, by go_grown⟩
theorem point_bad (lo hi b k : Int) (hg : GV lo hi b) (hk : k < 0 ∨ gn b < k) (w : World) :
    Calls Tryz.prog 47 #[G lo hi b, .int .i64 k] w fun e w' => e = .returned (.tuple #[.int .i64 0, .int .i64 2]) ∧ Below w.heap.size w w' := by
  have HG := Lib.hid hg
  obtain ⟨h1, h2, h3, h4, h5⟩ := hg
  obtain ⟨g1, g2, -⟩ := gn_bd b h4 h5
  rcases (by omega : k < 0 ∨ (0 ≤ k ∧ gn b < k)) with h | ⟨h, h'⟩
  all_goals
    clear hk
    go_enter Tryz.func47, Tryz.ntmps47
    go_wp2_with (first
      | (go_at_call 49; refine (valid_yes _ _ _ HG.out _).mono ?_; rintro e w1 ⟨rfl, hb1⟩; obtain ⟨hc1, hf1, hz1, hg1⟩ := after (w := w) hb1 (by go_grown); simp at hz1; have z1 := sz1 hz1)
      | (go_at_call 74; refine (steps_any _ _ _ HG.out _).mono ?_; rintro e w2 ⟨rfl, hb2⟩; obtain ⟨hc2, hf2, hz2, hg2⟩ := after (w := w) hb2 (by go_grown); (try simp at hz2); have z2 := Nat.lt_of_lt_of_le z1 hz2))
    go_returns
    exact ⟨rfl, by go_grown⟩
set_option maxHeartbeats 1000000 in
theorem gnear_any (lo hi b x : Int) (hg : GV lo hi b) (w : World) :
    Calls Tryz.prog 48 #[G lo hi b, .int .i64 x] w fun e w' => e = .returned (.tuple #[.int .i64 (qp lo hi b (qi lo hi b x)), .int .i64 0]) ∧ Below w.heap.size w w' := by
  have HG := Lib.hid hg
  obtain ⟨q1, q2⟩ := qi_bd lo hi b x hg
  clear hg
  go_enter Tryz.func48, Tryz.ntmps48
  go_wp2_with (first
    | (go_at_call 46; refine (index_any _ _ _ _ HG.out _).mono ?_; rintro e w1 ⟨rfl, hb1⟩; obtain ⟨hc1, hf1, hz1, hg1⟩ := after (w := w) hb1 (by go_grown); simp at hz1; have z1 := sz1 hz1)
    | (go_at_call 47; refine (point_any _ _ _ _ HG.out (by assumption) (by assumption) _).mono ?_; rintro e w2 ⟨rfl, hb2⟩; obtain ⟨hc2, hf2, hz2, hg2⟩ := after (w := w) hb2 (by go_grown)))
  go_returns
  exact ⟨rfl, by go_grown⟩
theorem gnear_no (lo hi b x : Int) (hg : ¬ GV lo hi b) (w : World) :
    Calls Tryz.prog 48 #[G lo hi b, .int .i64 x] w fun e w' => e = .returned (.tuple #[.int .i64 0, .int .i64 2]) ∧ Below w.heap.size w w' := by
  have HG := Lib.hid hg
  clear hg
  go_enter Tryz.func48, Tryz.ntmps48
  go_wp2_with (go_at_call 46; refine (index_no _ _ _ _ HG.out _).mono ?_; rintro e w1 ⟨rfl, hb1⟩; obtain ⟨hc1, hf1, hz1, hg1⟩ := after (w := w) hb1 (by go_grown); simp at hz1; have z1 := sz1 hz1)
  go_returns
  exact ⟨rfl, by go_grown⟩
theorem qe_bd (lo hi b : Int) (hg : GV lo hi b) : 0 ≤ qe lo hi b ∧ qe lo hi b ≤ hi - lo := by
  obtain ⟨h1, h2, h3, h4, h5⟩ := hg
  obtain ⟨g1, g2, -⟩ := gn_bd b h4 h5
  unfold qe
  split
  · omega
  · rw [nr_pos _ _ (by omega)]
    refine ⟨Int.ediv_nonneg (by omega) (by omega), ?_⟩
    have : (2 * ((hi - lo) * 1) + 2 * gn b) / (2 * (2 * gn b)) ≤ (4 * (hi - lo)) / 4 := by
      have h6 : (2 * ((hi - lo) * 1) + 2 * gn b) / (2 * (2 * gn b)) * 4 ≤ 2 * ((hi - lo) * 1) + 2 * gn b := by
        have e1 := Int.mul_ediv_add_emod (2 * ((hi - lo) * 1) + 2 * gn b) (2 * (2 * gn b))
        have e2 := Int.emod_nonneg (2 * ((hi - lo) * 1) + 2 * gn b) (show 2 * (2 * gn b) ≠ 0 by omega)
        have e3 : 0 ≤ (2 * ((hi - lo) * 1) + 2 * gn b) / (2 * (2 * gn b)) := Int.ediv_nonneg (by omega) (by omega)
        have e4 := Int.mul_le_mul_of_nonneg_left (show 4 ≤ 2 * (2 * gn b) by omega) e3
        rw [Int.mul_comm (2 * (2 * gn b))] at e1
        omega
      omega
    omega
theorem error_any (lo hi b : Int) (hg : GV lo hi b) (w : World) :
    Calls Tryz.prog 44 #[G lo hi b] w fun e w' => e = .returned (.tuple #[.int .i64 (qe lo hi b), .int .i64 0]) ∧ Below w.heap.size w w' := by
  have HG := Lib.hid hg
  have hqe := qe_bd lo hi b hg
  obtain ⟨h1, h2, h3, h4, h5⟩ := hg
  obtain ⟨g1, g2, -⟩ := gn_bd b h4 h5
  by_cases hc : hi - lo ≤ gn b
  · have HQ := Lib.hid (show qe lo hi b = 0 by unfold qe; rw [if_pos hc])
    clear hqe
    go_enter Tryz.func44, Tryz.ntmps44
    go_wp2_with (first
      | (go_at_call 49; refine (valid_yes _ _ _ HG.out _).mono ?_; rintro e w1 ⟨rfl, hb1⟩; obtain ⟨hc1, hf1, hz1, hg1⟩ := after (w := w) hb1 (by go_grown); simp at hz1; have z1 := sz1 hz1)
      | (go_at_call 74; refine (steps_any _ _ _ HG.out _).mono ?_; rintro e w2 ⟨rfl, hb2⟩; obtain ⟨hc2, hf2, hz2, hg2⟩ := after (w := w) hb2 (by go_grown)))
    go_returns
    exact ⟨by rw [HQ.out]; rfl, by go_grown⟩
  · have hq : qe lo hi b = nr ((hi - lo) * 1) (2 * gn b) := by unfold qe; rw [if_neg hc]
    have HQ := Lib.hid hq
    have V := Lib.hid (show (-9223372036854775808 ≤ hi - lo ∧ hi - lo ≤ 9223372036854775807 ∧ -9223372036854775808 ≤ (1 : Int) ∧ (1 : Int) ≤ 9223372036854775807 ∧ -9223372036854775808 ≤ 2 * gn b ∧ 2 * gn b ≤ 9223372036854775807 ∧ 2 * gn b ≠ 0) ∧ sat (nr ((hi - lo) * 1) (2 * gn b)) = qe lo hi b from ⟨⟨by omega, by omega, by omega, by omega, by omega, by omega, by omega⟩, by rw [← hq]; exact sat_in _ (by omega) (by omega)⟩)
    clear hqe hq
    go_enter Tryz.func44, Tryz.ntmps44
    go_wp2_with (first
      | (go_at_call 49; refine (valid_yes _ _ _ HG.out _).mono ?_; rintro e w1 ⟨rfl, hb1⟩; obtain ⟨hc1, hf1, hz1, hg1⟩ := after (w := w) hb1 (by go_grown); simp at hz1; have z1 := sz1 hz1)
      | (go_at_call 74; refine (steps_any _ _ _ HG.out _).mono ?_; rintro e w2 ⟨rfl, hb2⟩; obtain ⟨hc2, hf2, hz2, hg2⟩ := after (w := w) hb2 (by go_grown))
      | (go_at_call 75; with_reducible refine (near_val' (hi - lo) 1 (2 * gn b) _ V.out _).mono ?_; rintro e w3 ⟨rfl, hb3⟩; obtain ⟨hc3, hf3, hz3, hg3⟩ := after (w := w) hb3 (by go_grown)))
    go_returns
    exact ⟨rfl, by go_grown⟩
end Go.Proofs.YtghfggfgndgkjaaGreatDoor
