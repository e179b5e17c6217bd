/- The walk of quant.Fit: its closure, the search, the grid that is found. -/
import Derived.Test.YtghfggfgndgkjaaGreatDoorQuant
set_option linter.unusedVariables false
set_option linter.unusedSimpArgs false
namespace Go.Proofs.YtghfggfgndgkjaaGreatDoor
open Go.RowKit

theorem gn_mono (b c : Int) (h0 : 0 ≤ b) (h : b ≤ c) : gn b ≤ gn c := by
  have h4 : (2 : Int) ^ b.toNat ≤ 2 ^ c.toNat := by exact_mod_cast Nat.pow_le_pow_right (n := 2) (by decide) (show b.toNat ≤ c.toNat by omega)
  unfold gn; omega
theorem nr_anti (w n m : Int) (hw : 0 ≤ w) (hn : 0 < n) (h : n ≤ m) : nr (w * 1) (2 * m) ≤ nr (w * 1) (2 * n) := by
  rw [nr_pos _ _ (by omega), nr_pos _ _ (by omega)]
  have e1 := Int.mul_ediv_add_emod (2 * (w * 1) + 2 * m) (2 * (2 * m))
  have e2 := Int.emod_nonneg (2 * (w * 1) + 2 * m) (show 2 * (2 * m) ≠ 0 by omega)
  have e3 : 0 ≤ (2 * (w * 1) + 2 * m) / (2 * (2 * m)) := Int.ediv_nonneg (by omega) (by omega)
  generalize (2 * (w * 1) + 2 * m) % (2 * (2 * m)) = r at *
  generalize (2 * (w * 1) + 2 * m) / (2 * (2 * m)) = q at *
  rw [Int.le_ediv_iff_mul_le (by omega)]
  have e4 : q * (2 * (2 * n)) = 4 * (q * n) := by rw [Int.mul_left_comm, Int.mul_left_comm q 2 n]; omega
  have e5 : 2 * (2 * m) * q = 4 * (q * m) := by rw [Int.mul_assoc, Int.mul_assoc, Int.mul_comm m q]; omega
  rcases (by omega : q = 0 ∨ 1 ≤ q) with h1 | h1
  · subst h1; omega
  · have e6 : (q - 1) * n ≤ (q - 1) * m := Int.mul_le_mul_of_nonneg_left h (by omega)
    rw [Int.sub_mul, Int.sub_mul, Int.one_mul, Int.one_mul] at e6
    have e7 : 2 * (q * m) ≤ w + m := by omega
    have e8 : (2 * q - 1) * n ≤ (2 * q - 1) * m := Int.mul_le_mul_of_nonneg_left h (by omega)
    rw [Int.sub_mul, Int.sub_mul, Int.one_mul, Int.one_mul, Int.mul_assoc, Int.mul_assoc] at e8
    omega
theorem qe_anti (lo hi b c : Int) (h1 : lo < hi) (h2 : 1 ≤ b) (h3 : b ≤ c) (h4 : c ≤ 32) : qe lo hi c ≤ qe lo hi b := by
  obtain ⟨g1, g2, -⟩ := gn_bd b h2 (by omega)
  have hm := gn_mono b c (by omega) h3
  unfold qe
  by_cases hb : hi - lo ≤ gn b
  · rw [if_pos hb, if_pos (by omega)]; omega
  · rw [if_neg hb]
    by_cases hc : hi - lo ≤ gn c
    · rw [if_pos hc, nr_pos _ _ (by omega)]; exact Int.ediv_nonneg (by omega) (by omega)
    · rw [if_neg hc]; exact nr_anti _ _ _ (by omega) (by omega) hm

/-- the first place below n at which f is true; n, if there is none -/
def firstUp (f : Nat → Bool) : Nat → Nat
  | 0 => 0
  | n + 1 => if firstUp f n < n then firstUp f n else if f n = true then n else n + 1
theorem firstUp_spec (f : Nat → Bool) (n : Nat) : firstUp f n ≤ n ∧ (firstUp f n < n → f (firstUp f n) = true) ∧ ∀ i, i < firstUp f n → f i = false := by
  induction n with
  | zero => exact ⟨Nat.le_refl _, fun h => absurd h (Nat.lt_irrefl _), fun i h => absurd h (Nat.not_lt_zero _)⟩
  | succ n ih =>
    obtain ⟨h1, h2, h3⟩ := ih
    rw [firstUp]
    split
    · rename_i h; exact ⟨by omega, fun _ => h2 h, h3⟩
    · rename_i h
      have e : firstUp f n = n := by omega
      rw [e] at h3
      split
      · rename_i h'; exact ⟨by omega, fun _ => h', h3⟩
      · rename_i h'
        refine ⟨Nat.le_refl _, fun h => absurd h (Nat.lt_irrefl _), fun i hi => ?_⟩
        rcases Nat.lt_or_ge i n with g | g
        · exact h3 i g
        · rw [show i = n by omega]; simpa using h'
def fits (lo hi most : Int) (i : Nat) : Bool := decide (qe lo hi ((i : Int) + 1) ≤ most)
def fk (lo hi most : Int) : Nat := firstUp (fits lo hi most) 32
theorem fits_mono (lo hi most : Int) (h : lo < hi) (i j : Nat) (hij : i ≤ j) (hj : j < 32) (hf : fits lo hi most i = true) : fits lo hi most j = true := by
  unfold fits at *
  rw [decide_eq_true_iff] at *
  have := qe_anti lo hi ((i : Int) + 1) ((j : Int) + 1) h (by omega) (by omega) (by omega)
  omega
theorem fk_unique (lo hi most : Int) (h : lo < hi) (k : Nat) (hk : k ≤ 32) (h1 : k < 32 → fits lo hi most k = true) (h2 : 0 < k → fits lo hi most (k - 1) = false) : k = fk lo hi most := by
  obtain ⟨s1, s2, s3⟩ := firstUp_spec (fits lo hi most) 32
  change fk lo hi most ≤ 32 at s1
  change fk lo hi most < 32 → fits lo hi most (fk lo hi most) = true at s2
  change ∀ i, i < fk lo hi most → fits lo hi most i = false at s3
  generalize fk lo hi most = m at *
  rcases Nat.lt_trichotomy k m with g | g | g
  · have := s3 k g; rw [h1 (by omega)] at this; cases this
  · exact g
  · have h3 := h2 (by omega)
    have := fits_mono lo hi most h m (k - 1) (by omega) (by omega) (s2 (by omega))
    rw [this] at h3; cases h3

theorem fk_le (lo hi most : Int) : fk lo hi most ≤ 32 := (firstUp_spec (fits lo hi most) 32).1
theorem fk_yes (lo hi most : Int) (h : fk lo hi most < 32) : fits lo hi most (fk lo hi most) = true := (firstUp_spec (fits lo hi most) 32).2.1 h
theorem fk_no (lo hi most : Int) (i : Nat) (h : i < fk lo hi most) : fits lo hi most i = false := (firstUp_spec (fits lo hi most) 32).2.2 i h
attribute [irreducible] firstUp fk fits

theorem closure_any (lo hi most x : Int) (p0 p1 p2 : Addr) (h1 : -1099511627776 ≤ lo) (h2 : lo < hi) (h3 : hi ≤ 1099511627776) (x0 : 0 ≤ x) (x1 : x < 32) (w : World)
    (c0 : w.cell? p0 = some (.int .i64 lo)) (c1 : w.cell? p1 = some (.int .i64 hi)) (c2 : w.cell? p2 = some (.int .i64 most)) :
    Calls Tryz.prog 43 #[.int .i64 x, .pointer (some p0), .pointer (some p1), .pointer (some p2)] w fun e w' => e = .returned (.bool (fits lo hi most x.toNat)) ∧ Below w.heap.size w w' := by
  have HG := Lib.hid (show GV lo hi (x + 1) from ⟨h1, h2, h3, by omega, by omega⟩)
  have HF := Lib.hid (show fits lo hi most x.toNat = decide (qe lo hi (x + 1) ≤ most) by unfold fits; rw [Int.toNat_of_nonneg x0])
  go_enter Tryz.func43, Tryz.ntmps43
  go_wp2_with (go_at_call 44; refine (error_any _ _ _ HG.out _).mono ?_; rintro e w1 ⟨rfl, hb1⟩; have c3 := cell_later hb1 c2)
  go_returns
  exact ⟨by rw [HF.out]; rfl, by go_grown⟩

set_option maxHeartbeats 1000000 in
theorem search_any (lo hi most : Int) (p0 p1 p2 : Addr) (h1 : -1099511627776 ≤ lo) (h2 : lo < hi) (h3 : hi ≤ 1099511627776) (w : World)
    (c0 : w.cell? p0 = some (.int .i64 lo)) (c1 : w.cell? p1 = some (.int .i64 hi)) (c2 : w.cell? p2 = some (.int .i64 most)) :
    Calls Tryz.prog 42 #[.int .i64 32, .func (.func 43) #[] #[.pointer (some p0), .pointer (some p1), .pointer (some p2)]] w fun e w' => e = .returned (.int .i64 (fk lo hi most)) ∧ Below w.heap.size w w' := by
  go_enter Tryz.func42, Tryz.ntmps42
  go_wp2
  go_loopw [5, 6] (fun v5 v6 wr => ∃ i j : Nat, v5 = .int .i64 i ∧ v6 = .int .i64 j ∧ i ≤ j ∧ j ≤ 32 ∧ Hid ((j < 32 → fits lo hi most j = true) ∧ (0 < i → fits lo hi most (i - 1) = false)) ∧ Below w.heap.size w wr) (fun v5 v6 _ => (intOf v6).toNat - (intOf v5).toNat)
  case atStart => exact ⟨0, 32, rfl, rfl, by omega, by omega, Lib.hid ⟨fun h => absurd h (by omega), fun h => absurd h (by omega)⟩, by go_grown⟩
  case round =>
    obtain ⟨i, j, rfl, rfl, hij, hj, H, hB⟩ := hrel
    have d0 := cell_later hB c0
    have d1 := cell_later hB c1
    have d2 := cell_later hB c2
    by_cases hlt : i < j
    · have hm : ((((i : Int) + j) / 2).toNat) = (i + j) / 2 := by omega
      have HM := Lib.hid hm
      by_cases hf : fits lo hi most (((i : Int) + j) / 2).toNat = true
      · have HF := Lib.hid hf
        clear hm
        go_wp2_with (go_at_call 43; refine (closure_any lo hi most _ p0 p1 p2 h1 h2 h3 (by omega) (by omega) _ d0 d1 d2).mono ?_; rintro e w1 ⟨rfl, hb1⟩; have hg1 := hB.trans (hb1.mono hB.size))
        go_roundw
        case rel => exact ⟨i, (i + j) / 2, rfl, by go_num, by omega, by omega, Lib.hid ⟨fun _ => by rw [← HM.out]; exact HF.out, H.out.2⟩, by with_reducible assumption⟩
        case measure => simp [intOf]; omega
      · have hf : fits lo hi most (((i : Int) + j) / 2).toNat = false := by simpa using hf
        have HF := Lib.hid hf
        clear hm
        go_wp2_with (go_at_call 43; refine (closure_any lo hi most _ p0 p1 p2 h1 h2 h3 (by omega) (by omega) _ d0 d1 d2).mono ?_; rintro e w1 ⟨rfl, hb1⟩; have hg1 := hB.trans (hb1.mono hB.size))
        go_roundw
        case rel => exact ⟨(i + j) / 2 + 1, j, by go_num, rfl, by omega, by omega, Lib.hid ⟨H.out.1, fun _ => by rw [Nat.add_sub_cancel, ← HM.out]; exact HF.out⟩, by with_reducible assumption⟩
        case measure => simp [intOf]; omega
    · have hk : i = j := by omega
      subst hk
      have HK := Lib.hid (fk_unique lo hi most h2 i hj H.out.1 H.out.2)
      go_wp2
      go_returns
      exact ⟨by rw [← HK.out]; rfl, by go_grown⟩

/-- what Fit returns -/
def fitV (lo hi : Int) (k : Nat) : Value := if k = 32 then .tuple #[G 0 0 0, .int .i64 6] else .tuple #[G lo hi ((k : Int) + 1), .int .i64 0]
set_option maxHeartbeats 1000000 in
theorem fit_any (lo hi most : Int) (h1 : -1099511627776 ≤ lo) (h2 : lo < hi) (h3 : hi ≤ 1099511627776) (h4 : 0 ≤ most) (w : World) :
    Calls Tryz.prog 6 #[.int .i64 lo, .int .i64 hi, .int .i64 most] w fun e w' => e = .returned (fitV lo hi (fk lo hi most)) ∧ Below w.heap.size w w' := by
  have s1 : fk lo hi most ≤ 32 := fk_le lo hi most
  by_cases hk : fk lo hi most = 32
  · have HV := Lib.hid (show fitV lo hi (fk lo hi most) = .tuple #[G 0 0 0, .int .i64 6] by unfold fitV; rw [if_pos hk])
    have hk2 : (((fk lo hi most : Nat) : Int) == 32) = true := by rw [hk]; rfl
    clear hk s1
    go_enter Tryz.func6, Tryz.ntmps6
    go_wp2_with (first
      | (go_at_call 41; refine (ranged_yes _ _ (by assumption) (by assumption) (by assumption) _).mono ?_; rintro e w1 ⟨rfl, hb1⟩; obtain ⟨hc1, hf1, hz1, hg1⟩ := after (w := w) hb1 (by go_grown); simp at hz1; obtain ⟨z1, z2, z3, z4⟩ := sz4 hz1)
      | (go_at_call 42; have e0 : w1.cell? ⟨w.heap.size, 0, none⟩ = some (.int .i64 lo) := (by simp [go_sem, hc1, z1, z2, z3, z4]); have e1 : w1.cell? ⟨w.heap.size + 1, 0, none⟩ = some (.int .i64 hi) := (by simp [go_sem, hc1, z1, z2, z3, z4]); have e2 : w1.cell? ⟨w.heap.size + 1 + 1, 0, none⟩ = some (.int .i64 most) := (by simp [go_sem, hc1, z1, z2, z3, z4]); with_reducible refine (search_any lo hi most _ _ _ h1 h2 h3 _ e0 e1 e2).mono ?_; rintro e w2 ⟨rfl, hb2⟩; obtain ⟨hc2, hf2, hz2, hg2⟩ := after (w := w) hb2 (by go_grown); (try simp at hz2)))
    refine bodyPost_ret (v := .tuple #[G 0 0 0, .int .i64 6]) (by simp [results, Tryz.results6, go_sem, hc1, hc2, z1, z2, z3, z4]; try rfl) rfl ?_
    exact ⟨by rw [HV.out], by go_grown⟩
  · have HV := Lib.hid (show fitV lo hi (fk lo hi most) = .tuple #[G lo hi ((fk lo hi most : Int) + 1), .int .i64 0] by unfold fitV; rw [if_neg hk])
    have hk2 : (((fk lo hi most : Nat) : Int) == 32) = false := by simp; omega
    clear hk
    go_enter Tryz.func6, Tryz.ntmps6
    go_wp2_with (first
      | (go_at_call 41; refine (ranged_yes _ _ (by assumption) (by assumption) (by assumption) _).mono ?_; rintro e w1 ⟨rfl, hb1⟩; obtain ⟨hc1, hf1, hz1, hg1⟩ := after (w := w) hb1 (by go_grown); simp at hz1; obtain ⟨z1, z2, z3, z4⟩ := sz4 hz1)
      | (go_at_call 42; have e0 : w1.cell? ⟨w.heap.size, 0, none⟩ = some (.int .i64 lo) := (by simp [go_sem, hc1, z1, z2, z3, z4]); have e1 : w1.cell? ⟨w.heap.size + 1, 0, none⟩ = some (.int .i64 hi) := (by simp [go_sem, hc1, z1, z2, z3, z4]); have e2 : w1.cell? ⟨w.heap.size + 1 + 1, 0, none⟩ = some (.int .i64 most) := (by simp [go_sem, hc1, z1, z2, z3, z4]); with_reducible refine (search_any lo hi most _ _ _ h1 h2 h3 _ e0 e1 e2).mono ?_; rintro e w2 ⟨rfl, hb2⟩; obtain ⟨hc2, hf2, hz2, hg2⟩ := after (w := w) hb2 (by go_grown); (try simp at hz2)))
    refine bodyPost_ret (v := .tuple #[G lo hi ((fk lo hi most : Int) + 1), .int .i64 0]) (by simp [results, Tryz.results6, go_sem, hc1, hc2, z1, z2, z3, z4]; try rfl) rfl ?_
    exact ⟨by rw [HV.out], by go_grown⟩
end Go.Proofs.YtghfggfgndgkjaaGreatDoor
