/- math/big: divWW: two words by one. -/
import Derived.Test.YtghfggfgndgkjaaGreatDoorBigWW
set_option linter.unusedVariables false
set_option linter.unusedSimpArgs false
namespace Go.Proofs.YtghfggfgndgkjaaGreatDoor
open Go.RowKit
set_option maxRecDepth 100000

theorem sh_spec {B S F x1 x0 y : Nat} (hS : S * F = B) (hF : 0 < F) (h1 : x1 < y) (h0 : x0 < B) (hd : y * S < B) :
    x1 * S + x0 / F < y * S ∧ (x1 * S + x0 / F) * B + (x0 * S) % B = (x1 * B + x0) * S ∧ x0 / F < S ∧ x1 * S < B := by
  have hS0 : 0 < S := by
    rcases Nat.eq_zero_or_pos S with h | h
    · rw [h, Nat.zero_mul] at hS; omega
    · exact h
  have hdm := Nat.div_add_mod x0 F
  have hml := Nat.mod_lt x0 hF
  obtain ⟨q, hq⟩ : ∃ q, x0 / F = q := ⟨_, rfl⟩
  obtain ⟨r, hr⟩ : ∃ r, x0 % F = r := ⟨_, rfl⟩
  rw [hq, hr] at hdm
  rw [hr] at hml
  rw [hq]
  have hqS : q < S := by
    rw [← hq, Nat.div_lt_iff_lt_mul hF, hS]; exact h0
  have e1 : x0 * S = q * B + r * S := by
    rw [← hdm, Nat.add_mul, ← hS, Nat.mul_comm F q, Nat.mul_assoc, Nat.mul_comm F S]
  have hrS : r * S < B := by
    have : r * S < F * S := Nat.mul_lt_mul_of_pos_right hml hS0
    rw [Nat.mul_comm F S, hS] at this
    exact this
  have e2 : (x0 * S) % B = r * S := by
    rw [e1, Nat.mul_comm q B, Nat.mul_add_mod, Nat.mod_eq_of_lt hrS]
  have e3 : x1 * S + S ≤ y * S := by
    have : x1 * S + S = (x1 + 1) * S := by rw [Nat.add_mul, Nat.one_mul]
    rw [this]; exact Nat.mul_le_mul_right _ h1
  refine ⟨by omega, ?_, hqS, by omega⟩
  rw [e2, Nat.add_mul (x1 * B) x0 S, e1, Nat.add_mul]
  have : x1 * S * B = x1 * B * S := by rw [Nat.mul_assoc, Nat.mul_comm S B, ← Nat.mul_assoc]
  rw [this]
  omega
theorem or_split (a b s : Nat) (hb : b < 2 ^ s) (h : a * 2 ^ s + b < 18446744073709551616) : bits .or .u64 ((a * 2 ^ s : Nat) : Int) (b : Int) = ((a * 2 ^ s + b : Nat) : Int) := by
  rw [u64_or_nat _ _ (by omega) (by omega), Nat.mul_comm a, ← Nat.two_pow_add_eq_or_of_lt hb]
set_option maxHeartbeats 8000000 in
theorem big_divWW (x1 x0 y : Nat) (h1 : x1 < y) (hx0 : x0 < 18446744073709551616) (hy0 : 0 < y) (hy : y < 9223372036854775808) (w : World) :
    Calls Tryz.prog 198 #[.int .u64 x1, .int .u64 x0, .int .u64 y, .int .u64 (rcp 18446744073709551616 (y * 2 ^ nlzN y))] w fun e w' => e = .returned (.tuple #[.int .u64 ((x1 * 18446744073709551616 + x0) / y : Nat), .int .u64 ((x1 * 18446744073709551616 + x0) % y : Nat)]) ∧ Below w.heap.size w w' := by
  obtain ⟨hs, hu0, hu1⟩ := nlz_spec hy0 (by omega : y < 18446744073709551616)
  have HZ := Lib.hid (fun V => big_nlz y V (by omega))
  have hs1 : 1 ≤ nlzN y := by
    rcases Nat.eq_zero_or_pos (nlzN y) with h | h
    · rw [h] at hu0; omega
    · exact h
  obtain ⟨s, hse⟩ : ∃ s, nlzN y = s := ⟨_, rfl⟩
  rw [hse] at hs hu0 hu1 HZ hs1 ⊢
  have hF : (2 : Nat) ^ s * 2 ^ (64 - s) = 18446744073709551616 := by rw [← Nat.pow_add, show s + (64 - s) = 64 by omega]
  obtain ⟨a1, a2, a3, a4⟩ := sh_spec hF (Nat.two_pow_pos _) h1 hx0 hu1
  obtain ⟨m, hm⟩ : ∃ m, rcp 18446744073709551616 (y * 2 ^ s) = m := ⟨_, rfl⟩
  rw [hm]
  obtain ⟨d, hd⟩ : ∃ d, y * 2 ^ s = d := ⟨_, rfl⟩
  obtain ⟨P, hP⟩ : ∃ d, x1 * 2 ^ s = d := ⟨_, rfl⟩
  obtain ⟨Q, hQ⟩ : ∃ d, x0 / 2 ^ (64 - s) = d := ⟨_, rfl⟩
  obtain ⟨X0, hX0⟩ : ∃ d, x0 * 2 ^ s % 18446744073709551616 = d := ⟨_, rfl⟩
  have hX0B : X0 < 18446744073709551616 := by rw [← hX0]; exact Nat.mod_lt _ (by omega)
  have f1 : IntKind.u64.wrap ((x1 : Int) * 2 ^ s) = (P : Int) := by
    have : (x1 : Int) * 2 ^ s = ((x1 * 2 ^ s : Nat) : Int) := by rw [Int.natCast_mul, Int.natCast_pow]; rfl
    rw [this, hP]
    exact wrapU (by omega) (by omega)
  have f2 : (x0 : Int) / 2 ^ (64 - s) = (Q : Int) := by
    have : (2 : Int) ^ (64 - s) = ((2 ^ (64 - s) : Nat) : Int) := by rw [Int.natCast_pow]; rfl
    rw [this, ← Int.natCast_ediv, hQ]
  have f3 : bits .or .u64 (P : Int) (Q : Int) = ((P + Q : Nat) : Int) := by
    have := or_split x1 (x0 / 2 ^ (64 - s)) s a3 (by omega)
    rw [hP, hQ] at this
    exact this
  have f4 : IntKind.u64.wrap ((x0 : Int) * 2 ^ s) = (X0 : Int) := by
    have : (x0 : Int) * 2 ^ s = ((x0 * 2 ^ s : Nat) : Int) := by rw [Int.natCast_mul, Int.natCast_pow]; rfl
    rw [this, mul_wrapM, hX0]
  have f5 : IntKind.u64.wrap ((y : Int) * 2 ^ s) = (d : Int) := by
    have : (y : Int) * 2 ^ s = ((y * 2 ^ s : Nat) : Int) := by rw [Int.natCast_mul, Int.natCast_pow]; rfl
    rw [this, hd]
    exact wrapU (by omega) (by omega)
  rw [hP, hQ, hX0] at a2
  rw [hP, hQ, hd] at a1
  obtain ⟨X1, hX1⟩ : ∃ X, P + Q = X := ⟨_, rfl⟩
  rw [hX1] at a1 a2 f3
  rw [hd] at hu0 hu1 hm
  have hf := unshift (A := x1 * 18446744073709551616 + x0) (y := y) (S := 2 ^ s) (Nat.two_pow_pos s)
  rw [← a2, hd] at hf
  obtain ⟨w1, w2, w3⟩ := ww_words (B := 18446744073709551616) (d := d) (X1 := X1) (X0 := X0) (by omega) hu1 a1 hX0B
  obtain ⟨t1, t2⟩ := try_spec (B := 18446744073709551616) (d := d) (x1 := X1) (x0 := X0) (by omega) hu1 a1 hX0B
  rw [hm] at w1
  obtain ⟨q, hq⟩ : ∃ q, qtry 18446744073709551616 d X1 X0 = q := ⟨_, rfl⟩
  rw [hq] at w1 w2 w3 t1 t2
  have hmB : m < 18446744073709551616 := by rw [← hm]; exact (rcp_spec (B := 18446744073709551616) (by omega) hu1).2.2
  have HM1 := Lib.hid (fun V => big_Mul m X1 hmB (by omega) V)
  have hc1 : (m * X1 % 18446744073709551616 + X0 + 0) / 18446744073709551616 ≤ 1 := by have := Nat.mod_lt (m * X1) (show 18446744073709551616 > 0 by omega); omega
  obtain ⟨T1, hT1⟩ : ∃ k, m * X1 / 18446744073709551616 = k := ⟨_, rfl⟩
  obtain ⟨T0, hT0⟩ : ∃ k, m * X1 % 18446744073709551616 = k := ⟨_, rfl⟩
  rw [hT1, hT0] at HM1 w1
  rw [hT0] at hc1
  have HA1 := Lib.hid (fun V => big_Add T0 X0 0 (by omega) V)
  obtain ⟨S0, hS0⟩ : ∃ k, (T0 + X0 + 0) % 18446744073709551616 = k := ⟨_, rfl⟩
  obtain ⟨c, hc⟩ : ∃ k, (T0 + X0 + 0) / 18446744073709551616 = k := ⟨_, rfl⟩
  rw [hS0, hc, show ((0 : Nat) : Int) = 0 from rfl] at HA1
  rw [hc] at w1 hc1
  have HA2 := Lib.hid (fun V => big_Add T1 X1 c hc1 V)
  obtain ⟨c2, hc2⟩ : ∃ k, (T1 + X1 + c) / 18446744073709551616 = k := ⟨_, rfl⟩
  rw [w1, hc2] at HA2
  have HM2 := Lib.hid (fun V => big_Mul d q hu1 w2 V)
  obtain ⟨D1, hD1⟩ : ∃ k, d * q / 18446744073709551616 = k := ⟨_, rfl⟩
  obtain ⟨D0, hD0⟩ : ∃ k, d * q % 18446744073709551616 = k := ⟨_, rfl⟩
  rw [hD1, hD0] at HM2 w3
  have HS1 := Lib.hid (fun V => big_Sub X0 D0 0 (by omega) V)
  have hb1 : (if X0 < D0 + 0 then 1 else 0 : Nat) ≤ 1 := by split <;> omega
  obtain ⟨r0, hr0⟩ : ∃ k, (X0 + 18446744073709551616 - D0 - 0) % 18446744073709551616 = k := ⟨_, rfl⟩
  obtain ⟨b, hb⟩ : ∃ k, (if X0 < D0 + 0 then 1 else 0 : Nat) = k := ⟨_, rfl⟩
  rw [hr0, hb, show ((0 : Nat) : Int) = 0 from rfl] at HS1
  rw [hr0, hb] at w3
  rw [hb] at hb1
  have hr0B : r0 < 18446744073709551616 := by rw [← hr0]; exact Nat.mod_lt _ (by omega)
  have HS2 := Lib.hid (fun V => big_Sub X1 D1 b hb1 V)
  obtain ⟨r1, hr1⟩ : ∃ k, (X1 + 18446744073709551616 - D1 - b) % 18446744073709551616 = k := ⟨_, rfl⟩
  obtain ⟨b2, hb2⟩ : ∃ k, (if X1 < D1 + b then 1 else 0 : Nat) = k := ⟨_, rfl⟩
  rw [hr1, hb2] at HS2
  rw [hr1] at w3
  obtain ⟨g1, g2, g3⟩ := fix_spec (B := 18446744073709551616) (d := d) (X := X1 * 18446744073709551616 + X0) (q := q) (r1 := r1) (r0 := r0) (by omega) hu1 t1 t2 w3 hr0B
  obtain ⟨XX, hXX⟩ : ∃ k, X1 * 18446744073709551616 + X0 = k := ⟨_, rfl⟩
  rw [hXX] at g2 g3 hf
  rw [← hf.1, ← hf.2]
  have HAB := Lib.hid (show XX / d ≤ 18446744073709551615 from by
    have a : XX < d * 18446744073709551616 := by
      have b : (X1 + 1) * 18446744073709551616 ≤ d * 18446744073709551616 := Nat.mul_le_mul_right _ a1
      omega
    have := (Nat.div_lt_iff_lt_mul (show 0 < d by omega)).2 (by rw [Nat.mul_comm]; exact a)
    omega)
  obtain ⟨A, hA⟩ : ∃ k, XX / d = k := ⟨_, rfl⟩
  obtain ⟨C, hC⟩ : ∃ k, XX % d = k := ⟨_, rfl⟩
  obtain ⟨E, hE⟩ : ∃ k, C / 2 ^ s = k := ⟨_, rfl⟩
  have HE := Lib.hid hE
  rw [hA] at HAB
  rw [hA, hC] at g2 g3 ⊢
  rw [hE]
  clear hA hC hE
  have HC := Lib.hid (And.intro g1 (And.intro g2 (And.intro g3 (And.intro hr0B (And.intro w2 (And.intro hu0 hu1))))))
  clear a1 a2 a3 a4 hu0 hu1 hm hF hse h1 hx0 hy0 hy hd hP hQ hX0 hX0B hX1 hf w1 w2 w3 t1 t2 hq hmB hc1 hT1 hT0 hS0 hc hc2 hD1 hD0 hb1 hr0 hb hr0B hr1 hb2 g1 g2 g3 hXX
  have hsn : ¬ (s : Int) = 0 := by omega
  have hsn2 : ¬ s = 0 := by omega
  go_enter Tryz.func198, Tryz.ntmps198
  go_wp2_with (go_at_call 178; refine (HZ.out _).mono ?_; rintro e w' ⟨rfl, rfl⟩)
  refine (HM1.out _).mono ?_
  rintro e V1 ⟨rfl, rfl⟩
  go_wp2_with fail
  refine (HA1.out _).mono ?_
  rintro e V2 ⟨rfl, rfl⟩
  go_wp2_with fail
  refine (HA2.out _).mono ?_
  rintro e V3 ⟨rfl, rfl⟩
  go_wp2_with fail
  refine (HM2.out _).mono ?_
  rintro e V4 ⟨rfl, rfl⟩
  go_wp2_with fail
  refine (HS1.out _).mono ?_
  rintro e V5 ⟨rfl, rfl⟩
  go_wp2_with fail
  refine (HS2.out _).mono ?_
  rintro e V6 ⟨rfl, rfl⟩
  clear HM1 HA1 HA2 HM2 HS1 HS2 HZ f1 f2 f3 f4 f5 hsn hsn2
  have hw2 := HC.out.2.2.2.2.1
  have hu0 := HC.out.2.2.2.2.2.1
  have hu1 := HC.out.2.2.2.2.2.2
  have hrB := HC.out.2.2.2.1
  have wq : IntKind.u64.wrap (q : Int) = q := wrapU (by omega) (by omega)
  rcases HC.out.1 with h | h
  · subst h
    have g := HC.out.2.2.1 rfl
    have z : ((0 : Nat) : Int) = 0 := rfl
    by_cases hc : d ≤ r0
    · rw [if_pos hc, if_pos hc] at g
      have e1 : IntKind.u64.wrap ((q : Int) + 1) = (A : Int) := by have := g.1; have hAd : A ≤ 18446744073709551615 := HAB.out; rw [IntKind.wrap_u64]; omega
      have e2 : IntKind.u64.wrap ((r0 : Int) - (d : Int)) = (C : Int) := by have := g.2; rw [IntKind.wrap_u64]; omega
      have e3 : decide ((d : Int) ≤ (r0 : Int)) = true := decide_eq_true (by omega)
      have e4 : (C : Int) / 2 ^ s = (E : Int) := by rw [← HE.out, Int.natCast_ediv, Int.natCast_pow]; rfl
      have hA1 : A = A := rfl
      have HT := Lib.hid hA1
      clear g hA1 hu0 hu1 hrB hw2 HC HAB HE
      go_wp2
      go_returns
      exact ⟨rfl, Below.refl _ _⟩
    · rw [if_neg hc, if_neg hc] at g
      have e3 : decide ((d : Int) ≤ (r0 : Int)) = false := decide_eq_false (by omega)
      have e4 : (r0 : Int) / 2 ^ s = (E : Int) := by rw [← HE.out, g.2, Int.natCast_ediv, Int.natCast_pow]; rfl
      have hA1 := g.1
      have HT := Lib.hid hA1
      clear g hA1 hu0 hu1 hrB hw2 HC HAB HE
      go_wp2
      go_returns
      exact ⟨by rw [HT.out]; rfl, Below.refl _ _⟩
  · subst h
    have g := HC.out.2.1 rfl
    obtain ⟨R, hR⟩ : ∃ k, r0 + 18446744073709551616 - d = k := ⟨_, rfl⟩
    rw [hR] at g
    have z : ((1 : Nat) : Int) = 1 := rfl
    have e2 : IntKind.u64.wrap ((r0 : Int) - (d : Int)) = (R : Int) := by have := g.1; rw [IntKind.wrap_u64]; omega
    obtain ⟨q1, hq1⟩ : ∃ k, q + 1 = k := ⟨_, rfl⟩
    have e1 : IntKind.u64.wrap ((q : Int) + 1) = (q1 : Int) := by have hAd : A ≤ 18446744073709551615 := HAB.out; have := g.2.1; rw [IntKind.wrap_u64]; split at this <;> omega
    by_cases hc : d ≤ R
    · rw [if_pos hc, if_pos hc] at g
      have e3 : decide ((d : Int) ≤ (R : Int)) = true := decide_eq_true (by omega)
      have e5 : IntKind.u64.wrap ((q1 : Int) + 1) = (A : Int) := by have hAd : A ≤ 18446744073709551615 := HAB.out; have := g.2.1; rw [IntKind.wrap_u64]; omega
      have e6 : IntKind.u64.wrap ((R : Int) - (d : Int)) = (C : Int) := by have := g.2.2; rw [IntKind.wrap_u64]; omega
      have e4 : (C : Int) / 2 ^ s = (E : Int) := by rw [← HE.out, Int.natCast_ediv, Int.natCast_pow]; rfl
      have hA1 : A = A := rfl
      have HT := Lib.hid hA1
      clear g hA1 hu0 hu1 hrB hw2 HC HAB HE hq1 hR
      go_wp2
      go_returns
      exact ⟨rfl, Below.refl _ _⟩
    · rw [if_neg hc, if_neg hc] at g
      have e3 : decide ((d : Int) ≤ (R : Int)) = false := decide_eq_false (by omega)
      have e4 : (R : Int) / 2 ^ s = (E : Int) := by rw [← HE.out, g.2.2.1, Int.natCast_ediv, Int.natCast_pow]; rfl
      have hA1 : A = q1 := by have := g.2.1; omega
      clear hq1 hR
      have HT := Lib.hid hA1
      clear g hA1 hu0 hu1 hrB hw2 HC HAB HE
      go_wp2
      go_returns
      exact ⟨by rw [HT.out]; rfl, Below.refl _ _⟩
end Go.Proofs.YtghfggfgndgkjaaGreatDoor
