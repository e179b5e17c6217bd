/- math/big: reciprocalWord, divWW. -/
import Derived.Test.YtghfggfgndgkjaaGreatDoorBigDiv
set_option linter.unusedVariables false
set_option linter.unusedSimpArgs false
namespace Go.Proofs.YtghfggfgndgkjaaGreatDoor
open Go.RowKit
set_option maxRecDepth 100000

theorem big_Div_low (lo y : Nat) (hl : lo < 18446744073709551616) (h0 : 0 < y) (hy : y < 18446744073709551616) (w : World) :
    Calls Tryz.prog 196 #[.int .u64 0, .int .u64 lo, .int .u64 y] w fun e w' => e = .returned (.tuple #[.int .u64 (lo / y : Nat), .int .u64 (lo % y : Nat)]) ∧ Below w.heap.size w w' := by
  have HD := Lib.hid (fun V => big_Div64_low lo y hl h0 hy V)
  go_enter Tryz.func196, Tryz.ntmps196
  go_wp2_with (go_at_call 216; refine (HD.out _).mono ?_; rintro e w' ⟨rfl, hb⟩)
  go_returns
  exact ⟨rfl, hb⟩
theorem big_Div_top (hi lo y : Nat) (hh : 0 < hi) (hl : lo < 18446744073709551616) (h0 : 9223372036854775808 ≤ y) (hy : y < 18446744073709551616) (hu : hi < y) (w : World) :
    Calls Tryz.prog 196 #[.int .u64 hi, .int .u64 lo, .int .u64 y] w fun e w' => e = .returned (.tuple #[.int .u64 ((hi * 18446744073709551616 + lo) / y : Nat), .int .u64 ((hi * 18446744073709551616 + lo) % y : Nat)]) ∧ Below w.heap.size w w' := by
  have HD := Lib.hid (fun V => big_Div64_top hi lo y hh hl h0 hy hu V)
  clear hh hl h0 hy hu
  go_enter Tryz.func196, Tryz.ntmps196
  go_wp2_with (go_at_call 216; refine (HD.out _).mono ?_; rintro e w' ⟨rfl, hb⟩)
  go_returns
  exact ⟨rfl, hb⟩
theorem bitLen_pow {x k : Nat} (h0 : 2 ^ k ≤ x) (h1 : x < 2 ^ (k + 1)) (h2 : x < 18446744073709551616) : Lib.bitLen x = k + 1 := by
  rw [Lib.bitLen_shift k x h0 h2]
  have hp : 0 < 2 ^ k := Nat.two_pow_pos k
  have : x / 2 ^ k = 1 := by
    have a : 1 ≤ x / 2 ^ k := (Nat.le_div_iff_mul_le hp).2 (by omega)
    have b : x / 2 ^ k < 2 := (Nat.div_lt_iff_lt_mul hp).2 (by rw [Nat.pow_succ] at h1; omega)
    omega
  rw [this]
  rfl
/-- how far a word is shifted up: its top bit is set then -/
theorem nlz_spec {x : Nat} (h0 : 0 < x) (h1 : x < 18446744073709551616) : nlzN x ≤ 63 ∧ 9223372036854775808 ≤ x * 2 ^ nlzN x ∧ x * 2 ^ nlzN x < 18446744073709551616 := by
  have hk : 2 ^ Nat.log2 x ≤ x := Nat.log2_self_le (by omega)
  have hk2 : x < 2 ^ (Nat.log2 x + 1) := Nat.lt_log2_self
  have hl := bitLen_pow hk hk2 h1
  have h64 : Nat.log2 x < 64 := by
    rcases Nat.lt_or_ge (Nat.log2 x) 64 with h | h
    · exact h
    · have : 2 ^ 64 ≤ 2 ^ Nat.log2 x := Nat.pow_le_pow_right (by decide) h
      omega
  unfold nlzN
  rw [hl]
  obtain ⟨k, hke⟩ : ∃ k, Nat.log2 x = k := ⟨_, rfl⟩
  rw [hke] at hk hk2 h64 ⊢
  have e : 64 - (k + 1) = 63 - k := by omega
  rw [e]
  have p1 : 2 ^ k * 2 ^ (63 - k) = 9223372036854775808 := by rw [← Nat.pow_add, show k + (63 - k) = 63 by omega]
  have p2 : 2 ^ (k + 1) * 2 ^ (63 - k) = 18446744073709551616 := by rw [← Nat.pow_add, show k + 1 + (63 - k) = 64 by omega]
  refine ⟨by omega, ?_, ?_⟩
  · rw [← p1]; exact Nat.mul_le_mul_right _ hk
  · rw [← p2]; exact Nat.mul_lt_mul_of_pos_right hk2 (Nat.two_pow_pos _)
theorem flip_all (u : Nat) (h : u < 18446744073709551616) : (18446744073709551615 : Nat) ^^^ u = 18446744073709551615 - u := by
  have e : (BitVec.allOnes 64 ^^^ BitVec.ofNat 64 u) = ~~~ (BitVec.ofNat 64 u) := by
    rw [BitVec.xor_comm, BitVec.xor_allOnes]
  have e2 := congrArg BitVec.toNat e
  rw [BitVec.toNat_xor, BitVec.toNat_not, BitVec.toNat_allOnes, BitVec.toNat_ofNat, Nat.mod_eq_of_lt h] at e2
  exact e2
theorem flip_u64 (u : Nat) (h : u < 18446744073709551616) : bits .xor .u64 IntKind.u64.max (u : Int) = ((18446744073709551615 - u : Nat) : Int) := by
  have h1 : IntKind.u64.max = ((18446744073709551615 : Nat) : Int) := rfl
  rw [h1, u64_xor_nat _ _ (by omega) h, flip_all u h]
theorem rcp_is0 {B u : Nat} (hu : u < B) : ((B - 1 - u) * B + (B - 1)) / u = rcp B u := by
  unfold rcp
  have e : (B - 1 - u) * B + (B - 1) = B * B - 1 - u * B := by
    obtain ⟨c, hc⟩ : ∃ c, B = c + 1 + u := ⟨B - 1 - u, by omega⟩
    have h2 : B * B = (c + 1 + u) * B := congrArg (fun z => z * B) hc
    rw [Nat.add_mul, Nat.add_mul, Nat.one_mul] at h2
    have h3 : B - 1 - u = c := by omega
    rw [h3]
    omega
  rw [e, Nat.sub_mul_div]
theorem rcp_is {u : Nat} (h0 : 9223372036854775808 ≤ u) (h1 : u < 18446744073709551616) : ((18446744073709551615 - u) * 18446744073709551616 + 18446744073709551615) / u = rcp 18446744073709551616 u := by
  have h := rcp_is0 h1
  have e : (18446744073709551616 : Nat) - 1 = 18446744073709551615 := rfl
  rw [e] at h
  exact h
set_option maxHeartbeats 4000000 in
theorem big_recip (d : Nat) (h0 : 0 < d) (h1 : d < 9223372036854775808) (w : World) :
    Calls Tryz.prog 197 #[.int .u64 d] w fun e w' => e = .returned (.int .u64 (rcp 18446744073709551616 (d * 2 ^ nlzN d))) ∧ Below w.heap.size w w' := by
  obtain ⟨hs, hu0, hu1⟩ := nlz_spec h0 (by omega : d < 18446744073709551616)
  have HZ := Lib.hid (fun V => big_nlz d V (by omega))
  have hs1 : 1 ≤ nlzN d := by
    rcases Nat.eq_zero_or_pos (nlzN d) with h | h
    · rw [h] at hu0; omega
    · exact h
  obtain ⟨s, hse⟩ : ∃ s, nlzN d = s := ⟨_, rfl⟩
  rw [hse] at hs hu0 hu1 HZ hs1 ⊢
  have heven : 2 * (d * 2 ^ (s - 1)) = d * 2 ^ s := by
    have : 2 ^ s = 2 * 2 ^ (s - 1) := by rw [← Nat.pow_succ']; congr 1; omega
    rw [this, Nat.mul_left_comm]
  have hsh : (d : Int) * 2 ^ s = ((d * 2 ^ s : Nat) : Int) := by rw [Int.natCast_mul, Int.natCast_pow]; rfl
  obtain ⟨u, hu⟩ : ∃ u, d * 2 ^ s = u := ⟨_, rfl⟩
  rw [hu] at hu0 hu1 hsh heven ⊢
  have hx := flip_u64 u hu1
  have wu : IntKind.u64.wrap (u : Int) = u := wrapU (by omega) (by omega)
  have hsg : IntKind.u64.signed = false := rfl
  have HD := Lib.hid (fun V => big_Div_top (18446744073709551615 - u) 18446744073709551615 u (by omega) (by omega) hu0 hu1 (by omega) V)
  rw [rcp_is hu0 hu1] at HD
  obtain ⟨k, hk⟩ : ∃ k, rcp 18446744073709551616 u = k := ⟨_, rfl⟩
  obtain ⟨f, hf⟩ : ∃ f, 18446744073709551615 - u = f := ⟨_, rfl⟩
  rw [hk, hf] at HD
  have hl1 : ((18446744073709551615 : Nat) : Int) = 18446744073709551615 := rfl
  simp only [hl1] at HD
  clear hl1
  rw [hk]
  rw [hf] at hx
  clear hk hf
  clear hu hse heven hs1 hu0 hu1 h0 h1
  go_enter Tryz.func197, Tryz.ntmps197
  go_wp2_with (go_at_call 178; refine (HZ.out _).mono ?_; rintro e w' ⟨rfl, rfl⟩)
  refine (HD.out _).mono ?_
  rintro e w1 ⟨rfl, hb⟩

  go_wp2
  go_returns
  exact ⟨rfl, hb⟩
end Go.Proofs.YtghfggfgndgkjaaGreatDoor
