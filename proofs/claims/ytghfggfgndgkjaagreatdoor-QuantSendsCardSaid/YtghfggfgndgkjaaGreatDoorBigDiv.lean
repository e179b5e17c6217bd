/- bits.Div64, bits.Div: a high word of nought, or a divisor with its top bit set. -/
import Derived.Test.YtghfggfgndgkjaaGreatDoorBigBits
import Derived.Test.YtghfggfgndgkjaaGreatDoorBigPlain
import Derived.WalkLawsBesides
import Derived.Outline
import Derived.BigRegion
import Derived.RegionTactic
import Derived.Deep.QuietTactic
import Derived.BigQuiet
import Derived.LoopTactic
import Derived.Deep.Cut
import Derived.Lib.Hide
set_option linter.unusedVariables false
set_option linter.unusedSimpArgs false
namespace Go.Proofs.YtghfggfgndgkjaaGreatDoor
open Go.RowKit
set_option maxRecDepth 100000

theorem bitLen_top {x : Nat} (h : 9223372036854775808 ≤ x) (h1 : x < 18446744073709551616) : Lib.bitLen x = 64 := by
  rw [Lib.bitLen_shift 63 x (by omega) h1]
  have : x / 2 ^ 63 = 1 := by omega
  rw [this]
  rfl
theorem ret_tup2 {a b c d : Int} (h1 : a = c) (h2 : b = d) : Ending.returned (.tuple #[.int .u64 a, .int .u64 b]) = Ending.returned (.tuple #[.int .u64 c, .int .u64 d]) := by rw [h1, h2]
theorem hb_split {hi lo n1 n0 : Nat} (h : n1 * 4294967296 + n0 = lo) : hi * 18446744073709551616 + lo = hi * 4294967296 * 4294967296 + n1 * 4294967296 + n0 := by
  have e : (4294967296 : Nat) * 4294967296 = 18446744073709551616 := rfl
  rw [Nat.mul_assoc, e, ← h, Nat.add_assoc]
theorem wrapU {a : Int} (h0 : 0 ≤ a) (h1 : a < 18446744073709551616) : IntKind.u64.wrap a = a := by rw [IntKind.wrap_u64]; omega
set_option maxHeartbeats 4000000 in
theorem big_Div64_low (lo y : Nat) (hl : lo < 18446744073709551616) (h0 : 0 < y) (hy : y < 18446744073709551616) (w : World) :
    Calls Tryz.prog 216 #[.int .u64 0, .int .u64 lo, .int .u64 y] w fun e w' => e = .returned (.tuple #[.int .u64 (lo / y : Nat), .int .u64 (lo % y : Nat)]) ∧ Below w.heap.size w w' := by
  have d1 : ¬ (y : Int) = 0 := by omega
  have d2 : ¬ (y : Int) ≤ 0 := by omega
  have d3 : ¬ y = 0 := by omega
  have p1 : (lo : Int) / (y : Int) = ((lo / y : Nat) : Int) := (Int.natCast_ediv lo y).symm
  have p2 : (lo : Int) % (y : Int) = ((lo % y : Nat) : Int) := (Int.natCast_emod lo y).symm
  have b1 : lo / y ≤ lo := Nat.div_le_self _ _
  have b2 : lo % y ≤ lo := Nat.mod_le _ _
  obtain ⟨k1, h1⟩ : ∃ k, lo / y = k := ⟨_, rfl⟩
  obtain ⟨k2, h2⟩ : ∃ k, lo % y = k := ⟨_, rfl⟩
  rw [h1] at p1 b1 ⊢
  rw [h2] at p2 b2 ⊢
  have w1 : IntKind.u64.wrap (k1 : Int) = k1 := wrapU (by omega) (by omega)
  have w2 : IntKind.u64.wrap (k2 : Int) = k2 := wrapU (by omega) (by omega)
  clear h1 h2
  go_enter Tryz.func216, Tryz.ntmps216
  go_wp2
  go_region
  go_wp2
  go_returns
  exact ⟨by simp [w1, w2, p1, p2], by go_grown⟩
set_option maxHeartbeats 16000000 in
theorem big_Div64_top (hi lo y : Nat) (hh : 0 < hi) (hl : lo < 18446744073709551616) (h0 : 9223372036854775808 ≤ y) (hy : y < 18446744073709551616) (hu : hi < y) (w : World) :
    Calls Tryz.prog 216 #[.int .u64 hi, .int .u64 lo, .int .u64 y] w fun e w' => e = .returned (.tuple #[.int .u64 ((hi * 18446744073709551616 + lo) / y : Nat), .int .u64 ((hi * 18446744073709551616 + lo) % y : Nat)]) ∧ Below w.heap.size w w' := by
  have d1 : ¬ (y : Int) = 0 := by omega
  have d2 : ¬ (y : Int) ≤ (hi : Int) := by omega
  have d3 : ¬ (hi : Int) = 0 := by omega
  have HLZ := Lib.hid (fun V => by have := big_LZ64 y V (by omega) (by omega); rw [Int.toNat_natCast, bitLen_top h0 hy] at this; exact this)
  have m1 : bits .and .u64 (y : Int) 4294967295 = ((y % 4294967296 : Nat) : Int) := mul_maskN y hy
  have m2 : (lo : Int) / 18446744073709551616 = 0 := by omega
  have m3 : bits .or .u64 (hi : Int) 0 = (hi : Int) := by
    have h := u64_or (hi : Int) 0 (by omega) (by omega) (by omega) (by omega)
    rw [h]
    simp
  have m4 : bits .and .u64 (lo : Int) 4294967295 = ((lo % 4294967296 : Nat) : Int) := mul_maskN lo hl
  have m5 : (y : Int) / 4294967296 = ((y / 4294967296 : Nat) : Int) := by omega
  have m6 : (lo : Int) / 4294967296 = ((lo / 4294967296 : Nat) : Int) := by omega
  obtain ⟨y1, hy1⟩ : ∃ k, y / 4294967296 = k := ⟨_, rfl⟩
  obtain ⟨y0, hy0⟩ : ∃ k, y % 4294967296 = k := ⟨_, rfl⟩
  obtain ⟨n1, hn1⟩ : ∃ k, lo / 4294967296 = k := ⟨_, rfl⟩
  obtain ⟨n0, hn0⟩ : ∃ k, lo % 4294967296 = k := ⟨_, rfl⟩
  have hye : y1 * 4294967296 + y0 = y := by rw [← hy1, ← hy0, Nat.mul_comm]; exact Nat.div_add_mod y 4294967296
  have hle : n1 * 4294967296 + n0 = lo := by rw [← hn1, ← hn0, Nat.mul_comm]; exact Nat.div_add_mod lo 4294967296
  have wy : IntKind.u64.wrap (y : Int) = y := wrapU (by omega) (by omega)
  have wh : IntKind.u64.wrap (hi : Int) = hi := wrapU (by omega) (by omega)
  have b1 : 2147483648 ≤ y1 ∧ y1 < 4294967296 := by omega
  have b2 : y0 < 4294967296 := by omega
  have b3 : n1 < 4294967296 ∧ n0 < 4294967296 := by omega
  rw [hy1] at m5
  rw [hy0] at m1
  rw [hn1] at m6
  rw [hn0] at m4
  clear hy1 hy0 hn1 hn0
  obtain ⟨K0, K1⟩ := Kn.start (T := 4294967296) (y1 := y1) (y0 := y0) (u := hi) (n := n1) (by omega) b2 (by omega) (by rw [hye]; exact hu) b3.1
  obtain ⟨q, hq⟩ : ∃ q, hi / y1 = q := ⟨_, rfl⟩
  obtain ⟨r, hr⟩ : ∃ r, hi % y1 = r := ⟨_, rfl⟩
  have hrl : r < y1 := by rw [← hr]; exact Nat.mod_lt _ (by omega)
  have p1 : (hi : Int) / (y1 : Int) = (q : Int) := by rw [← hq]; exact (Int.natCast_ediv hi y1).symm
  have d4 : ¬ (y1 : Int) = 0 := by omega
  have d5 : ¬ y1 = 0 := by omega
  rw [hq, hr] at K0
  rw [hq] at K1
  have hqy : q * y1 ≤ hi := by rw [K0.ur]; omega
  have p2 : IntKind.u64.wrap ((q : Int) * (y1 : Int)) = ((q * y1 : Nat) : Int) := by rw [← Int.natCast_mul]; exact wrapU (by omega) (by omega)
  have p3 : IntKind.u64.wrap ((hi : Int) - ((q * y1 : Nat) : Int)) = (r : Int) := by
    have := K0.ur
    rw [IntKind.wrap_u64]
    omega
  have hqb : q < 18446744073709551616 := by
    have : q * 1 ≤ q * y1 := Nat.mul_le_mul_left _ (by omega)
    omega
  have wq : IntKind.u64.wrap (q : Int) = q := wrapU (by omega) (by omega)
  obtain ⟨qy, hqye⟩ : ∃ k, q * y1 = k := ⟨_, rfl⟩
  rw [hqye] at p2 p3
  have HK := Lib.hid (And.intro K0 (And.intro K1 (And.intro hqb hrl)))
  have HB := Lib.hid (And.intro b1 (And.intro b2 (And.intro b3 (And.intro hye (And.intro hle (And.intro hu (And.intro hh (And.intro h0 (And.intro hy hl)))))))))
  clear hq hr K0 K1 hqy hqb hrl b1 b2 b3 hye hle hqye hu hh h0 hy hl
  go_enter Tryz.func216, Tryz.ntmps216
  go_wp2_with (go_at_call 229; refine (HLZ.out _).mono ?_; rintro e w' ⟨rfl, rfl⟩)
  clear d1 d2 d3 d4 d5 m1 m2 m3 m4 m5 m6 p1 p2 p3 wy wh wq HLZ
  go_loopw [15, 16] (fun v15 v16 wr => ∃ q r : Nat, Hid (Kn 4294967296 y1 y0 hi n1 q r ∧ (hi * 4294967296 + n1) / (y1 * 4294967296 + y0) ≤ q ∧ q < 18446744073709551616 ∧ r < 4294967296) ∧ v15 = .int .u64 q ∧ v16 = .int .u64 r ∧ w' = wr) (fun v15 v16 _ => (intOf v15).toNat)
  case atStart => exact ⟨q, r, Lib.hid ⟨HK.out.1, HK.out.2.1, HK.out.2.2.1, by have := HK.out.2.2.2; have := HB.out.1; omega⟩, rfl, rfl, rfl⟩
  case round =>
    clear HK
    obtain ⟨q, r, HK, rfl, rfl, rfl⟩ := hrel
    have hq64 := HK.out.2.2.1
    have hr32 := HK.out.2.2.2
    have hy32 := HB.out.1
    have hy0 := HB.out.2.1
    have hn := HB.out.2.2.1
    by_cases hqT : 4294967296 ≤ q
    · have f0 : decide ((4294967296 : Int) ≤ (q : Int)) = true := decide_eq_true (by omega)
      have hbig := HK.out.1.more (.inl hqT)
      obtain ⟨hq0, hK2⟩ := HK.out.1.step hbig
      have hk := HK.out.1.keep hbig
      obtain ⟨q', hq'⟩ : ∃ k, q - 1 = k := ⟨_, rfl⟩
      rw [hq'] at hK2 hk
      have g1 : IntKind.u64.wrap ((q : Int) - 1) = (q' : Int) := by rw [IntKind.wrap_u64]; omega
      obtain ⟨r', hr'⟩ : ∃ k, r + y1 = k := ⟨_, rfl⟩
      rw [hr'] at hK2
      have g2 : IntKind.u64.wrap ((r : Int) + (y1 : Int)) = (r' : Int) := by rw [IntKind.wrap_u64]; omega
      have wq' : IntKind.u64.wrap (q' : Int) = q' := wrapU (by omega) (by omega)
      have wr' : IntKind.u64.wrap (r' : Int) = r' := wrapU (by omega) (by omega)
      have HQM := Lib.hid (show q' < q by omega)
      have HK2 := Lib.hid (And.intro hK2 (And.intro hk (show q' < 18446744073709551616 by omega)))
      by_cases hw : 4294967296 ≤ r'
      · have e1 : decide ((4294967296 : Int) ≤ (r' : Int)) = true := decide_eq_true (by omega)
        have HD := Lib.hid (HK2.out.1.done HK2.out.2.1 (HK2.out.1.wide hw).2)
        have HQ := Lib.hid (HK2.out.1.wide hw).1
        clear hq64 hr32 hy32 hy0 hn hbig hq0 hK2 hk hr' hq' hqT
        go_upto_region 21 with fail
        have hd := HD.out
        have hq32 := HQ.out
        rw [HB.out.2.2.2.1] at hd
        have hm := Nat.div_add_mod (hi * 4294967296 + n1) y
        have hy63 := HB.out.2.2.2.2.2.2.2.1
        have hyb := HB.out.2.2.2.2.2.2.2.2.1
        have hml := Nat.mod_lt (hi * 4294967296 + n1) (show y > 0 by omega)
        have HQ1 := Lib.hid hd
        rw [← hd] at hm
        obtain ⟨U, hU⟩ : ∃ k, (hi * 4294967296 + n1) % y = k := ⟨_, rfl⟩
        have HU := Lib.hid hU
        rw [hU] at hm hml
        obtain ⟨P0, hP0⟩ : ∃ k, y * q' = k := ⟨_, rfl⟩
        rw [hP0] at hm
        obtain ⟨A1, a1⟩ : ∃ A : Int, IntKind.u64.wrap ((hi : Int) * 4294967296) = A := ⟨_, rfl⟩
        obtain ⟨A2, a2⟩ : ∃ A : Int, IntKind.u64.wrap (A1 + (n1 : Int)) = A := ⟨_, rfl⟩
        obtain ⟨A3, a3⟩ : ∃ A : Int, IntKind.u64.wrap ((q' : Int) * (y : Int)) = A := ⟨_, rfl⟩
        have hp : (q' : Int) * (y : Int) = (P0 : Int) := by rw [← Int.natCast_mul, Nat.mul_comm, hP0]
        have a4 : IntKind.u64.wrap (A2 - A3) = (U : Int) := by
          rw [hp] at a3
          rw [IntKind.wrap_u64] at a1 a2 a3 ⊢
          omega
        have b1 := HB.out.1
        have b2 := HB.out.2.1
        obtain ⟨K0, K1⟩ := Kn.start (T := 4294967296) (y1 := y1) (y0 := y0) (u := U) (n := n0) (by omega) b2 (by omega) (by rw [HB.out.2.2.2.1]; exact hml) HB.out.2.2.1.2
        obtain ⟨p, hq⟩ : ∃ q, U / y1 = q := ⟨_, rfl⟩
        obtain ⟨s, hr⟩ : ∃ r, U % y1 = r := ⟨_, rfl⟩
        have hrl : s < y1 := by rw [← hr]; exact Nat.mod_lt _ (by omega)
        have p1 : (U : Int) / (y1 : Int) = (p : Int) := by rw [← hq]; exact (Int.natCast_ediv U y1).symm
        have d4 : ¬ (y1 : Int) = 0 := by omega
        have d5 : ¬ y1 = 0 := by omega
        rw [hq, hr] at K0
        rw [hq] at K1
        have hpy : p * y1 ≤ U := by rw [K0.ur]; omega
        have p2 : IntKind.u64.wrap ((p : Int) * (y1 : Int)) = ((p * y1 : Nat) : Int) := by rw [← Int.natCast_mul]; exact wrapU (by omega) (by omega)
        have p3 : IntKind.u64.wrap ((U : Int) - ((p * y1 : Nat) : Int)) = (s : Int) := by
          have := K0.ur
          rw [IntKind.wrap_u64]
          omega
        have hqb : p < 18446744073709551616 := by
          have : p * 1 ≤ p * y1 := Nat.mul_le_mul_left _ (by omega)
          omega
        have wq : IntKind.u64.wrap (p : Int) = p := wrapU (by omega) (by omega)
        have wu : IntKind.u64.wrap (U : Int) = U := wrapU (by omega) (by omega)
        obtain ⟨py, hpye⟩ : ∃ k, p * y1 = k := ⟨_, rfl⟩
        rw [hpye] at p2 p3
        clear HK
        have HK := Lib.hid (And.intro K0 (And.intro K1 (And.intro hqb hrl)))
        obtain ⟨qf, hqf⟩ : ∃ k, q' = k := ⟨_, rfl⟩
        rw [hqf] at HQ1 hq32 a3
        clear HQ HD
        have HQ2 := Lib.hid hq32
        clear hd hq32 hm hy63 hyb hml hU hP0 hp b1 b2 K0 K1 hq hr hrl hpy hqb hpye
        go_wp2
        clear a1 a2 a3 a4 p1 p2 p3 d4 d5 wq wu
        go_loopw [16, 18] (fun v16 v18 wr => ∃ q r : Nat, Hid (Kn 4294967296 y1 y0 U n0 q r ∧ (U * 4294967296 + n0) / (y1 * 4294967296 + y0) ≤ q ∧ q < 18446744073709551616 ∧ r < 4294967296) ∧ v18 = .int .u64 q ∧ v16 = .int .u64 r ∧ w' = wr) (fun v16 v18 _ => (intOf v18).toNat)
        case atStart => exact ⟨p, s, Lib.hid ⟨HK.out.1, HK.out.2.1, HK.out.2.2.1, by have := HK.out.2.2.2; have := HB.out.1; omega⟩, rfl, rfl, rfl⟩
        case round =>
          clear HK
          obtain ⟨q, r, HK, rfl, rfl, rfl⟩ := hrel
          have hq64 := HK.out.2.2.1
          have hr32 := HK.out.2.2.2
          have hy32 := HB.out.1
          have hy0 := HB.out.2.1
          have hn := HB.out.2.2.1
          by_cases hqT : 4294967296 ≤ q
          · have f0 : decide ((4294967296 : Int) ≤ (q : Int)) = true := decide_eq_true (by omega)
            have hbig := HK.out.1.more (.inl hqT)
            obtain ⟨hq0, hK2⟩ := HK.out.1.step hbig
            have hk := HK.out.1.keep hbig
            obtain ⟨q', hq'⟩ : ∃ k, q - 1 = k := ⟨_, rfl⟩
            rw [hq'] at hK2 hk
            have g1 : IntKind.u64.wrap ((q : Int) - 1) = (q' : Int) := by rw [IntKind.wrap_u64]; omega
            obtain ⟨r', hr'⟩ : ∃ k, r + y1 = k := ⟨_, rfl⟩
            rw [hr'] at hK2
            have g2 : IntKind.u64.wrap ((r : Int) + (y1 : Int)) = (r' : Int) := by rw [IntKind.wrap_u64]; omega
            have wq' : IntKind.u64.wrap (q' : Int) = q' := wrapU (by omega) (by omega)
            have wr' : IntKind.u64.wrap (r' : Int) = r' := wrapU (by omega) (by omega)
            have HQM := Lib.hid (show q' < q by omega)
            have HK2 := Lib.hid (And.intro hK2 (And.intro hk (show q' < 18446744073709551616 by omega)))
            by_cases hw : 4294967296 ≤ r'
            · have e1 : decide ((4294967296 : Int) ≤ (r' : Int)) = true := decide_eq_true (by omega)
              have HD := Lib.hid (HK2.out.1.done HK2.out.2.1 (HK2.out.1.wide hw).2)
              have HQ := Lib.hid (HK2.out.1.wide hw).1
              clear hq64 hr32 hy32 hy0 hn hbig hq0 hK2 hk hr' hq' hqT
              have hU := HU.out
              have hd := HD.out
              have hq32 := HQ.out
              have hqq := HQ1.out
              have hqf32 := HQ2.out
              rw [HB.out.2.2.2.1] at hd
              have hm := Nat.div_add_mod (U * 4294967296 + n0) y
              have hml := Nat.mod_lt (U * 4294967296 + n0) (show y > 0 by have := HB.out.2.2.2.2.2.2.2.1; omega)
              rw [← hd] at hm
              obtain ⟨Z, hZ⟩ : ∃ k, (U * 4294967296 + n0) % y = k := ⟨_, rfl⟩
              obtain ⟨P0, hP0⟩ : ∃ k, y * q' = k := ⟨_, rfl⟩
              rw [hZ] at hm hml
              rw [hP0] at hm
              have hyb := HB.out.2.2.2.2.2.2.2.2.1
              have c1 : IntKind.u64.wrap ((qf : Int) * 4294967296) = ((qf * 4294967296 : Nat) : Int) := by rw [IntKind.wrap_u64]; omega
              obtain ⟨Q1, hQ1⟩ : ∃ k, qf * 4294967296 = k := ⟨_, rfl⟩
              rw [hQ1] at c1
              have c2 : IntKind.u64.wrap ((Q1 : Int) + (q' : Int)) = ((Q1 + q' : Nat) : Int) := by rw [IntKind.wrap_u64]; omega
              obtain ⟨A1, a1⟩ : ∃ A : Int, IntKind.u64.wrap ((U : Int) * 4294967296) = A := ⟨_, rfl⟩
              obtain ⟨A2, a2⟩ : ∃ A : Int, IntKind.u64.wrap (A1 + (n0 : Int)) = A := ⟨_, rfl⟩
              obtain ⟨A3, a3⟩ : ∃ A : Int, IntKind.u64.wrap ((q' : Int) * (y : Int)) = A := ⟨_, rfl⟩
              have hp : (q' : Int) * (y : Int) = (P0 : Int) := by rw [← Int.natCast_mul, Nat.mul_comm, hP0]
              have a4 : IntKind.u64.wrap (A2 - A3) = (Z : Int) := by
                rw [hp] at a3
                rw [IntKind.wrap_u64] at a1 a2 a3 ⊢
                omega
              have wz : IntKind.u64.wrap (Z : Int) = Z := wrapU (by omega) (by omega)
              have HF := Lib.hid (show (hi * 18446744073709551616 + lo) / y = Q1 + q' ∧ (hi * 18446744073709551616 + lo) % y = Z from by
                have h2 := two_digits (T := 4294967296) (y := y) (H := hi) (L0 := n0) (L1 := n1) (by omega) (by omega) HB.out.2.2.1.2
                rw [hb_split (hi := hi) HB.out.2.2.2.2.1, h2.1, h2.2, ← hqq, hU, ← hd, hZ, hQ1]
                exact ⟨rfl, rfl⟩)
              clear hU hd hq32 hqq hqf32 hm hml hZ hP0 hyb hQ1 hp HB HU HD HQ HQ1 HQ2 HK
              go_wp2
              go_returns
              rw [HF.out.1, HF.out.2]
              exact ⟨rfl, Below.refl _ _⟩
            · have e1 : decide ((4294967296 : Int) ≤ (r' : Int)) = false := decide_eq_false (by omega)
              have HW := Lib.hid hw
              clear hq64 hr32 hy32 hy0 hn hbig hq0 hK2 hk hr' hq' hqT hw
              go_wp2
              go_roundw
              case rel => exact ⟨q', r', Lib.hid ⟨HK2.out.1, HK2.out.2.1, HK2.out.2.2, by have := HW.out; omega⟩, by first | rfl | trivial | simp, by first | rfl | trivial | simp, by first | rfl | trivial | simp⟩
              case measure =>
                have := HQM.out
                simp [intOf, wq']
                omega
          · have hqT' : q < 4294967296 := by omega
            have f0 : decide ((4294967296 : Int) ≤ (q : Int)) = false := decide_eq_false (by omega)
            have hp1 : q * y0 ≤ 4294967295 * 4294967295 := Nat.mul_le_mul (by omega) (by omega)
            obtain ⟨c1, hc1⟩ : ∃ k, q * y0 = k := ⟨_, rfl⟩
            have f1 : IntKind.u64.wrap ((q : Int) * (y0 : Int)) = (c1 : Int) := by rw [← Int.natCast_mul, hc1]; rw [hc1] at hp1; exact wrapU (by omega) (by omega)
            obtain ⟨c2, hc2⟩ : ∃ k, 4294967296 * r = k := ⟨_, rfl⟩
            have f2 : IntKind.u64.wrap ((4294967296 : Int) * (r : Int)) = (c2 : Int) := by rw [IntKind.wrap_u64]; omega
            obtain ⟨c3, hc3⟩ : ∃ k, c2 + n0 = k := ⟨_, rfl⟩
            have f3 : IntKind.u64.wrap ((c2 : Int) + (n0 : Int)) = (c3 : Int) := by rw [IntKind.wrap_u64]; omega
            by_cases hcc : c3 < c1
            · have f4 : decide ((c3 : Int) < (c1 : Int)) = true := decide_eq_true (by omega)
              have hbig := HK.out.1.more (.inr (by omega))
              clear hc1 hc2 hc3 hp1 hqT hqT'
              obtain ⟨hq0, hK2⟩ := HK.out.1.step hbig
              have hk := HK.out.1.keep hbig
              obtain ⟨q', hq'⟩ : ∃ k, q - 1 = k := ⟨_, rfl⟩
              rw [hq'] at hK2 hk
              have g1 : IntKind.u64.wrap ((q : Int) - 1) = (q' : Int) := by rw [IntKind.wrap_u64]; omega
              obtain ⟨r', hr'⟩ : ∃ k, r + y1 = k := ⟨_, rfl⟩
              rw [hr'] at hK2
              have g2 : IntKind.u64.wrap ((r : Int) + (y1 : Int)) = (r' : Int) := by rw [IntKind.wrap_u64]; omega
              have wq' : IntKind.u64.wrap (q' : Int) = q' := wrapU (by omega) (by omega)
              have wr' : IntKind.u64.wrap (r' : Int) = r' := wrapU (by omega) (by omega)
              have HQM := Lib.hid (show q' < q by omega)
              have HK2 := Lib.hid (And.intro hK2 (And.intro hk (show q' < 18446744073709551616 by omega)))
              by_cases hw : 4294967296 ≤ r'
              · have e1 : decide ((4294967296 : Int) ≤ (r' : Int)) = true := decide_eq_true (by omega)
                have HD := Lib.hid (HK2.out.1.done HK2.out.2.1 (HK2.out.1.wide hw).2)
                have HQ := Lib.hid (HK2.out.1.wide hw).1
                clear hq64 hr32 hy32 hy0 hn hbig hq0 hK2 hk hr' hq'
                have hU := HU.out
                have hd := HD.out
                have hq32 := HQ.out
                have hqq := HQ1.out
                have hqf32 := HQ2.out
                rw [HB.out.2.2.2.1] at hd
                have hm := Nat.div_add_mod (U * 4294967296 + n0) y
                have hml := Nat.mod_lt (U * 4294967296 + n0) (show y > 0 by have := HB.out.2.2.2.2.2.2.2.1; omega)
                rw [← hd] at hm
                obtain ⟨Z, hZ⟩ : ∃ k, (U * 4294967296 + n0) % y = k := ⟨_, rfl⟩
                obtain ⟨P0, hP0⟩ : ∃ k, y * q' = k := ⟨_, rfl⟩
                rw [hZ] at hm hml
                rw [hP0] at hm
                have hyb := HB.out.2.2.2.2.2.2.2.2.1
                have c1 : IntKind.u64.wrap ((qf : Int) * 4294967296) = ((qf * 4294967296 : Nat) : Int) := by rw [IntKind.wrap_u64]; omega
                obtain ⟨Q1, hQ1⟩ : ∃ k, qf * 4294967296 = k := ⟨_, rfl⟩
                rw [hQ1] at c1
                have c2 : IntKind.u64.wrap ((Q1 : Int) + (q' : Int)) = ((Q1 + q' : Nat) : Int) := by rw [IntKind.wrap_u64]; omega
                obtain ⟨A1, a1⟩ : ∃ A : Int, IntKind.u64.wrap ((U : Int) * 4294967296) = A := ⟨_, rfl⟩
                obtain ⟨A2, a2⟩ : ∃ A : Int, IntKind.u64.wrap (A1 + (n0 : Int)) = A := ⟨_, rfl⟩
                obtain ⟨A3, a3⟩ : ∃ A : Int, IntKind.u64.wrap ((q' : Int) * (y : Int)) = A := ⟨_, rfl⟩
                have hp : (q' : Int) * (y : Int) = (P0 : Int) := by rw [← Int.natCast_mul, Nat.mul_comm, hP0]
                have a4 : IntKind.u64.wrap (A2 - A3) = (Z : Int) := by
                  rw [hp] at a3
                  rw [IntKind.wrap_u64] at a1 a2 a3 ⊢
                  omega
                have wz : IntKind.u64.wrap (Z : Int) = Z := wrapU (by omega) (by omega)
                have HF := Lib.hid (show (hi * 18446744073709551616 + lo) / y = Q1 + q' ∧ (hi * 18446744073709551616 + lo) % y = Z from by
                  have h2 := two_digits (T := 4294967296) (y := y) (H := hi) (L0 := n0) (L1 := n1) (by omega) (by omega) HB.out.2.2.1.2
                  rw [hb_split (hi := hi) HB.out.2.2.2.2.1, h2.1, h2.2, ← hqq, hU, ← hd, hZ, hQ1]
                  exact ⟨rfl, rfl⟩)
                clear hU hd hq32 hqq hqf32 hm hml hZ hP0 hyb hQ1 hp HB HU HD HQ HQ1 HQ2 HK
                go_wp2
                go_returns
                rw [HF.out.1, HF.out.2]
                exact ⟨rfl, Below.refl _ _⟩
              · have e1 : decide ((4294967296 : Int) ≤ (r' : Int)) = false := decide_eq_false (by omega)
                have HW := Lib.hid hw
                clear hq64 hr32 hy32 hy0 hn hbig hq0 hK2 hk hr' hq' hw
                go_wp2
                go_roundw
                case rel => exact ⟨q', r', Lib.hid ⟨HK2.out.1, HK2.out.2.1, HK2.out.2.2, by have := HW.out; omega⟩, by first | rfl | trivial | simp, by first | rfl | trivial | simp, by first | rfl | trivial | simp⟩
                case measure =>
                  have := HQM.out
                  simp [intOf, wq']
                  omega
            · have f4 : decide ((c3 : Int) < (c1 : Int)) = false := decide_eq_false (by omega)
              have HD := Lib.hid (HK.out.1.done HK.out.2.1 (by omega))
              have HQ := Lib.hid hqT'
              clear hc1 hc2 hc3 hp1 hqT hqT' hq64 hr32 hy32 hy0 hn
              have hU := HU.out
              have hd := HD.out
              have hq32 := HQ.out
              have hqq := HQ1.out
              have hqf32 := HQ2.out
              rw [HB.out.2.2.2.1] at hd
              have hm := Nat.div_add_mod (U * 4294967296 + n0) y
              have hml := Nat.mod_lt (U * 4294967296 + n0) (show y > 0 by have := HB.out.2.2.2.2.2.2.2.1; omega)
              rw [← hd] at hm
              obtain ⟨Z, hZ⟩ : ∃ k, (U * 4294967296 + n0) % y = k := ⟨_, rfl⟩
              obtain ⟨P0, hP0⟩ : ∃ k, y * q = k := ⟨_, rfl⟩
              rw [hZ] at hm hml
              rw [hP0] at hm
              have hyb := HB.out.2.2.2.2.2.2.2.2.1
              have c1 : IntKind.u64.wrap ((qf : Int) * 4294967296) = ((qf * 4294967296 : Nat) : Int) := by rw [IntKind.wrap_u64]; omega
              obtain ⟨Q1, hQ1⟩ : ∃ k, qf * 4294967296 = k := ⟨_, rfl⟩
              rw [hQ1] at c1
              have c2 : IntKind.u64.wrap ((Q1 : Int) + (q : Int)) = ((Q1 + q : Nat) : Int) := by rw [IntKind.wrap_u64]; omega
              obtain ⟨A1, a1⟩ : ∃ A : Int, IntKind.u64.wrap ((U : Int) * 4294967296) = A := ⟨_, rfl⟩
              obtain ⟨A2, a2⟩ : ∃ A : Int, IntKind.u64.wrap (A1 + (n0 : Int)) = A := ⟨_, rfl⟩
              obtain ⟨A3, a3⟩ : ∃ A : Int, IntKind.u64.wrap ((q : Int) * (y : Int)) = A := ⟨_, rfl⟩
              have hp : (q : Int) * (y : Int) = (P0 : Int) := by rw [← Int.natCast_mul, Nat.mul_comm, hP0]
              have a4 : IntKind.u64.wrap (A2 - A3) = (Z : Int) := by
                rw [hp] at a3
                rw [IntKind.wrap_u64] at a1 a2 a3 ⊢
                omega
              have wz : IntKind.u64.wrap (Z : Int) = Z := wrapU (by omega) (by omega)
              have HF := Lib.hid (show (hi * 18446744073709551616 + lo) / y = Q1 + q ∧ (hi * 18446744073709551616 + lo) % y = Z from by
                have h2 := two_digits (T := 4294967296) (y := y) (H := hi) (L0 := n0) (L1 := n1) (by omega) (by omega) HB.out.2.2.1.2
                rw [hb_split (hi := hi) HB.out.2.2.2.2.1, h2.1, h2.2, ← hqq, hU, ← hd, hZ, hQ1]
                exact ⟨rfl, rfl⟩)
              clear hU hd hq32 hqq hqf32 hm hml hZ hP0 hyb hQ1 hp HB HU HD HQ HQ1 HQ2 HK
              go_wp2
              go_returns
              rw [HF.out.1, HF.out.2]
              exact ⟨rfl, Below.refl _ _⟩
      · have e1 : decide ((4294967296 : Int) ≤ (r' : Int)) = false := decide_eq_false (by omega)
        have HW := Lib.hid hw
        clear hq64 hr32 hy32 hy0 hn hbig hq0 hK2 hk hr' hq' hqT hw
        go_wp2
        go_roundw
        case rel => exact ⟨q', r', Lib.hid ⟨HK2.out.1, HK2.out.2.1, HK2.out.2.2, by have := HW.out; omega⟩, by first | rfl | trivial | simp, by first | rfl | trivial | simp, by first | rfl | trivial | simp⟩
        case measure =>
          have := HQM.out
          simp [intOf, wq']
          omega
    · have hqT' : q < 4294967296 := by omega
      have f0 : decide ((4294967296 : Int) ≤ (q : Int)) = false := decide_eq_false (by omega)
      have hp1 : q * y0 ≤ 4294967295 * 4294967295 := Nat.mul_le_mul (by omega) (by omega)
      obtain ⟨c1, hc1⟩ : ∃ k, q * y0 = k := ⟨_, rfl⟩
      have f1 : IntKind.u64.wrap ((q : Int) * (y0 : Int)) = (c1 : Int) := by rw [← Int.natCast_mul, hc1]; rw [hc1] at hp1; exact wrapU (by omega) (by omega)
      obtain ⟨c2, hc2⟩ : ∃ k, 4294967296 * r = k := ⟨_, rfl⟩
      have f2 : IntKind.u64.wrap ((4294967296 : Int) * (r : Int)) = (c2 : Int) := by rw [IntKind.wrap_u64]; omega
      obtain ⟨c3, hc3⟩ : ∃ k, c2 + n1 = k := ⟨_, rfl⟩
      have f3 : IntKind.u64.wrap ((c2 : Int) + (n1 : Int)) = (c3 : Int) := by rw [IntKind.wrap_u64]; omega
      by_cases hcc : c3 < c1
      · have f4 : decide ((c3 : Int) < (c1 : Int)) = true := decide_eq_true (by omega)
        have hbig := HK.out.1.more (.inr (by omega))
        clear hc1 hc2 hc3 hp1 hqT hqT'
        obtain ⟨hq0, hK2⟩ := HK.out.1.step hbig
        have hk := HK.out.1.keep hbig
        obtain ⟨q', hq'⟩ : ∃ k, q - 1 = k := ⟨_, rfl⟩
        rw [hq'] at hK2 hk
        have g1 : IntKind.u64.wrap ((q : Int) - 1) = (q' : Int) := by rw [IntKind.wrap_u64]; omega
        obtain ⟨r', hr'⟩ : ∃ k, r + y1 = k := ⟨_, rfl⟩
        rw [hr'] at hK2
        have g2 : IntKind.u64.wrap ((r : Int) + (y1 : Int)) = (r' : Int) := by rw [IntKind.wrap_u64]; omega
        have wq' : IntKind.u64.wrap (q' : Int) = q' := wrapU (by omega) (by omega)
        have wr' : IntKind.u64.wrap (r' : Int) = r' := wrapU (by omega) (by omega)
        have HQM := Lib.hid (show q' < q by omega)
        have HK2 := Lib.hid (And.intro hK2 (And.intro hk (show q' < 18446744073709551616 by omega)))
        by_cases hw : 4294967296 ≤ r'
        · have e1 : decide ((4294967296 : Int) ≤ (r' : Int)) = true := decide_eq_true (by omega)
          have HD := Lib.hid (HK2.out.1.done HK2.out.2.1 (HK2.out.1.wide hw).2)
          have HQ := Lib.hid (HK2.out.1.wide hw).1
          clear hq64 hr32 hy32 hy0 hn hbig hq0 hK2 hk hr' hq'
          go_upto_region 21 with fail
          have hd := HD.out
          have hq32 := HQ.out
          rw [HB.out.2.2.2.1] at hd
          have hm := Nat.div_add_mod (hi * 4294967296 + n1) y
          have hy63 := HB.out.2.2.2.2.2.2.2.1
          have hyb := HB.out.2.2.2.2.2.2.2.2.1
          have hml := Nat.mod_lt (hi * 4294967296 + n1) (show y > 0 by omega)
          have HQ1 := Lib.hid hd
          rw [← hd] at hm
          obtain ⟨U, hU⟩ : ∃ k, (hi * 4294967296 + n1) % y = k := ⟨_, rfl⟩
          have HU := Lib.hid hU
          rw [hU] at hm hml
          obtain ⟨P0, hP0⟩ : ∃ k, y * q' = k := ⟨_, rfl⟩
          rw [hP0] at hm
          obtain ⟨A1, a1⟩ : ∃ A : Int, IntKind.u64.wrap ((hi : Int) * 4294967296) = A := ⟨_, rfl⟩
          obtain ⟨A2, a2⟩ : ∃ A : Int, IntKind.u64.wrap (A1 + (n1 : Int)) = A := ⟨_, rfl⟩
          obtain ⟨A3, a3⟩ : ∃ A : Int, IntKind.u64.wrap ((q' : Int) * (y : Int)) = A := ⟨_, rfl⟩
          have hp : (q' : Int) * (y : Int) = (P0 : Int) := by rw [← Int.natCast_mul, Nat.mul_comm, hP0]
          have a4 : IntKind.u64.wrap (A2 - A3) = (U : Int) := by
            rw [hp] at a3
            rw [IntKind.wrap_u64] at a1 a2 a3 ⊢
            omega
          have b1 := HB.out.1
          have b2 := HB.out.2.1
          obtain ⟨K0, K1⟩ := Kn.start (T := 4294967296) (y1 := y1) (y0 := y0) (u := U) (n := n0) (by omega) b2 (by omega) (by rw [HB.out.2.2.2.1]; exact hml) HB.out.2.2.1.2
          obtain ⟨p, hq⟩ : ∃ q, U / y1 = q := ⟨_, rfl⟩
          obtain ⟨s, hr⟩ : ∃ r, U % y1 = r := ⟨_, rfl⟩
          have hrl : s < y1 := by rw [← hr]; exact Nat.mod_lt _ (by omega)
          have p1 : (U : Int) / (y1 : Int) = (p : Int) := by rw [← hq]; exact (Int.natCast_ediv U y1).symm
          have d4 : ¬ (y1 : Int) = 0 := by omega
          have d5 : ¬ y1 = 0 := by omega
          rw [hq, hr] at K0
          rw [hq] at K1
          have hpy : p * y1 ≤ U := by rw [K0.ur]; omega
          have p2 : IntKind.u64.wrap ((p : Int) * (y1 : Int)) = ((p * y1 : Nat) : Int) := by rw [← Int.natCast_mul]; exact wrapU (by omega) (by omega)
          have p3 : IntKind.u64.wrap ((U : Int) - ((p * y1 : Nat) : Int)) = (s : Int) := by
            have := K0.ur
            rw [IntKind.wrap_u64]
            omega
          have hqb : p < 18446744073709551616 := by
            have : p * 1 ≤ p * y1 := Nat.mul_le_mul_left _ (by omega)
            omega
          have wq : IntKind.u64.wrap (p : Int) = p := wrapU (by omega) (by omega)
          have wu : IntKind.u64.wrap (U : Int) = U := wrapU (by omega) (by omega)
          obtain ⟨py, hpye⟩ : ∃ k, p * y1 = k := ⟨_, rfl⟩
          rw [hpye] at p2 p3
          clear HK
          have HK := Lib.hid (And.intro K0 (And.intro K1 (And.intro hqb hrl)))
          obtain ⟨qf, hqf⟩ : ∃ k, q' = k := ⟨_, rfl⟩
          rw [hqf] at HQ1 hq32 a3
          clear HQ HD
          have HQ2 := Lib.hid hq32
          clear hd hq32 hm hy63 hyb hml hU hP0 hp b1 b2 K0 K1 hq hr hrl hpy hqb hpye
          go_wp2
          clear a1 a2 a3 a4 p1 p2 p3 d4 d5 wq wu
          go_loopw [16, 18] (fun v16 v18 wr => ∃ q r : Nat, Hid (Kn 4294967296 y1 y0 U n0 q r ∧ (U * 4294967296 + n0) / (y1 * 4294967296 + y0) ≤ q ∧ q < 18446744073709551616 ∧ r < 4294967296) ∧ v18 = .int .u64 q ∧ v16 = .int .u64 r ∧ w' = wr) (fun v16 v18 _ => (intOf v18).toNat)
          case atStart => exact ⟨p, s, Lib.hid ⟨HK.out.1, HK.out.2.1, HK.out.2.2.1, by have := HK.out.2.2.2; have := HB.out.1; omega⟩, rfl, rfl, rfl⟩
          case round =>
            clear HK
            obtain ⟨q, r, HK, rfl, rfl, rfl⟩ := hrel
            have hq64 := HK.out.2.2.1
            have hr32 := HK.out.2.2.2
            have hy32 := HB.out.1
            have hy0 := HB.out.2.1
            have hn := HB.out.2.2.1
            by_cases hqT : 4294967296 ≤ q
            · have f0 : decide ((4294967296 : Int) ≤ (q : Int)) = true := decide_eq_true (by omega)
              have hbig := HK.out.1.more (.inl hqT)
              obtain ⟨hq0, hK2⟩ := HK.out.1.step hbig
              have hk := HK.out.1.keep hbig
              obtain ⟨q', hq'⟩ : ∃ k, q - 1 = k := ⟨_, rfl⟩
              rw [hq'] at hK2 hk
              have g1 : IntKind.u64.wrap ((q : Int) - 1) = (q' : Int) := by rw [IntKind.wrap_u64]; omega
              obtain ⟨r', hr'⟩ : ∃ k, r + y1 = k := ⟨_, rfl⟩
              rw [hr'] at hK2
              have g2 : IntKind.u64.wrap ((r : Int) + (y1 : Int)) = (r' : Int) := by rw [IntKind.wrap_u64]; omega
              have wq' : IntKind.u64.wrap (q' : Int) = q' := wrapU (by omega) (by omega)
              have wr' : IntKind.u64.wrap (r' : Int) = r' := wrapU (by omega) (by omega)
              have HQM := Lib.hid (show q' < q by omega)
              have HK2 := Lib.hid (And.intro hK2 (And.intro hk (show q' < 18446744073709551616 by omega)))
              by_cases hw : 4294967296 ≤ r'
              · have e1 : decide ((4294967296 : Int) ≤ (r' : Int)) = true := decide_eq_true (by omega)
                have HD := Lib.hid (HK2.out.1.done HK2.out.2.1 (HK2.out.1.wide hw).2)
                have HQ := Lib.hid (HK2.out.1.wide hw).1
                clear hq64 hr32 hy32 hy0 hn hbig hq0 hK2 hk hr' hq' hqT
                have hU := HU.out
                have hd := HD.out
                have hq32 := HQ.out
                have hqq := HQ1.out
                have hqf32 := HQ2.out
                rw [HB.out.2.2.2.1] at hd
                have hm := Nat.div_add_mod (U * 4294967296 + n0) y
                have hml := Nat.mod_lt (U * 4294967296 + n0) (show y > 0 by have := HB.out.2.2.2.2.2.2.2.1; omega)
                rw [← hd] at hm
                obtain ⟨Z, hZ⟩ : ∃ k, (U * 4294967296 + n0) % y = k := ⟨_, rfl⟩
                obtain ⟨P0, hP0⟩ : ∃ k, y * q' = k := ⟨_, rfl⟩
                rw [hZ] at hm hml
                rw [hP0] at hm
                have hyb := HB.out.2.2.2.2.2.2.2.2.1
                have c1 : IntKind.u64.wrap ((qf : Int) * 4294967296) = ((qf * 4294967296 : Nat) : Int) := by rw [IntKind.wrap_u64]; omega
                obtain ⟨Q1, hQ1⟩ : ∃ k, qf * 4294967296 = k := ⟨_, rfl⟩
                rw [hQ1] at c1
                have c2 : IntKind.u64.wrap ((Q1 : Int) + (q' : Int)) = ((Q1 + q' : Nat) : Int) := by rw [IntKind.wrap_u64]; omega
                obtain ⟨A1, a1⟩ : ∃ A : Int, IntKind.u64.wrap ((U : Int) * 4294967296) = A := ⟨_, rfl⟩
                obtain ⟨A2, a2⟩ : ∃ A : Int, IntKind.u64.wrap (A1 + (n0 : Int)) = A := ⟨_, rfl⟩
                obtain ⟨A3, a3⟩ : ∃ A : Int, IntKind.u64.wrap ((q' : Int) * (y : Int)) = A := ⟨_, rfl⟩
                have hp : (q' : Int) * (y : Int) = (P0 : Int) := by rw [← Int.natCast_mul, Nat.mul_comm, hP0]
                have a4 : IntKind.u64.wrap (A2 - A3) = (Z : Int) := by
                  rw [hp] at a3
                  rw [IntKind.wrap_u64] at a1 a2 a3 ⊢
                  omega
                have wz : IntKind.u64.wrap (Z : Int) = Z := wrapU (by omega) (by omega)
                have HF := Lib.hid (show (hi * 18446744073709551616 + lo) / y = Q1 + q' ∧ (hi * 18446744073709551616 + lo) % y = Z from by
                  have h2 := two_digits (T := 4294967296) (y := y) (H := hi) (L0 := n0) (L1 := n1) (by omega) (by omega) HB.out.2.2.1.2
                  rw [hb_split (hi := hi) HB.out.2.2.2.2.1, h2.1, h2.2, ← hqq, hU, ← hd, hZ, hQ1]
                  exact ⟨rfl, rfl⟩)
                clear hU hd hq32 hqq hqf32 hm hml hZ hP0 hyb hQ1 hp HB HU HD HQ HQ1 HQ2 HK
                go_wp2
                go_returns
                rw [HF.out.1, HF.out.2]
                exact ⟨rfl, Below.refl _ _⟩
              · have e1 : decide ((4294967296 : Int) ≤ (r' : Int)) = false := decide_eq_false (by omega)
                have HW := Lib.hid hw
                clear hq64 hr32 hy32 hy0 hn hbig hq0 hK2 hk hr' hq' hqT hw
                go_wp2
                go_roundw
                case rel => exact ⟨q', r', Lib.hid ⟨HK2.out.1, HK2.out.2.1, HK2.out.2.2, by have := HW.out; omega⟩, by first | rfl | trivial | simp, by first | rfl | trivial | simp, by first | rfl | trivial | simp⟩
                case measure =>
                  have := HQM.out
                  simp [intOf, wq']
                  omega
            · have hqT' : q < 4294967296 := by omega
              have f0 : decide ((4294967296 : Int) ≤ (q : Int)) = false := decide_eq_false (by omega)
              have hp1 : q * y0 ≤ 4294967295 * 4294967295 := Nat.mul_le_mul (by omega) (by omega)
              obtain ⟨c1, hc1⟩ : ∃ k, q * y0 = k := ⟨_, rfl⟩
              have f1 : IntKind.u64.wrap ((q : Int) * (y0 : Int)) = (c1 : Int) := by rw [← Int.natCast_mul, hc1]; rw [hc1] at hp1; exact wrapU (by omega) (by omega)
              obtain ⟨c2, hc2⟩ : ∃ k, 4294967296 * r = k := ⟨_, rfl⟩
              have f2 : IntKind.u64.wrap ((4294967296 : Int) * (r : Int)) = (c2 : Int) := by rw [IntKind.wrap_u64]; omega
              obtain ⟨c3, hc3⟩ : ∃ k, c2 + n0 = k := ⟨_, rfl⟩
              have f3 : IntKind.u64.wrap ((c2 : Int) + (n0 : Int)) = (c3 : Int) := by rw [IntKind.wrap_u64]; omega
              by_cases hcc : c3 < c1
              · have f4 : decide ((c3 : Int) < (c1 : Int)) = true := decide_eq_true (by omega)
                have hbig := HK.out.1.more (.inr (by omega))
                clear hc1 hc2 hc3 hp1 hqT hqT'
                obtain ⟨hq0, hK2⟩ := HK.out.1.step hbig
                have hk := HK.out.1.keep hbig
                obtain ⟨q', hq'⟩ : ∃ k, q - 1 = k := ⟨_, rfl⟩
                rw [hq'] at hK2 hk
                have g1 : IntKind.u64.wrap ((q : Int) - 1) = (q' : Int) := by rw [IntKind.wrap_u64]; omega
                obtain ⟨r', hr'⟩ : ∃ k, r + y1 = k := ⟨_, rfl⟩
                rw [hr'] at hK2
                have g2 : IntKind.u64.wrap ((r : Int) + (y1 : Int)) = (r' : Int) := by rw [IntKind.wrap_u64]; omega
                have wq' : IntKind.u64.wrap (q' : Int) = q' := wrapU (by omega) (by omega)
                have wr' : IntKind.u64.wrap (r' : Int) = r' := wrapU (by omega) (by omega)
                have HQM := Lib.hid (show q' < q by omega)
                have HK2 := Lib.hid (And.intro hK2 (And.intro hk (show q' < 18446744073709551616 by omega)))
                by_cases hw : 4294967296 ≤ r'
                · have e1 : decide ((4294967296 : Int) ≤ (r' : Int)) = true := decide_eq_true (by omega)
                  have HD := Lib.hid (HK2.out.1.done HK2.out.2.1 (HK2.out.1.wide hw).2)
                  have HQ := Lib.hid (HK2.out.1.wide hw).1
                  clear hq64 hr32 hy32 hy0 hn hbig hq0 hK2 hk hr' hq'
                  have hU := HU.out
                  have hd := HD.out
                  have hq32 := HQ.out
                  have hqq := HQ1.out
                  have hqf32 := HQ2.out
                  rw [HB.out.2.2.2.1] at hd
                  have hm := Nat.div_add_mod (U * 4294967296 + n0) y
                  have hml := Nat.mod_lt (U * 4294967296 + n0) (show y > 0 by have := HB.out.2.2.2.2.2.2.2.1; omega)
                  rw [← hd] at hm
                  obtain ⟨Z, hZ⟩ : ∃ k, (U * 4294967296 + n0) % y = k := ⟨_, rfl⟩
                  obtain ⟨P0, hP0⟩ : ∃ k, y * q' = k := ⟨_, rfl⟩
                  rw [hZ] at hm hml
                  rw [hP0] at hm
                  have hyb := HB.out.2.2.2.2.2.2.2.2.1
                  have c1 : IntKind.u64.wrap ((qf : Int) * 4294967296) = ((qf * 4294967296 : Nat) : Int) := by rw [IntKind.wrap_u64]; omega
                  obtain ⟨Q1, hQ1⟩ : ∃ k, qf * 4294967296 = k := ⟨_, rfl⟩
                  rw [hQ1] at c1
                  have c2 : IntKind.u64.wrap ((Q1 : Int) + (q' : Int)) = ((Q1 + q' : Nat) : Int) := by rw [IntKind.wrap_u64]; omega
                  obtain ⟨A1, a1⟩ : ∃ A : Int, IntKind.u64.wrap ((U : Int) * 4294967296) = A := ⟨_, rfl⟩
                  obtain ⟨A2, a2⟩ : ∃ A : Int, IntKind.u64.wrap (A1 + (n0 : Int)) = A := ⟨_, rfl⟩
                  obtain ⟨A3, a3⟩ : ∃ A : Int, IntKind.u64.wrap ((q' : Int) * (y : Int)) = A := ⟨_, rfl⟩
                  have hp : (q' : Int) * (y : Int) = (P0 : Int) := by rw [← Int.natCast_mul, Nat.mul_comm, hP0]
                  have a4 : IntKind.u64.wrap (A2 - A3) = (Z : Int) := by
                    rw [hp] at a3
                    rw [IntKind.wrap_u64] at a1 a2 a3 ⊢
                    omega
                  have wz : IntKind.u64.wrap (Z : Int) = Z := wrapU (by omega) (by omega)
                  have HF := Lib.hid (show (hi * 18446744073709551616 + lo) / y = Q1 + q' ∧ (hi * 18446744073709551616 + lo) % y = Z from by
                    have h2 := two_digits (T := 4294967296) (y := y) (H := hi) (L0 := n0) (L1 := n1) (by omega) (by omega) HB.out.2.2.1.2
                    rw [hb_split (hi := hi) HB.out.2.2.2.2.1, h2.1, h2.2, ← hqq, hU, ← hd, hZ, hQ1]
                    exact ⟨rfl, rfl⟩)
                  clear hU hd hq32 hqq hqf32 hm hml hZ hP0 hyb hQ1 hp HB HU HD HQ HQ1 HQ2 HK
                  go_wp2
                  go_returns
                  rw [HF.out.1, HF.out.2]
                  exact ⟨rfl, Below.refl _ _⟩
                · have e1 : decide ((4294967296 : Int) ≤ (r' : Int)) = false := decide_eq_false (by omega)
                  have HW := Lib.hid hw
                  clear hq64 hr32 hy32 hy0 hn hbig hq0 hK2 hk hr' hq' hw
                  go_wp2
                  go_roundw
                  case rel => exact ⟨q', r', Lib.hid ⟨HK2.out.1, HK2.out.2.1, HK2.out.2.2, by have := HW.out; omega⟩, by first | rfl | trivial | simp, by first | rfl | trivial | simp, by first | rfl | trivial | simp⟩
                  case measure =>
                    have := HQM.out
                    simp [intOf, wq']
                    omega
              · have f4 : decide ((c3 : Int) < (c1 : Int)) = false := decide_eq_false (by omega)
                have HD := Lib.hid (HK.out.1.done HK.out.2.1 (by omega))
                have HQ := Lib.hid hqT'
                clear hc1 hc2 hc3 hp1 hqT hqT' hq64 hr32 hy32 hy0 hn
                have hU := HU.out
                have hd := HD.out
                have hq32 := HQ.out
                have hqq := HQ1.out
                have hqf32 := HQ2.out
                rw [HB.out.2.2.2.1] at hd
                have hm := Nat.div_add_mod (U * 4294967296 + n0) y
                have hml := Nat.mod_lt (U * 4294967296 + n0) (show y > 0 by have := HB.out.2.2.2.2.2.2.2.1; omega)
                rw [← hd] at hm
                obtain ⟨Z, hZ⟩ : ∃ k, (U * 4294967296 + n0) % y = k := ⟨_, rfl⟩
                obtain ⟨P0, hP0⟩ : ∃ k, y * q = k := ⟨_, rfl⟩
                rw [hZ] at hm hml
                rw [hP0] at hm
                have hyb := HB.out.2.2.2.2.2.2.2.2.1
                have c1 : IntKind.u64.wrap ((qf : Int) * 4294967296) = ((qf * 4294967296 : Nat) : Int) := by rw [IntKind.wrap_u64]; omega
                obtain ⟨Q1, hQ1⟩ : ∃ k, qf * 4294967296 = k := ⟨_, rfl⟩
                rw [hQ1] at c1
                have c2 : IntKind.u64.wrap ((Q1 : Int) + (q : Int)) = ((Q1 + q : Nat) : Int) := by rw [IntKind.wrap_u64]; omega
                obtain ⟨A1, a1⟩ : ∃ A : Int, IntKind.u64.wrap ((U : Int) * 4294967296) = A := ⟨_, rfl⟩
                obtain ⟨A2, a2⟩ : ∃ A : Int, IntKind.u64.wrap (A1 + (n0 : Int)) = A := ⟨_, rfl⟩
                obtain ⟨A3, a3⟩ : ∃ A : Int, IntKind.u64.wrap ((q : Int) * (y : Int)) = A := ⟨_, rfl⟩
                have hp : (q : Int) * (y : Int) = (P0 : Int) := by rw [← Int.natCast_mul, Nat.mul_comm, hP0]
                have a4 : IntKind.u64.wrap (A2 - A3) = (Z : Int) := by
                  rw [hp] at a3
                  rw [IntKind.wrap_u64] at a1 a2 a3 ⊢
                  omega
                have wz : IntKind.u64.wrap (Z : Int) = Z := wrapU (by omega) (by omega)
                have HF := Lib.hid (show (hi * 18446744073709551616 + lo) / y = Q1 + q ∧ (hi * 18446744073709551616 + lo) % y = Z from by
                  have h2 := two_digits (T := 4294967296) (y := y) (H := hi) (L0 := n0) (L1 := n1) (by omega) (by omega) HB.out.2.2.1.2
                  rw [hb_split (hi := hi) HB.out.2.2.2.2.1, h2.1, h2.2, ← hqq, hU, ← hd, hZ, hQ1]
                  exact ⟨rfl, rfl⟩)
                clear hU hd hq32 hqq hqf32 hm hml hZ hP0 hyb hQ1 hp HB HU HD HQ HQ1 HQ2 HK
                go_wp2
                go_returns
                rw [HF.out.1, HF.out.2]
                exact ⟨rfl, Below.refl _ _⟩
        · have e1 : decide ((4294967296 : Int) ≤ (r' : Int)) = false := decide_eq_false (by omega)
          have HW := Lib.hid hw
          clear hq64 hr32 hy32 hy0 hn hbig hq0 hK2 hk hr' hq' hw
          go_wp2
          go_roundw
          case rel => exact ⟨q', r', Lib.hid ⟨HK2.out.1, HK2.out.2.1, HK2.out.2.2, by have := HW.out; omega⟩, by first | rfl | trivial | simp, by first | rfl | trivial | simp, by first | rfl | trivial | simp⟩
          case measure =>
            have := HQM.out
            simp [intOf, wq']
            omega
      · have f4 : decide ((c3 : Int) < (c1 : Int)) = false := decide_eq_false (by omega)
        have HD := Lib.hid (HK.out.1.done HK.out.2.1 (by omega))
        have HQ := Lib.hid hqT'
        clear hc1 hc2 hc3 hp1 hqT hqT' hq64 hr32 hy32 hy0 hn
        go_upto_region 21 with fail
        have hd := HD.out
        have hq32 := HQ.out
        rw [HB.out.2.2.2.1] at hd
        have hm := Nat.div_add_mod (hi * 4294967296 + n1) y
        have hy63 := HB.out.2.2.2.2.2.2.2.1
        have hyb := HB.out.2.2.2.2.2.2.2.2.1
        have hml := Nat.mod_lt (hi * 4294967296 + n1) (show y > 0 by omega)
        have HQ1 := Lib.hid hd
        rw [← hd] at hm
        obtain ⟨U, hU⟩ : ∃ k, (hi * 4294967296 + n1) % y = k := ⟨_, rfl⟩
        have HU := Lib.hid hU
        rw [hU] at hm hml
        obtain ⟨P0, hP0⟩ : ∃ k, y * q = k := ⟨_, rfl⟩
        rw [hP0] at hm
        obtain ⟨A1, a1⟩ : ∃ A : Int, IntKind.u64.wrap ((hi : Int) * 4294967296) = A := ⟨_, rfl⟩
        obtain ⟨A2, a2⟩ : ∃ A : Int, IntKind.u64.wrap (A1 + (n1 : Int)) = A := ⟨_, rfl⟩
        obtain ⟨A3, a3⟩ : ∃ A : Int, IntKind.u64.wrap ((q : Int) * (y : Int)) = A := ⟨_, rfl⟩
        have hp : (q : Int) * (y : Int) = (P0 : Int) := by rw [← Int.natCast_mul, Nat.mul_comm, hP0]
        have a4 : IntKind.u64.wrap (A2 - A3) = (U : Int) := by
          rw [hp] at a3
          rw [IntKind.wrap_u64] at a1 a2 a3 ⊢
          omega
        have b1 := HB.out.1
        have b2 := HB.out.2.1
        obtain ⟨K0, K1⟩ := Kn.start (T := 4294967296) (y1 := y1) (y0 := y0) (u := U) (n := n0) (by omega) b2 (by omega) (by rw [HB.out.2.2.2.1]; exact hml) HB.out.2.2.1.2
        obtain ⟨p, hq⟩ : ∃ q, U / y1 = q := ⟨_, rfl⟩
        obtain ⟨s, hr⟩ : ∃ r, U % y1 = r := ⟨_, rfl⟩
        have hrl : s < y1 := by rw [← hr]; exact Nat.mod_lt _ (by omega)
        have p1 : (U : Int) / (y1 : Int) = (p : Int) := by rw [← hq]; exact (Int.natCast_ediv U y1).symm
        have d4 : ¬ (y1 : Int) = 0 := by omega
        have d5 : ¬ y1 = 0 := by omega
        rw [hq, hr] at K0
        rw [hq] at K1
        have hpy : p * y1 ≤ U := by rw [K0.ur]; omega
        have p2 : IntKind.u64.wrap ((p : Int) * (y1 : Int)) = ((p * y1 : Nat) : Int) := by rw [← Int.natCast_mul]; exact wrapU (by omega) (by omega)
        have p3 : IntKind.u64.wrap ((U : Int) - ((p * y1 : Nat) : Int)) = (s : Int) := by
          have := K0.ur
          rw [IntKind.wrap_u64]
          omega
        have hqb : p < 18446744073709551616 := by
          have : p * 1 ≤ p * y1 := Nat.mul_le_mul_left _ (by omega)
          omega
        have wq : IntKind.u64.wrap (p : Int) = p := wrapU (by omega) (by omega)
        have wu : IntKind.u64.wrap (U : Int) = U := wrapU (by omega) (by omega)
        obtain ⟨py, hpye⟩ : ∃ k, p * y1 = k := ⟨_, rfl⟩
        rw [hpye] at p2 p3
        clear HK
        have HK := Lib.hid (And.intro K0 (And.intro K1 (And.intro hqb hrl)))
        obtain ⟨qf, hqf⟩ : ∃ k, q = k := ⟨_, rfl⟩
        rw [hqf] at HQ1 hq32 a3
        clear HQ HD
        have HQ2 := Lib.hid hq32
        clear hd hq32 hm hy63 hyb hml hU hP0 hp b1 b2 K0 K1 hq hr hrl hpy hqb hpye
        go_wp2
        clear a1 a2 a3 a4 p1 p2 p3 d4 d5 wq wu
        go_loopw [16, 18] (fun v16 v18 wr => ∃ q r : Nat, Hid (Kn 4294967296 y1 y0 U n0 q r ∧ (U * 4294967296 + n0) / (y1 * 4294967296 + y0) ≤ q ∧ q < 18446744073709551616 ∧ r < 4294967296) ∧ v18 = .int .u64 q ∧ v16 = .int .u64 r ∧ w' = wr) (fun v16 v18 _ => (intOf v18).toNat)
        case atStart => exact ⟨p, s, Lib.hid ⟨HK.out.1, HK.out.2.1, HK.out.2.2.1, by have := HK.out.2.2.2; have := HB.out.1; omega⟩, rfl, rfl, rfl⟩
        case round =>
          clear HK
          obtain ⟨q, r, HK, rfl, rfl, rfl⟩ := hrel
          have hq64 := HK.out.2.2.1
          have hr32 := HK.out.2.2.2
          have hy32 := HB.out.1
          have hy0 := HB.out.2.1
          have hn := HB.out.2.2.1
          by_cases hqT : 4294967296 ≤ q
          · have f0 : decide ((4294967296 : Int) ≤ (q : Int)) = true := decide_eq_true (by omega)
            have hbig := HK.out.1.more (.inl hqT)
            obtain ⟨hq0, hK2⟩ := HK.out.1.step hbig
            have hk := HK.out.1.keep hbig
            obtain ⟨q', hq'⟩ : ∃ k, q - 1 = k := ⟨_, rfl⟩
            rw [hq'] at hK2 hk
            have g1 : IntKind.u64.wrap ((q : Int) - 1) = (q' : Int) := by rw [IntKind.wrap_u64]; omega
            obtain ⟨r', hr'⟩ : ∃ k, r + y1 = k := ⟨_, rfl⟩
            rw [hr'] at hK2
            have g2 : IntKind.u64.wrap ((r : Int) + (y1 : Int)) = (r' : Int) := by rw [IntKind.wrap_u64]; omega
            have wq' : IntKind.u64.wrap (q' : Int) = q' := wrapU (by omega) (by omega)
            have wr' : IntKind.u64.wrap (r' : Int) = r' := wrapU (by omega) (by omega)
            have HQM := Lib.hid (show q' < q by omega)
            have HK2 := Lib.hid (And.intro hK2 (And.intro hk (show q' < 18446744073709551616 by omega)))
            by_cases hw : 4294967296 ≤ r'
            · have e1 : decide ((4294967296 : Int) ≤ (r' : Int)) = true := decide_eq_true (by omega)
              have HD := Lib.hid (HK2.out.1.done HK2.out.2.1 (HK2.out.1.wide hw).2)
              have HQ := Lib.hid (HK2.out.1.wide hw).1
              clear hq64 hr32 hy32 hy0 hn hbig hq0 hK2 hk hr' hq' hqT
              have hU := HU.out
              have hd := HD.out
              have hq32 := HQ.out
              have hqq := HQ1.out
              have hqf32 := HQ2.out
              rw [HB.out.2.2.2.1] at hd
              have hm := Nat.div_add_mod (U * 4294967296 + n0) y
              have hml := Nat.mod_lt (U * 4294967296 + n0) (show y > 0 by have := HB.out.2.2.2.2.2.2.2.1; omega)
              rw [← hd] at hm
              obtain ⟨Z, hZ⟩ : ∃ k, (U * 4294967296 + n0) % y = k := ⟨_, rfl⟩
              obtain ⟨P0, hP0⟩ : ∃ k, y * q' = k := ⟨_, rfl⟩
              rw [hZ] at hm hml
              rw [hP0] at hm
              have hyb := HB.out.2.2.2.2.2.2.2.2.1
              have c1 : IntKind.u64.wrap ((qf : Int) * 4294967296) = ((qf * 4294967296 : Nat) : Int) := by rw [IntKind.wrap_u64]; omega
              obtain ⟨Q1, hQ1⟩ : ∃ k, qf * 4294967296 = k := ⟨_, rfl⟩
              rw [hQ1] at c1
              have c2 : IntKind.u64.wrap ((Q1 : Int) + (q' : Int)) = ((Q1 + q' : Nat) : Int) := by rw [IntKind.wrap_u64]; omega
              obtain ⟨A1, a1⟩ : ∃ A : Int, IntKind.u64.wrap ((U : Int) * 4294967296) = A := ⟨_, rfl⟩
              obtain ⟨A2, a2⟩ : ∃ A : Int, IntKind.u64.wrap (A1 + (n0 : Int)) = A := ⟨_, rfl⟩
              obtain ⟨A3, a3⟩ : ∃ A : Int, IntKind.u64.wrap ((q' : Int) * (y : Int)) = A := ⟨_, rfl⟩
              have hp : (q' : Int) * (y : Int) = (P0 : Int) := by rw [← Int.natCast_mul, Nat.mul_comm, hP0]
              have a4 : IntKind.u64.wrap (A2 - A3) = (Z : Int) := by
                rw [hp] at a3
                rw [IntKind.wrap_u64] at a1 a2 a3 ⊢
                omega
              have wz : IntKind.u64.wrap (Z : Int) = Z := wrapU (by omega) (by omega)
              have HF := Lib.hid (show (hi * 18446744073709551616 + lo) / y = Q1 + q' ∧ (hi * 18446744073709551616 + lo) % y = Z from by
                have h2 := two_digits (T := 4294967296) (y := y) (H := hi) (L0 := n0) (L1 := n1) (by omega) (by omega) HB.out.2.2.1.2
                rw [hb_split (hi := hi) HB.out.2.2.2.2.1, h2.1, h2.2, ← hqq, hU, ← hd, hZ, hQ1]
                exact ⟨rfl, rfl⟩)
              clear hU hd hq32 hqq hqf32 hm hml hZ hP0 hyb hQ1 hp HB HU HD HQ HQ1 HQ2 HK
              go_wp2
              go_returns
              rw [HF.out.1, HF.out.2]
              exact ⟨rfl, Below.refl _ _⟩
            · have e1 : decide ((4294967296 : Int) ≤ (r' : Int)) = false := decide_eq_false (by omega)
              have HW := Lib.hid hw
              clear hq64 hr32 hy32 hy0 hn hbig hq0 hK2 hk hr' hq' hqT hw
              go_wp2
              go_roundw
              case rel => exact ⟨q', r', Lib.hid ⟨HK2.out.1, HK2.out.2.1, HK2.out.2.2, by have := HW.out; omega⟩, by first | rfl | trivial | simp, by first | rfl | trivial | simp, by first | rfl | trivial | simp⟩
              case measure =>
                have := HQM.out
                simp [intOf, wq']
                omega
          · have hqT' : q < 4294967296 := by omega
            have f0 : decide ((4294967296 : Int) ≤ (q : Int)) = false := decide_eq_false (by omega)
            have hp1 : q * y0 ≤ 4294967295 * 4294967295 := Nat.mul_le_mul (by omega) (by omega)
            obtain ⟨c1, hc1⟩ : ∃ k, q * y0 = k := ⟨_, rfl⟩
            have f1 : IntKind.u64.wrap ((q : Int) * (y0 : Int)) = (c1 : Int) := by rw [← Int.natCast_mul, hc1]; rw [hc1] at hp1; exact wrapU (by omega) (by omega)
            obtain ⟨c2, hc2⟩ : ∃ k, 4294967296 * r = k := ⟨_, rfl⟩
            have f2 : IntKind.u64.wrap ((4294967296 : Int) * (r : Int)) = (c2 : Int) := by rw [IntKind.wrap_u64]; omega
            obtain ⟨c3, hc3⟩ : ∃ k, c2 + n0 = k := ⟨_, rfl⟩
            have f3 : IntKind.u64.wrap ((c2 : Int) + (n0 : Int)) = (c3 : Int) := by rw [IntKind.wrap_u64]; omega
            by_cases hcc : c3 < c1
            · have f4 : decide ((c3 : Int) < (c1 : Int)) = true := decide_eq_true (by omega)
              have hbig := HK.out.1.more (.inr (by omega))
              clear hc1 hc2 hc3 hp1 hqT hqT'
              obtain ⟨hq0, hK2⟩ := HK.out.1.step hbig
              have hk := HK.out.1.keep hbig
              obtain ⟨q', hq'⟩ : ∃ k, q - 1 = k := ⟨_, rfl⟩
              rw [hq'] at hK2 hk
              have g1 : IntKind.u64.wrap ((q : Int) - 1) = (q' : Int) := by rw [IntKind.wrap_u64]; omega
              obtain ⟨r', hr'⟩ : ∃ k, r + y1 = k := ⟨_, rfl⟩
              rw [hr'] at hK2
              have g2 : IntKind.u64.wrap ((r : Int) + (y1 : Int)) = (r' : Int) := by rw [IntKind.wrap_u64]; omega
              have wq' : IntKind.u64.wrap (q' : Int) = q' := wrapU (by omega) (by omega)
              have wr' : IntKind.u64.wrap (r' : Int) = r' := wrapU (by omega) (by omega)
              have HQM := Lib.hid (show q' < q by omega)
              have HK2 := Lib.hid (And.intro hK2 (And.intro hk (show q' < 18446744073709551616 by omega)))
              by_cases hw : 4294967296 ≤ r'
              · have e1 : decide ((4294967296 : Int) ≤ (r' : Int)) = true := decide_eq_true (by omega)
                have HD := Lib.hid (HK2.out.1.done HK2.out.2.1 (HK2.out.1.wide hw).2)
                have HQ := Lib.hid (HK2.out.1.wide hw).1
                clear hq64 hr32 hy32 hy0 hn hbig hq0 hK2 hk hr' hq'
                have hU := HU.out
                have hd := HD.out
                have hq32 := HQ.out
                have hqq := HQ1.out
                have hqf32 := HQ2.out
                rw [HB.out.2.2.2.1] at hd
                have hm := Nat.div_add_mod (U * 4294967296 + n0) y
                have hml := Nat.mod_lt (U * 4294967296 + n0) (show y > 0 by have := HB.out.2.2.2.2.2.2.2.1; omega)
                rw [← hd] at hm
                obtain ⟨Z, hZ⟩ : ∃ k, (U * 4294967296 + n0) % y = k := ⟨_, rfl⟩
                obtain ⟨P0, hP0⟩ : ∃ k, y * q' = k := ⟨_, rfl⟩
                rw [hZ] at hm hml
                rw [hP0] at hm
                have hyb := HB.out.2.2.2.2.2.2.2.2.1
                have c1 : IntKind.u64.wrap ((qf : Int) * 4294967296) = ((qf * 4294967296 : Nat) : Int) := by rw [IntKind.wrap_u64]; omega
                obtain ⟨Q1, hQ1⟩ : ∃ k, qf * 4294967296 = k := ⟨_, rfl⟩
                rw [hQ1] at c1
                have c2 : IntKind.u64.wrap ((Q1 : Int) + (q' : Int)) = ((Q1 + q' : Nat) : Int) := by rw [IntKind.wrap_u64]; omega
                obtain ⟨A1, a1⟩ : ∃ A : Int, IntKind.u64.wrap ((U : Int) * 4294967296) = A := ⟨_, rfl⟩
                obtain ⟨A2, a2⟩ : ∃ A : Int, IntKind.u64.wrap (A1 + (n0 : Int)) = A := ⟨_, rfl⟩
                obtain ⟨A3, a3⟩ : ∃ A : Int, IntKind.u64.wrap ((q' : Int) * (y : Int)) = A := ⟨_, rfl⟩
                have hp : (q' : Int) * (y : Int) = (P0 : Int) := by rw [← Int.natCast_mul, Nat.mul_comm, hP0]
                have a4 : IntKind.u64.wrap (A2 - A3) = (Z : Int) := by
                  rw [hp] at a3
                  rw [IntKind.wrap_u64] at a1 a2 a3 ⊢
                  omega
                have wz : IntKind.u64.wrap (Z : Int) = Z := wrapU (by omega) (by omega)
                have HF := Lib.hid (show (hi * 18446744073709551616 + lo) / y = Q1 + q' ∧ (hi * 18446744073709551616 + lo) % y = Z from by
                  have h2 := two_digits (T := 4294967296) (y := y) (H := hi) (L0 := n0) (L1 := n1) (by omega) (by omega) HB.out.2.2.1.2
                  rw [hb_split (hi := hi) HB.out.2.2.2.2.1, h2.1, h2.2, ← hqq, hU, ← hd, hZ, hQ1]
                  exact ⟨rfl, rfl⟩)
                clear hU hd hq32 hqq hqf32 hm hml hZ hP0 hyb hQ1 hp HB HU HD HQ HQ1 HQ2 HK
                go_wp2
                go_returns
                rw [HF.out.1, HF.out.2]
                exact ⟨rfl, Below.refl _ _⟩
              · have e1 : decide ((4294967296 : Int) ≤ (r' : Int)) = false := decide_eq_false (by omega)
                have HW := Lib.hid hw
                clear hq64 hr32 hy32 hy0 hn hbig hq0 hK2 hk hr' hq' hw
                go_wp2
                go_roundw
                case rel => exact ⟨q', r', Lib.hid ⟨HK2.out.1, HK2.out.2.1, HK2.out.2.2, by have := HW.out; omega⟩, by first | rfl | trivial | simp, by first | rfl | trivial | simp, by first | rfl | trivial | simp⟩
                case measure =>
                  have := HQM.out
                  simp [intOf, wq']
                  omega
            · have f4 : decide ((c3 : Int) < (c1 : Int)) = false := decide_eq_false (by omega)
              have HD := Lib.hid (HK.out.1.done HK.out.2.1 (by omega))
              have HQ := Lib.hid hqT'
              clear hc1 hc2 hc3 hp1 hqT hqT' hq64 hr32 hy32 hy0 hn
              have hU := HU.out
              have hd := HD.out
              have hq32 := HQ.out
              have hqq := HQ1.out
              have hqf32 := HQ2.out
              rw [HB.out.2.2.2.1] at hd
              have hm := Nat.div_add_mod (U * 4294967296 + n0) y
              have hml := Nat.mod_lt (U * 4294967296 + n0) (show y > 0 by have := HB.out.2.2.2.2.2.2.2.1; omega)
              rw [← hd] at hm
              obtain ⟨Z, hZ⟩ : ∃ k, (U * 4294967296 + n0) % y = k := ⟨_, rfl⟩
              obtain ⟨P0, hP0⟩ : ∃ k, y * q = k := ⟨_, rfl⟩
              rw [hZ] at hm hml
              rw [hP0] at hm
              have hyb := HB.out.2.2.2.2.2.2.2.2.1
              have c1 : IntKind.u64.wrap ((qf : Int) * 4294967296) = ((qf * 4294967296 : Nat) : Int) := by rw [IntKind.wrap_u64]; omega
              obtain ⟨Q1, hQ1⟩ : ∃ k, qf * 4294967296 = k := ⟨_, rfl⟩
              rw [hQ1] at c1
              have c2 : IntKind.u64.wrap ((Q1 : Int) + (q : Int)) = ((Q1 + q : Nat) : Int) := by rw [IntKind.wrap_u64]; omega
              obtain ⟨A1, a1⟩ : ∃ A : Int, IntKind.u64.wrap ((U : Int) * 4294967296) = A := ⟨_, rfl⟩
              obtain ⟨A2, a2⟩ : ∃ A : Int, IntKind.u64.wrap (A1 + (n0 : Int)) = A := ⟨_, rfl⟩
              obtain ⟨A3, a3⟩ : ∃ A : Int, IntKind.u64.wrap ((q : Int) * (y : Int)) = A := ⟨_, rfl⟩
              have hp : (q : Int) * (y : Int) = (P0 : Int) := by rw [← Int.natCast_mul, Nat.mul_comm, hP0]
              have a4 : IntKind.u64.wrap (A2 - A3) = (Z : Int) := by
                rw [hp] at a3
                rw [IntKind.wrap_u64] at a1 a2 a3 ⊢
                omega
              have wz : IntKind.u64.wrap (Z : Int) = Z := wrapU (by omega) (by omega)
              have HF := Lib.hid (show (hi * 18446744073709551616 + lo) / y = Q1 + q ∧ (hi * 18446744073709551616 + lo) % y = Z from by
                have h2 := two_digits (T := 4294967296) (y := y) (H := hi) (L0 := n0) (L1 := n1) (by omega) (by omega) HB.out.2.2.1.2
                rw [hb_split (hi := hi) HB.out.2.2.2.2.1, h2.1, h2.2, ← hqq, hU, ← hd, hZ, hQ1]
                exact ⟨rfl, rfl⟩)
              clear hU hd hq32 hqq hqf32 hm hml hZ hP0 hyb hQ1 hp HB HU HD HQ HQ1 HQ2 HK
              go_wp2
              go_returns
              rw [HF.out.1, HF.out.2]
              exact ⟨rfl, Below.refl _ _⟩
end Go.Proofs.YtghfggfgndgkjaaGreatDoor
