/- math/big: Int.Mul, Int.Add for numbers that are not negative. -/
import Derived.Test.YtghfggfgndgkjaaGreatDoorBigMul
set_option linter.unusedVariables false
set_option linter.unusedSimpArgs false
namespace Go.Proofs.YtghfggfgndgkjaaGreatDoor
open Go.RowKit
set_option maxRecDepth 100000
attribute [local go_sem] opLow opUpon opLow2 opUpon2 opLow3

set_option maxHeartbeats 4000000 in
theorem nmul_new (va vb : Value) (a b : Nat) (ha : a < 18446744073709551616) (hb : b < 18446744073709551616) (w : World) (hA : S1 w va a) (hB : S1 w vb b) :
    Calls Tryz.prog 143 #[.slice none 0 0, .pointer none, va, vb] w fun e' w' => ∃ v, e' = .returned v ∧ S2 w.heap.size w' v (a * b) ∧ Below w.heap.size w w' := by
  rcases hB with ⟨hb0, rfl⟩ | ⟨hb0, bb, rfl, hBb⟩
  · subst hb0
    rw [Nat.mul_zero]
    rcases hA with ⟨ha0, rfl⟩ | ⟨ha0, ba, rfl, hBa⟩
    · exact (nmul_zero 0 0 none w 0 (by omega)).mono fun e w' ⟨h1, h2⟩ => ⟨_, h1, .inl ⟨rfl, rfl⟩, h2⟩
    · exact (nmul_zero 1 0 _ w 1 (by omega)).mono fun e w' ⟨h1, h2⟩ => ⟨_, h1, .inl ⟨rfl, rfl⟩, h2⟩
  · rcases hA with ⟨ha0, rfl⟩ | ⟨ha0, ba, rfl, hBa⟩
    · subst ha0
      rw [Nat.zero_mul]
      have NZ := Lib.hid (fun V => nmul_zero 1 0 (some ⟨bb, 0, none⟩) V 1 (by omega))
      go_enter Tryz.func143, Tryz.ntmps143
      go_wp2_with fail
      refine (NZ.out _).mono ?_
      rintro e' V1 ⟨rfl, hb1⟩
      go_wp2
      go_returns
      exact ⟨_, rfl, .inl ⟨rfl, rfl⟩, hb1⟩
    · have k0 := hBb.cell (v := .int .u64 b) 0 rfl
      have kl := hBb.lt
      have MW := Lib.hid (mulww_new ba 1 a b ha hb0 hb w (hBa.cell (v := .int .u64 a) 0 rfl) hBa.lt)
      have hp : 0 < a * b := Nat.mul_pos ha0 hb0
      obtain ⟨P, hP⟩ : ∃ k, a * b = k := ⟨_, rfl⟩
      rw [hP] at hp MW ⊢
      clear hP hBb hBa ha hb ha0 hb0
      go_enter Tryz.func143, Tryz.ntmps143
      go_wp2_with fail
      refine MW.out.mono ?_
      rintro e' V1 ⟨rfl, hB1, hb1⟩
      have HC := Lib.hid (And.intro hB1 hb1)
      clear hB1 hb1 MW k0 kl
      go_wp2
      go_returns
      exact ⟨_, rfl, .inr ⟨hp, _, Nat.le_refl _, rfl, HC.out.1⟩, HC.out.2⟩
theorem lenN_pos {P : Nat} (h : 0 < P) : lenN P = 1 ∨ lenN P = 2 := by
  unfold lenN
  split
  · rw [if_neg (by omega)]; exact .inl rfl
  · exact .inr rfl
set_option maxHeartbeats 4000000 in
theorem nmul_re (b P y : Nat) (vb : Value) (hP : 0 < P) (hP2 : P < 18446744073709551616 * 18446744073709551616) (hy0 : 0 < y) (hy : y < 18446744073709551616) (hPy : P * y < 18446744073709551616 * 18446744073709551616) (w : World) (hz : Bk w b (W6 (P % 18446744073709551616) (P / 18446744073709551616) 0 0 0 0) 171) (hB : S1 w vb y) :
    Calls Tryz.prog 143 #[.slice (some ⟨b, 0, none⟩) (lenN P) 6, .pointer none, .slice (some ⟨b, 0, none⟩) (lenN P) 6, vb] w fun e' w' => e' = .returned (.slice (some ⟨b, 0, none⟩) (lenN (P * y)) 6) ∧ Bk w' b (W6 (P * y % 18446744073709551616) (P * y / 18446744073709551616) 0 0 0 0) 171 ∧ Mut (fun k => k = b) w w' := by
  rcases hB with ⟨hb0, rfl⟩ | ⟨hb0, bb, rfl, hBb⟩
  · omega
  have k0 := hBb.cell (v := .int .u64 y) 0 rfl
  have kl := hBb.lt
  have MW := Lib.hid (mulww_re b P y hP hP2 hy0 hy hPy w hz)
  have hl := lenN_pos hP
  obtain ⟨n, hn⟩ : ∃ n, lenN P = n := ⟨_, rfl⟩
  obtain ⟨n2, hn2⟩ : ∃ n, lenN (P * y) = n := ⟨_, rfl⟩
  obtain ⟨H, hH⟩ : ∃ k, P * y / 18446744073709551616 = k := ⟨_, rfl⟩
  obtain ⟨L, hL⟩ : ∃ k, P * y % 18446744073709551616 = k := ⟨_, rfl⟩
  rw [hn, hn2, hH, hL] at MW
  rw [hn] at hl
  rw [hn, hn2, hH, hL]
  clear hn hn2 hH hL hz hBb hP hP2 hPy hy hy0
  rcases hl with rfl | rfl
  all_goals
    go_enter Tryz.func143, Tryz.ntmps143
    go_wp2_with fail
    refine MW.out.mono ?_
    rintro e' V1 ⟨rfl, hB1, hb1⟩
    have HC := Lib.hid (And.intro hB1 hb1)
    clear hB1 hb1 MW k0 kl
    go_wp2
    go_returns
    exact ⟨rfl, HC.out.1, HC.out.2⟩
end Go.Proofs.YtghfggfgndgkjaaGreatDoor
