/- math/big: products and sums of numbers of at most two words. -/
import Derived.Test.YtghfggfgndgkjaaGreatDoorBigNat
set_option linter.unusedVariables false
set_option linter.unusedSimpArgs false
namespace Go.Proofs.YtghfggfgndgkjaaGreatDoor
open Go.RowKit
set_option maxRecDepth 100000
attribute [local go_sem] opLow opUpon opLow2 opUpon2

/-- the words of a number of at most two words -/
def lenN (p : Nat) : Nat := if p < 18446744073709551616 then (if p = 0 then 0 else 1) else 2
theorem nrm_two (lo hi : Nat) (L : Nat → Nat) (h0 : L 0 = lo) (h1 : L 1 = hi) (hlo : lo < 18446744073709551616) : nrm L 2 = lenN (hi * 18446744073709551616 + lo) := by
  unfold nrm nrm nrm lenN
  rw [h0, h1]
  by_cases h : hi = 0
  · subst h
    simp only [if_true, Nat.zero_mul, Nat.zero_add, if_pos hlo]
  · rw [if_neg h, if_neg (by omega)]
/-- the words of a block, read by their places -/
def at6 (a b c : Nat) : Nat → Nat
  | 0 => a
  | 1 => b
  | _ => c
theorem at6_cell {w : World} {g a b c d e f : Nat} (h : Bk w g (W6 a b c d e f) 171) (k : Nat) (hk : k ≤ 3) : ∀ j, j < k → w.cell? ⟨g, j, none⟩ = some (.int .u64 (at6 a b c j)) := fun j hj => by
  have : j = 0 ∨ j = 1 ∨ j = 2 := by omega
  rcases this with rfl | rfl | rfl
  · exact h.cell 0 rfl
  · exact h.cell 1 rfl
  · exact h.cell 2 rfl
theorem at6_nrm {a b : Nat} (ha : a < 18446744073709551616) : nrm (at6 a b 0) 2 = lenN (b * 18446744073709551616 + a) ∧ nrm (at6 a b 0) 3 = lenN (b * 18446744073709551616 + a) := by
  have h := nrm_two a b (at6 a b 0) rfl rfl ha
  refine ⟨h, ?_⟩
  rw [← h]
  rfl
theorem below_cc {w V w1 : World} (hb : Below V.heap.size V w1) (h0 : Below w.heap.size w V) : Below w.heap.size w w1 ∧ w.heap.size ≤ w1.heap.size := ⟨h0.trans (hb.mono h0.size), Nat.le_trans h0.size hb.size⟩
theorem lenN_le (p : Nat) : lenN p ≤ 2 := by
  unfold lenN
  split
  · split <;> omega
  · omega
theorem words_of (p : Nat) : p / 18446744073709551616 * 18446744073709551616 + p % 18446744073709551616 = p := by rw [Nat.mul_comm]; exact Nat.div_add_mod p _
set_option maxHeartbeats 4000000 in
theorem mulww_new (bx c2 x y : Nat) (hx : x < 18446744073709551616) (hy0 : 0 < y) (hy : y < 18446744073709551616) (w : World) (hc : w.cell? ⟨bx, 0, none⟩ = some (.int .u64 x)) (hbx : bx < w.heap.size) :
    Calls Tryz.prog 156 #[.slice none 0 0, .slice (some ⟨bx, 0, none⟩) 1 c2, .int .u64 y, .int .u64 0] w fun e' w' => e' = .returned (.slice (some ⟨w.heap.size, 0, none⟩) (lenN (x * y)) 6) ∧ Bk w' w.heap.size (W6 (x * y % 18446744073709551616) (x * y / 18446744073709551616) 0 0 0 0) 171 ∧ Below w.heap.size w w' := by
  have hx1 : (y == 0) = false := by simp; omega
  have hx2 : ((y : Int) == 0) = false := by simp; omega
  have VW := Lib.hid (fun V bz hz hc => vww1 bz bx c2 x y 0 0 0 0 0 0 0 hx hy (by omega) V hz hc)
  have hp := words_of (x * y)
  rw [Nat.add_zero, show ((0 : Nat) : Int) = 0 from rfl] at VW
  obtain ⟨p, hpe⟩ : ∃ k, x * y = k := ⟨_, rfl⟩
  rw [hpe] at hp VW ⊢
  have hlo : p % 18446744073709551616 < 18446744073709551616 := Nat.mod_lt _ (by omega)
  obtain ⟨H, hH⟩ : ∃ k, p / 18446744073709551616 = k := ⟨_, rfl⟩
  obtain ⟨L, hL⟩ : ∃ k, p % 18446744073709551616 = k := ⟨_, rfl⟩
  rw [hH, hL] at VW ⊢
  rw [hL] at hlo
  rw [hH, hL] at hp
  have hn := (at6_nrm (b := H) hlo).1
  rw [hp] at hn
  rw [← hn]
  have HL := Lib.hid hn
  clear hn hp hlo hpe hH hL hx hy hy0
  go_enter Tryz.func156, Tryz.ntmps156
  go_wp2_with fail
  refine (make_two _).mono ?_
  rintro e' V1 ⟨rfl, hB, hb⟩
  have k0 := hB.cell (v := .int .u64 0) 0 rfl
  have HB := Lib.hid (And.intro hB hb)
  have hc1 := Lib.hid (cell_later hb hc)
  clear hB hb hc
  go_wp2_with fail
  refine (VW.out _ _ HB.out.1 hc1.out).mono ?_
  rintro e' V2 ⟨rfl, hB2, hm⟩
  have kl := hB2.lt
  have kf := hB2.free 1
  have k1 := hB2.cell (v := .int .u64 0) 1 rfl
  have HB2 := Lib.hid (And.intro (W6.put1 hB2 H) ((hm.trans (mut_set V2 w.heap.size 1 (.int .u64 H)) (fun _ _ h => h)).below HB.out.2.size (fun b hb q => by omega)))
  clear hB2 hm k0
  go_upto_region 6 with fail
  refine wp_name (fun X => Bk X w.heap.size (W6 L H 0 0 0 0) 171 ∧ Below w.heap.size w X) ⟨HB2.out.1, HB.out.2.trans HB2.out.2⟩ ?_
  clear HB2 HB kl kf k1 hc1 VW
  rintro V3 ⟨hB, hb⟩
  have NR := Lib.hid (norm_any w.heap.size 2 6 (at6 L H 0) (by omega) (by omega) V3 (at6_cell hB 2 (by omega)))
  have HB := Lib.hid (And.intro hB hb)
  clear hB hb
  go_wp2_with fail
  refine NR.out.mono ?_
  rintro e' V4 ⟨rfl, hb2⟩
  have HC := Lib.hid (And.intro (HB.out.1.below hb2) (below_cc hb2 HB.out.2).1)
  clear hb2 NR HB
  go_wp2
  go_returns
  exact ⟨rfl, HC.out.1, HC.out.2⟩
theorem re_words {P y a b : Nat} (hPe : b * 18446744073709551616 + a = P) (ha : a < 18446744073709551616) (h : P * y < 18446744073709551616 * 18446744073709551616) :
    (a * y + 0) % 18446744073709551616 = P * y % 18446744073709551616 ∧ b * y + (a * y + 0) / 18446744073709551616 = P * y / 18446744073709551616 ∧ P * y / 18446744073709551616 < 18446744073709551616 := by
  have e : P * y = b * y * 18446744073709551616 + a * y := by rw [← hPe, Nat.add_mul, Nat.mul_assoc, Nat.mul_comm 18446744073709551616 y, ← Nat.mul_assoc]
  rw [e] at h ⊢
  obtain ⟨p, hp⟩ : ∃ k, b * y = k := ⟨_, rfl⟩
  obtain ⟨q, hq⟩ : ∃ k, a * y = k := ⟨_, rfl⟩
  rw [hp, hq] at h ⊢
  refine ⟨by omega, by omega, ?_⟩
  rw [Nat.div_lt_iff_lt_mul (by omega)]
  exact h
set_option maxHeartbeats 4000000 in
theorem mulww_re (b P y : Nat) (hP : 0 < P) (hP2 : P < 18446744073709551616 * 18446744073709551616) (hy0 : 0 < y) (hy : y < 18446744073709551616) (hPy : P * y < 18446744073709551616 * 18446744073709551616) (w : World) (hz : Bk w b (W6 (P % 18446744073709551616) (P / 18446744073709551616) 0 0 0 0) 171) :
    Calls Tryz.prog 156 #[.slice (some ⟨b, 0, none⟩) (lenN P) 6, .slice (some ⟨b, 0, none⟩) (lenN P) 6, .int .u64 y, .int .u64 0] w fun e' w' => e' = .returned (.slice (some ⟨b, 0, none⟩) (lenN (P * y)) 6) ∧ Bk w' b (W6 (P * y % 18446744073709551616) (P * y / 18446744073709551616) 0 0 0 0) 171 ∧ Mut (fun k => k = b) w w' := by
  have hx1 : (y == 0) = false := by simp; omega
  have hx2 : ((y : Int) == 0) = false := by simp; omega
  have ha : P % 18446744073709551616 < 18446744073709551616 := Nat.mod_lt _ (by omega)
  have hb : P / 18446744073709551616 < 18446744073709551616 := by rw [Nat.div_lt_iff_lt_mul (by omega)]; exact hP2
  obtain ⟨r1, r2, r3⟩ := re_words (words_of P) ha hPy
  have hn := at6_nrm (a := P * y % 18446744073709551616) (b := P * y / 18446744073709551616) (Nat.mod_lt _ (by omega))
  rw [words_of] at hn
  have hblt := hz.lt
  by_cases h1 : P < 18446744073709551616
  · have hl : lenN P = 1 := by unfold lenN; rw [if_pos h1, if_neg (by omega)]
    have e1 : P % 18446744073709551616 = P := Nat.mod_eq_of_lt h1
    have e2 : P / 18446744073709551616 = 0 := Nat.div_eq_of_lt h1
    rw [hl]
    rw [e1, e2] at hz
    rw [e1] at r1 r2
    rw [e2, Nat.zero_mul, Nat.zero_add] at r2
    have hcl := hz.cell (v := .int .u64 P) 0 rfl
    have VW := Lib.hid (fun V hz hc => vww1 b b 6 P y 0 P 0 0 0 0 0 h1 hy (by omega) V hz hc)
    rw [r1, r2, show ((0 : Nat) : Int) = 0 from rfl] at VW
    obtain ⟨H, hH⟩ : ∃ k, P * y / 18446744073709551616 = k := ⟨_, rfl⟩
    obtain ⟨L, hL⟩ : ∃ k, P * y % 18446744073709551616 = k := ⟨_, rfl⟩
    obtain ⟨n, hne⟩ : ∃ k, lenN (P * y) = k := ⟨_, rfl⟩
    rw [hH, hL] at VW hn ⊢
    rw [hne] at hn ⊢
    have HN := Lib.hid hn.1
    have MK := Lib.hid (fun V => make_re b 1 2 6 (by omega) (by omega) V)
    have HZ := Lib.hid (And.intro hz hcl)
    clear hn hH hL hne r1 r2 r3 e1 e2 ha hb hP hP2 hPy hy hy0 h1 hl hz hcl
    go_enter Tryz.func156, Tryz.ntmps156
    go_wp2_with fail
    refine (MK.out _).mono ?_
    rintro e' V1 ⟨rfl, hb1⟩
    have HZ1 := Lib.hid (And.intro (HZ.out.1.below hb1) (cell_later hb1 HZ.out.2))
    have HM1 := Lib.hid (Mut.of_below (U := fun k => k = b) hb1)
    clear hb1 HZ MK
    have k0 := HZ1.out.2
    go_wp2_with fail
    refine (VW.out _ HZ1.out.1 HZ1.out.2).mono ?_
    rintro e' V2 ⟨rfl, hB2, hm⟩
    have kl := hB2.lt
    have kf := hB2.free 1
    have k1 := hB2.cell (v := .int .u64 0) 1 rfl
    have HB2 := Lib.hid (And.intro (W6.put1 hB2 H) ((HM1.out.trans hm (fun _ _ h => h)).trans (mut_set V2 b 1 (.int .u64 H)) (fun _ _ h => h)))
    clear hB2 hm k0
    go_upto_region 6 with fail
    refine wp_name (fun X => Bk X b (W6 L H 0 0 0 0) 171 ∧ Mut (fun k => k = b) w X) HB2.out ?_
    clear HB2 kl kf k1 VW HZ1 HM1
    rintro V3 ⟨hB, hm⟩
    have NR := Lib.hid (norm_any b 2 6 (at6 L H 0) (by omega) (by omega) V3 (at6_cell hB 2 (by omega)))
    rw [HN.out] at NR
    have HB := Lib.hid (And.intro hB hm)
    clear hB hm HN
    go_wp2_with fail
    refine NR.out.mono ?_
    rintro e' V4 ⟨rfl, hb2⟩
    have HC := Lib.hid (And.intro (HB.out.1.below hb2) (HB.out.2.trans (Mut.of_below (U := fun k => k = b) hb2) (fun _ _ h => h)))
    clear hb2 NR HB
    go_wp2
    go_returns
    exact ⟨rfl, HC.out.1, HC.out.2⟩
  · have hl : lenN P = 2 := by unfold lenN; rw [if_neg h1]
    rw [hl]
    obtain ⟨a, hae⟩ : ∃ k, P % 18446744073709551616 = k := ⟨_, rfl⟩
    obtain ⟨c, hce⟩ : ∃ k, P / 18446744073709551616 = k := ⟨_, rfl⟩
    rw [hae, hce] at hz
    rw [hae] at r1 r2 ha
    rw [hce] at r2 hb
    have VW := Lib.hid (fun V hz => vww2 b y 0 a c 0 0 0 0 ha hb hy (by omega) V hz)
    rw [r1, r2, Nat.div_eq_of_lt r3, Nat.mod_eq_of_lt r3, show ((0 : Nat) : Int) = 0 from rfl] at VW
    obtain ⟨H, hH⟩ : ∃ k, P * y / 18446744073709551616 = k := ⟨_, rfl⟩
    obtain ⟨L, hL⟩ : ∃ k, P * y % 18446744073709551616 = k := ⟨_, rfl⟩
    obtain ⟨n, hne⟩ : ∃ k, lenN (P * y) = k := ⟨_, rfl⟩
    rw [hH, hL] at VW hn ⊢
    rw [hne] at hn ⊢
    have HN := Lib.hid hn.2
    have MK := Lib.hid (fun V => make_re b 2 3 6 (by omega) (by omega) V)
    have HZ := Lib.hid hz
    clear hn hH hL hne r1 r2 r3 ha hb hP hP2 hPy hy hy0 h1 hl hz hae hce
    go_enter Tryz.func156, Tryz.ntmps156
    go_wp2_with fail
    refine (MK.out _).mono ?_
    rintro e' V1 ⟨rfl, hb1⟩
    have HZ1 := Lib.hid (HZ.out.below hb1)
    have HM1 := Lib.hid (Mut.of_below (U := fun k => k = b) hb1)
    clear hb1 HZ MK
    go_wp2_with fail
    refine (VW.out _ HZ1.out).mono ?_
    rintro e' V2 ⟨rfl, hB2, hm⟩
    have kl := hB2.lt
    have kf := hB2.free 2
    have k1 := hB2.cell (v := .int .u64 0) 2 rfl
    have HB2 := Lib.hid (And.intro (W6.put2 hB2 0) ((HM1.out.trans hm (fun _ _ h => h)).trans (mut_set V2 b 2 (.int .u64 0)) (fun _ _ h => h)))
    rw [show ((0 : Nat) : Int) = 0 from rfl] at HB2
    clear hB2 hm
    go_upto_region 6 with fail
    refine wp_name (fun X => Bk X b (W6 L H 0 0 0 0) 171 ∧ Mut (fun k => k = b) w X) HB2.out ?_
    clear HB2 kl kf k1 VW HZ1 HM1
    rintro V3 ⟨hB, hm⟩
    have NR := Lib.hid (norm_any b 3 6 (at6 L H 0) (by omega) (by omega) V3 (at6_cell hB 3 (by omega)))
    rw [HN.out] at NR
    have HB := Lib.hid (And.intro hB hm)
    clear hB hm HN
    go_wp2_with fail
    refine NR.out.mono ?_
    rintro e' V4 ⟨rfl, hb2⟩
    have HC := Lib.hid (And.intro (HB.out.1.below hb2) (HB.out.2.trans (Mut.of_below (U := fun k => k = b) hb2) (fun _ _ h => h)))
    clear hb2 NR HB
    go_wp2
    go_returns
    exact ⟨rfl, HC.out.1, HC.out.2⟩
/-- a number of one word, as big.NewInt makes it -/
def S1 (V : World) (v : Value) (x : Nat) : Prop := (x = 0 ∧ v = .slice none 0 0) ∨ (0 < x ∧ ∃ b, v = .slice (some ⟨b, 0, none⟩) 1 1 ∧ Bk V b #[.int .u64 x] 171)
/-- a number of at most two words in a block of six -/
def S2 (base : Nat) (V : World) (v : Value) (P : Nat) : Prop := (P = 0 ∧ v = .slice none 0 0) ∨ (0 < P ∧ ∃ b, base ≤ b ∧ v = .slice (some ⟨b, 0, none⟩) (lenN P) 6 ∧ Bk V b (W6 (P % 18446744073709551616) (P / 18446744073709551616) 0 0 0 0) 171)
theorem S1.below {V V' : World} {v : Value} {x : Nat} (h : S1 V v x) (hb : Below V.heap.size V V') : S1 V' v x := by
  rcases h with h | ⟨h0, b, h1, h2⟩
  · exact .inl h
  · exact .inr ⟨h0, b, h1, h2.below hb⟩
theorem S2.below {base : Nat} {V V' : World} {v : Value} {x : Nat} (h : S2 base V v x) (hb : Below V.heap.size V V') : S2 base V' v x := by
  rcases h with h | ⟨h0, b, h1, h2, h3⟩
  · exact .inl h
  · exact .inr ⟨h0, b, h1, h2, h3.below hb⟩
theorem nmul_zero (c c2 : Nat) (ax : Option Addr) (w : World) (n : Nat) (hn : n ≤ 1) :
    Calls Tryz.prog 143 #[.slice none 0 0, .pointer none, .slice ax n c, .slice none 0 0] w fun e' w' => e' = .returned (.slice none 0 0) ∧ Below w.heap.size w w' := by
  have h : n = 0 ∨ n = 1 := by omega
  rcases h with rfl | rfl
  · go_enter Tryz.func143, Tryz.ntmps143
    go_wp2
    go_returns
    exact ⟨rfl, by go_grown⟩
  · go_enter Tryz.func143, Tryz.ntmps143
    go_wp2
    go_returns
    exact ⟨rfl, by go_grown⟩
end Go.Proofs.YtghfggfgndgkjaaGreatDoor
