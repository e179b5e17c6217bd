/- math/big: divW, setWord, nat.div for one or two words by one. -/
import Derived.Test.YtghfggfgndgkjaaGreatDoorBigQuo
set_option linter.unusedVariables false
set_option linter.unusedSimpArgs false
namespace Go.Proofs.YtghfggfgndgkjaaGreatDoor
open Go.RowKit
set_option maxRecDepth 100000
attribute [local go_sem] opLow opUpon opLow2 opUpon2 opLow3

/-- a number of at most one word, to be read -/
def QN (V : World) (v : Value) (q : Nat) : Prop := ∃ a n c, v = .slice a n c ∧ ((n = 0 ∧ q = 0) ∨ (n = 1 ∧ ∃ b cs, a = some ⟨b, 0, none⟩ ∧ Bk V b cs 171 ∧ cs[0]? = some (.int .u64 q)))
theorem QN.below {V V' : World} {v : Value} {q : Nat} (h : QN V v q) (hb : Below V.heap.size V V') : QN V' v q := by
  obtain ⟨a, n, c, h1, h2 | ⟨h2, b, cs, h3, h4, h5⟩⟩ := h
  · exact ⟨a, n, c, h1, .inl h2⟩
  · exact ⟨a, n, c, h1, .inr ⟨h2, b, cs, h3, h4.below hb, h5⟩⟩
theorem RN.below {V V' : World} {v : Value} {q : Nat} (h : RN V v q) (hb : Below V.heap.size V V') : RN V' v q := by
  obtain ⟨h0, b, c, cs, h1, h2, h3⟩ := h
  exact ⟨h0, b, c, cs, h1, h2.below hb, h3⟩
theorem nrm_one (q : Nat) : nrm (at6 q 0 0) 1 = (if q = 0 then 0 else 1) := by
  unfold nrm nrm
  rfl
theorem lenN_one {q : Nat} (h : q < 18446744073709551616) : lenN q = (if q = 0 then 0 else 1) := by unfold lenN; rw [if_pos h]
theorem nrm_oneL (L : Nat → Nat) (q : Nat) (h : L 0 = q) : nrm L 1 = (if q = 0 then 0 else 1) := by
  unfold nrm nrm
  rw [h]
set_option maxHeartbeats 4000000 in
theorem divw_two (b cap y Q R : Nat) (cs : Array Value) (y2 : ((y : Int) == 0) = false) (y4 : ((y : Int) == 1) = false)
    (w : World)
    (DV : RowKit.Hid (∀ (V : World) (bz : Nat), b ≠ bz → Bk V bz (W6 0 0 0 0 0 0) 171 → Bk V b cs 171 → Calls Tryz.prog 177 #[.slice (some ⟨bz, 0, none⟩) 2 6, .int .u64 0, .slice (some ⟨b, 0, none⟩) 2 cap, .int .u64 y] V fun e w' => e = .returned (.int .u64 R) ∧ Bk w' bz (W6 Q 0 0 0 0 0) 171 ∧ Mut (fun k => k = bz) V w'))
    (hn : nrm (at6 Q 0 0) 2 = if Q = 0 then 0 else 1)
    (HZ : RowKit.Hid (Bk w b cs 171)) :
    Calls Tryz.prog 162 #[.slice none 0 0, .slice (some ⟨b, 0, none⟩) 2 cap, .int .u64 y] w fun e' w' => ∃ vq, e' = .returned (.tuple #[vq, .int .u64 R]) ∧ QN w' vq Q ∧ Below w.heap.size w w' := by
    have NR := Lib.hid (fun V (bz : Nat) (hz : Bk V bz (W6 Q 0 0 0 0 0) 171) => norm_any bz 2 6 (at6 Q 0 0) (by omega) (by omega) V (at6_cell hz 2 (by omega)))
    rw [hn] at NR
    clear hn
    go_enter Tryz.func162, Tryz.ntmps162
    go_wp2_with fail
    refine (make_two _).mono ?_
    rintro e' V1 ⟨rfl, hB, hb1⟩
    have hbl := HZ.out.lt
    have HB := Lib.hid (And.intro hB (And.intro hb1 (And.intro (HZ.out.below hb1) (show b ≠ w.heap.size by omega))))
    clear hB hb1 HZ hbl
    go_wp2_with fail
    refine (DV.out _ _ HB.out.2.2.2 HB.out.1 HB.out.2.2.1).mono ?_
    rintro e' V2 ⟨rfl, hB2, hm⟩
    have HB2 := Lib.hid (And.intro hB2 (HB.out.2.1.trans (hm.below HB.out.2.1.size (fun b hb q => by omega))))
    clear hB2 hm HB DV
    have NK := Lib.hid (NR.out V2 w.heap.size HB2.out.1)
    clear NR
    by_cases h0 : Q = 0
    · rw [if_pos h0] at NK
      have H0 := Lib.hid h0
      clear h0
      go_wp2_with fail
      refine NK.out.mono ?_
      rintro e' V3 ⟨rfl, hb3⟩
      have HC := Lib.hid (below_cc hb3 HB2.out.2).1
      clear hb3 NK HB2
      go_wp2
      go_returns
      exact ⟨_, rfl, ⟨_, _, _, rfl, .inl ⟨rfl, H0.out⟩⟩, HC.out⟩
    · rw [if_neg h0] at NK
      clear h0
      go_wp2_with fail
      refine NK.out.mono ?_
      rintro e' V3 ⟨rfl, hb3⟩
      have HC := Lib.hid (And.intro (below_cc hb3 HB2.out.2).1 (HB2.out.1.below hb3))
      clear hb3 NK HB2
      go_wp2
      go_returns
      exact ⟨_, rfl, ⟨_, _, _, rfl, .inr ⟨rfl, _, _, rfl, HC.out.2, rfl⟩⟩, HC.out.1⟩
set_option maxHeartbeats 4000000 in
theorem divw_any (v : Value) (S y : Nat) (hS : S < 18446744073709551616 * 18446744073709551616) (hy : 2 ≤ y) (hy2 : y < 9223372036854775808) (hq : S / y < 18446744073709551616) (w : World) (h : RN w v S) :
    Calls Tryz.prog 162 #[.slice none 0 0, v, .int .u64 y] w fun e' w' => ∃ vq, e' = .returned (.tuple #[vq, .int .u64 (S % y : Nat)]) ∧ QN w' vq (S / y) ∧ Below w.heap.size w w' := by
  obtain ⟨hS0, b, cap, cs, rfl, hb, hc0, hc1⟩ := h
  have y1 : (y == 0) = false := by simp; omega
  have y2 : ((y : Int) == 0) = false := by simp; omega
  have y3 : (y == 1) = false := by simp; omega
  have y4 : ((y : Int) == 1) = false := by simp; omega
  by_cases h1 : S < 18446744073709551616
  · have hl : lenN S = 1 := by unfold lenN; rw [if_pos h1, if_neg (by omega)]
    rw [Nat.mod_eq_of_lt h1] at hc0
    rw [hl]
    have DV := Lib.hid (fun V bz hz hc => divwvw1 bz b cap S y h1 (by omega) (by omega) V hz hc)
    obtain ⟨Q, hQ⟩ : ∃ k, S / y = k := ⟨_, rfl⟩
    obtain ⟨R, hR⟩ : ∃ k, S % y = k := ⟨_, rfl⟩
    rw [hQ, hR] at DV ⊢
    rw [hQ] at hq
    have NR := Lib.hid (fun V (bz : Nat) (hz : V.cell? ⟨bz, 0, none⟩ = some (.int .u64 Q)) => norm_any bz 1 1 (at6 Q 0 0) (by omega) (by omega) V (fun j hj => by
      have : j = 0 := by omega
      subst this
      exact hz))
    rw [nrm_one] at NR
    have HZ := Lib.hid (And.intro hb hc0)
    have HQ := Lib.hid hq
    clear hQ hR hq hb hc0 hc1 hl h1 hS hS0 hy hy2
    go_enter Tryz.func162, Tryz.ntmps162
    go_wp2_with fail
    refine (make_one _).mono ?_
    rintro e' V1 ⟨rfl, hB, hb1⟩
    have HB := Lib.hid (And.intro hB (And.intro hb1 ((HZ.out.1.below hb1).cell 0 HZ.out.2)))
    clear hB hb1 HZ
    go_wp2_with fail
    refine (DV.out _ _ HB.out.1 HB.out.2.2).mono ?_
    rintro e' V2 ⟨rfl, hB2, hm⟩
    have HB2 := Lib.hid (And.intro hB2 (HB.out.2.1.trans (hm.below HB.out.2.1.size (fun b hb q => by omega))))
    clear hB2 hm HB DV
    have NK := Lib.hid (NR.out V2 w.heap.size (HB2.out.1.cell 0 rfl))
    clear NR
    by_cases h0 : Q = 0
    · rw [if_pos h0] at NK
      have H0 := Lib.hid h0
      clear h0
      go_wp2_with fail
      refine NK.out.mono ?_
      rintro e' V3 ⟨rfl, hb3⟩
      have HC := Lib.hid (below_cc hb3 HB2.out.2).1
      clear hb3 NK HB2
      go_wp2
      go_returns
      exact ⟨_, rfl, ⟨_, _, _, rfl, .inl ⟨rfl, H0.out⟩⟩, HC.out⟩
    · rw [if_neg h0] at NK
      clear h0
      go_wp2_with fail
      refine NK.out.mono ?_
      rintro e' V3 ⟨rfl, hb3⟩
      have HC := Lib.hid (And.intro (below_cc hb3 HB2.out.2).1 (HB2.out.1.below hb3))
      clear hb3 NK HB2
      go_wp2
      go_returns
      exact ⟨_, rfl, ⟨_, _, _, rfl, .inr ⟨rfl, _, _, rfl, HC.out.2, rfl⟩⟩, HC.out.1⟩
  · have hl : lenN S = 2 := by unfold lenN; rw [if_neg h1]
    rw [hl]
    have hw := words_of S
    have hx0 : S % 18446744073709551616 < 18446744073709551616 := Nat.mod_lt _ (by omega)
    have hx1 : S / 18446744073709551616 < 18446744073709551616 := by rw [Nat.div_lt_iff_lt_mul (by omega)]; exact hS
    obtain ⟨x0, hx0e⟩ : ∃ k, S % 18446744073709551616 = k := ⟨_, rfl⟩
    obtain ⟨x1, hx1e⟩ : ∃ k, S / 18446744073709551616 = k := ⟨_, rfl⟩
    have hc1' := hc1 (by omega)
    rw [hx0e] at hc0 hx0 hw
    rw [hx1e] at hc1' hx1 hw
    have hlt : x1 < y := by
      rw [Nat.div_lt_iff_lt_mul (by omega)] at hq
      rcases Nat.lt_or_ge x1 y with g | g
      · exact g
      · have : y * 18446744073709551616 ≤ x1 * 18446744073709551616 := Nat.mul_le_mul_right _ g
        rw [Nat.mul_comm y] at this
        omega
    have DV := Lib.hid (fun V bz hne hz hxb => divwvw2 bz b cap x0 x1 y hx0 hx1 (by omega) hy2 hne V hz cs hxb hc0 hc1')
    rw [Nat.mod_eq_of_lt hlt, Nat.div_eq_of_lt hlt, hw] at DV
    have hn := (at6_nrm (a := S / y) (b := 0) hq).1
    rw [Nat.zero_mul, Nat.zero_add, lenN_one hq] at hn
    exact divw_two b cap y _ _ cs y2 y4 w DV hn (Lib.hid hb)
theorem setword_any (r : Nat) (w : World) :
    Calls Tryz.prog 163 #[.slice none 0 0, .int .u64 r] w fun e' w' => ∃ v, e' = .returned v ∧ QN w' v r ∧ Below w.heap.size w w' := by
  by_cases h0 : r = 0
  · subst h0
    go_enter Tryz.func163, Tryz.ntmps163
    go_wp2
    go_returns
    exact ⟨_, rfl, ⟨_, _, _, rfl, .inl ⟨rfl, rfl⟩⟩, by go_grown⟩
  · have y1 : (r == 0) = false := by simp; omega
    have y2 : ((r : Int) == 0) = false := by simp; omega
    clear h0
    go_enter Tryz.func163, Tryz.ntmps163
    go_wp2_with fail
    refine (make_one _).mono ?_
    rintro e' V ⟨rfl, hB, hb⟩
    have q0 := hB.cell (v := .int .u64 0) 0 rfl
    have qf := hB.free 0
    have ql := hB.lt
    have HX := Lib.hid (And.intro (show Bk (V.setCell ⟨w.heap.size, 0, none⟩ (.int .u64 r)) w.heap.size #[.int .u64 r] 171 from hB.put 0 _) (hb.setCell (p := ⟨w.heap.size, 0, none⟩) (Nat.le_refl _) (.int .u64 r)))
    clear hB hb
    go_wp2
    go_returns
    exact ⟨_, rfl, ⟨_, _, _, rfl, .inr ⟨rfl, _, _, rfl, HX.out.1, rfl⟩⟩, HX.out.2⟩
set_option maxHeartbeats 4000000 in
theorem ndiv_any (v : Value) (bv S y c2 c3 c4 c5 c1 : Nat) (hS : S < 18446744073709551616 * 18446744073709551616) (hy : 2 ≤ y) (hy2 : y < 9223372036854775808) (hq : S / y < 18446744073709551616) (w : World) (h : RN w v S) (hv : Bk w bv (W6 y c1 c2 c3 c4 c5) 171) :
    Calls Tryz.prog 148 #[.slice none 0 0, .pointer none, .slice none 0 0, v, .slice (some ⟨bv, 0, none⟩) 1 6] w fun e' w' => ∃ vq vr, e' = .returned (.tuple #[vq, vr]) ∧ QN w' vq (S / y) ∧ QN w' vr (S % y) ∧ Below w.heap.size w w' := by
  have DV := Lib.hid (divw_any v S y hS hy hy2 hq w h)
  have k0 := hv.cell (v := .int .u64 y) 0 rfl
  have kl := hv.lt
  obtain ⟨Q, hQ⟩ : ∃ k, S / y = k := ⟨_, rfl⟩
  obtain ⟨R, hR⟩ : ∃ k, S % y = k := ⟨_, rfl⟩
  rw [hQ, hR] at DV ⊢
  obtain ⟨hS0, b, cap, cs, rfl, -⟩ := h
  clear hQ hR hS hy hy2 hq hv hS0
  obtain ⟨n, hn⟩ : ∃ n, lenN S = n := ⟨_, rfl⟩
  rw [hn] at DV ⊢
  clear hn
  go_enter Tryz.func148, Tryz.ntmps148
  go_wp2_with fail
  refine DV.out.mono ?_
  rintro e' V ⟨vq, rfl, hq, hb⟩
  have HB := Lib.hid (And.intro hq hb)
  obtain ⟨a, n2, c, rfl, -⟩ := hq
  clear hb DV k0 kl
  go_wp2_with fail
  refine (setword_any R _).mono ?_
  rintro e' V2 ⟨vr, rfl, hr, hb2⟩
  have HC := Lib.hid (And.intro (HB.out.1.below hb2) (And.intro hr (below_cc hb2 HB.out.2).1))
  obtain ⟨a3, n3, c3, rfl, -⟩ := hr
  clear hb2 HB
  go_wp2
  go_returns
  exact ⟨_, _, rfl, HC.out.1, HC.out.2.1, HC.out.2.2⟩
end Go.Proofs.YtghfggfgndgkjaaGreatDoor
