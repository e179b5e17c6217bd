/- The walk of package wide: the root bit by bit. -/
import Derived.Test.YtolifgjkejhlhaaWide2
set_option linter.unusedVariables false
set_option linter.unusedSimpArgs false
namespace Go.Proofs.Ytolifgjkejhlhaa
open Go.RowKit

theorem or_bit (r p : Int) (i : Nat) (hi : i < 64) (hp : p = 2 ^ (63 - i)) (h0 : 0 ≤ r) (h1 : r + 2 * p ≤ 18446744073709551616) (h2 : r % (2 * p) = 0) (hpp : 0 < p) : bits .or .u64 r p = r + p := by
  have h := u64_or r p h0 (by omega) (by omega) (by omega)
  have hpn : p.toNat = 2 ^ (63 - i) := by
    rw [hp]
    have : ((2 : Int) ^ (63 - i)) = ((2 ^ (63 - i) : Nat) : Int) := by simp
    rw [this, Int.toNat_natCast]
  rw [h, nat_join (63 - i + 1) _ _ ?_ ?_]
  · omega
  · have e : (2 : Nat) ^ (63 - i + 1) = (2 * p).toNat := by rw [Nat.pow_succ]; omega
    rw [e]
    have : ((r.toNat % (2 * p).toNat : Nat) : Int) = r % (2 * p) := by rw [Int.natCast_emod, Int.toNat_of_nonneg h0, Int.toNat_of_nonneg (by omega)]
    omega
  · rw [hpn]; exact Nat.pow_lt_pow_right (by decide) (by omega)

theorem below_after {w V W w1 : World} (h : Below w.heap.size w V) (h0 : Below V.heap.size V W) (hb : Below W.heap.size W w1) : Below w.heap.size w w1 :=
  (h.trans (h0.mono h.size)).trans (hb.mono (Nat.le_trans h.size h0.size))
theorem below_two {w w1 w2 : World} (h : Below w.heap.size w w1) (hb : Below w1.heap.size w1 w2) : Below w.heap.size w w2 := h.trans (hb.mono h.size)

set_option maxHeartbeats 1000000 in
theorem root_any (h l : Int) (h0 : 0 ≤ h) (h1 : h ≤ 18446744073709551615) (l0 : 0 ≤ l) (l1 : l ≤ 18446744073709551615) (w : World) :
    Calls Try.prog 74 #[.agg #[.int .u64 h, .int .u64 l]] w fun e w' => e = .returned (.int .u64 (rtw h l)) ∧ Below w.heap.size w w' := by
  have hst := rootInv_start (h * 18446744073709551616 + l) (by omega) (by omega)
  go_enter Try.func74, Try.ntmps74
  go_wp2
  go_loopw [3, 6] (fun v3 v6 wr => ∃ (k : Nat) (r : Int), k ≤ 64 ∧ v6 = .int .i64 k ∧ v3 = .int .u64 r ∧ RootInv (h * 18446744073709551616 + l) k r ∧ wr.cell? ⟨w.heap.size, 0, none⟩ = some (.int .u64 h) ∧ wr.cell? ⟨w.heap.size, 1, none⟩ = some (.int .u64 l) ∧ Below w.heap.size w wr) (fun _ v6 _ => 64 - (intOf v6).toNat)
  case atStart => exact ⟨0, 0, by omega, rfl, rfl, hst, by simp [go_sem], by simp [go_sem], by go_grown⟩
  case round =>
    obtain ⟨k, r, hk, rfl, rfl, hI, c1, c2, hB⟩ := hrel
    by_cases hlt : k < 64
    · have hT := rootInv_step _ k r _ hlt rfl hI
      clear hI hst
      obtain ⟨⟨t1, t2, t3, t4, t5⟩, hT⟩ := hT
      have hor := or_bit r _ k hlt rfl t1 t4 t5 t2
      obtain ⟨nx, hnx⟩ : ∃ nx, nx = r + 2 ^ (63 - k) := ⟨_, rfl⟩
      have hnx2 : bits .or .u64 r (IntKind.u64.wrap (2 ^ (63 - k))) = nx := by
        rw [show IntKind.u64.wrap (2 ^ (63 - k)) = 2 ^ (63 - k) by rw [IntKind.wrap_u64]; omega, hor, hnx]
      rw [← hnx] at hT
      have n0 : 0 ≤ nx := by omega
      have n1 : nx ≤ 18446744073709551615 := by omega
      have m0 := tml_nonneg nx nx
      have m1 := tml_le nx nx
      have hq := tm_eq nx nx
      have HT := Lib.hid hT
      have HQ := Lib.hid hq
      clear hT hq hor hnx t5 t4 t3 t2
      by_cases hl : ltw h l (tmh nx nx) (tml nx nx) = true
      · have hr : RootInv (h * 18446744073709551616 + l) (k + 1) r := by
          refine HT.out.2 ?_
          unfold ltw at hl
          rw [HQ.out] at hl
          simpa using hl
        have HR := Lib.hid hr
        clear hr
        go_wp2
        go_region_held3 (fun w' => w'.cell? ⟨w.heap.size, 0, none⟩ = some (.int .u64 h) ∧ w'.cell? ⟨w.heap.size, 1, none⟩ = some (.int .u64 l)) (first | exact keep2 (by assumption) (by assumption) | (simp [go_sem, c1, c2]; done) | (simp [go_sem, *]; done))
          (first
            | (go_at_call 92; refine (times_any _ _ (by assumption) (by assumption) (by assumption) (by assumption) _).mono ?_; rintro e w1 ⟨rfl, hb1⟩; have hg1 := below_after hB (by go_grown) hb1; have hb1 := hb1)
            | (go_at_call 80; refine (less_any _ _ _ _ (by assumption) (by assumption) (by assumption) (by assumption) _).mono ?_; rintro e w2 ⟨rfl, hb2⟩; have hg2 := below_two (w := w) (by assumption) hb2; have hb2 := hb2; obtain ⟨hc2, hf2⟩ := bcell hb2))
        all_goals
          go_wp2
          go_roundw
          case rel => exact ⟨k + 1, r, by omega, by go_num, rfl, HR.out, by first | (with_reducible assumption) | simp [*], by first | (with_reducible assumption) | simp [*], by with_reducible assumption⟩
          case measure => simp [intOf]; omega
      · have hr : RootInv (h * 18446744073709551616 + l) (k + 1) nx := by
          refine HT.out.1 ?_
          unfold ltw at hl
          rw [HQ.out] at hl
          simpa using hl
        have HR := Lib.hid hr
        have hl : ltw h l (tmh nx nx) (tml nx nx) = false := by simpa using hl
        clear hr
        go_wp2
        go_region_held3 (fun w' => w'.cell? ⟨w.heap.size, 0, none⟩ = some (.int .u64 h) ∧ w'.cell? ⟨w.heap.size, 1, none⟩ = some (.int .u64 l)) (first | exact keep2 (by assumption) (by assumption) | (simp [go_sem, c1, c2]; done) | (simp [go_sem, *]; done))
          (first
            | (go_at_call 92; refine (times_any _ _ (by assumption) (by assumption) (by assumption) (by assumption) _).mono ?_; rintro e w1 ⟨rfl, hb1⟩; have hg1 := below_after hB (by go_grown) hb1; have hb1 := hb1)
            | (go_at_call 80; refine (less_any _ _ _ _ (by assumption) (by assumption) (by assumption) (by assumption) _).mono ?_; rintro e w2 ⟨rfl, hb2⟩; have hg2 := below_two (w := w) (by assumption) hb2; have hb2 := hb2; obtain ⟨hc2, hf2⟩ := bcell hb2))
        all_goals
          go_wp2
          go_roundw
          case rel => exact ⟨k + 1, nx, by omega, by go_num, rfl, HR.out, by first | (with_reducible assumption) | simp [*], by first | (with_reducible assumption) | simp [*], by with_reducible assumption⟩
          case measure => simp [intOf]; omega
    · have hk' : k = 64 := by omega
      subst hk'
      have hr := rootInv_end _ _ hI
      have HR := Lib.hid hr
      clear hr hI hst
      go_wp2
      go_returns
      exact ⟨by rw [HR.out]; rfl, by go_grown⟩
end Go.Proofs.Ytolifgjkejhlhaa
