/- math/big: nat.set, nat.add with nought, and with a number of two words. -/
import Derived.Test.YtghfggfgndgkjaaGreatDoorBigAdd2
import Derived.Laws.CopyRow
import Derived.Laws.IdiomCopy
set_option linter.unusedVariables false
set_option linter.unusedSimpArgs false
namespace Go.Proofs.YtghfggfgndgkjaaGreatDoor
open Go.RowKit
set_option maxRecDepth 100000
attribute [local go_sem] opLow opUpon opLow2 opUpon2 opLow3

set_option maxHeartbeats 4000000 in
theorem nset_one (gy c : Nat) (w : World) (hy : Bk w gy #[.int .u64 c] 171) :
    Calls Tryz.prog 131 #[.slice none 0 0, .slice (some ⟨gy, 0, none⟩) 1 1] w fun e' w' => e' = .returned (.slice (some ⟨w.heap.size, 0, none⟩) 1 1) ∧ Bk w' w.heap.size #[.int .u64 c] 171 ∧ Below w.heap.size w w' := by
  have HY := Lib.hid hy
  clear hy
  go_enter Tryz.func131, Tryz.ntmps131
  go_wp2_with fail
  refine (make_one _).mono ?_
  rintro e' V ⟨rfl, hB, hb⟩
  have g0 := (HY.out.below hb).cell (v := .int .u64 c) 0 rfl
  have hcp : ∃ V2, (∀ ty, (Builtin.copy_ #[144, 144] ty #[.slice (some ⟨w.heap.size, 0, none⟩) 1 1, .slice (some ⟨gy, 0, none⟩) 1 1]).run Tryz.prog V = .ok (goInt 1) V2) ∧ Below w.heap.size w V2 ∧ Bk V2 w.heap.size #[.int .u64 c] 171 := by
    refine ⟨_, fun ty => run_copy_cells V 144 144 ty 171 w.heap.size 0 1 1 ⟨gy, 0, none⟩ 1 1 [.int .u64 c] (by kernel_rfl) (by kernel_rfl) rfl ?_ ?_ ?_ ?_, ?_, ?_⟩
    · intro j v hj
      match j, hj with
      | 0, hj => simp at hj; subst hj; exact g0
    · intro j hj
      match j, hj with
      | 0, hj => rw [show V.cell? ⟨w.heap.size, 0 + 0, none⟩ = some (.int .u64 0) from hB.cell 0 rfl]; rfl
      | n + 1, hj => first | (simp at hj; done) | (simp at hj; omega)
    · intro j hj; exact hB.free _
    · intro v hv; simp at hv; rcases hv with rfl <;> rfl
    · exact (hb.setCell (p := ⟨w.heap.size, 0, none⟩) (Nat.le_refl _) (.int .u64 c))
    · exact (hB.put 0 (.int .u64 c))
  obtain ⟨V2, hcp, hb2, C5⟩ := hcp
  have HC := Lib.hid (And.intro C5 hb2)
  clear C5 hb2 hB hb g0 HY
  go_wp2
  go_returns
  exact ⟨rfl, HC.out.1, HC.out.2⟩
theorem nadd_z1 (gy c : Nat) (w : World) (hy : Bk w gy #[.int .u64 c] 171) :
    Calls Tryz.prog 120 #[.slice none 0 0, .slice (some ⟨gy, 0, none⟩) 1 1, .slice none 0 0] w fun e' w' => e' = .returned (.slice (some ⟨w.heap.size, 0, none⟩) 1 1) ∧ Bk w' w.heap.size #[.int .u64 c] 171 ∧ Below w.heap.size w w' := by
  have NS := Lib.hid (nset_one gy c w hy)
  clear hy
  go_enter Tryz.func120, Tryz.ntmps120
  go_wp2_with fail
  refine NS.out.mono ?_
  rintro e' V ⟨rfl, hB⟩
  have HC := Lib.hid hB
  clear hB NS
  go_wp2
  go_returns
  exact ⟨rfl, HC.out⟩
theorem nadd_z2 (gy c : Nat) (w : World) (hy : Bk w gy #[.int .u64 c] 171) :
    Calls Tryz.prog 120 #[.slice none 0 0, .slice none 0 0, .slice (some ⟨gy, 0, none⟩) 1 1] w fun e' w' => e' = .returned (.slice (some ⟨w.heap.size, 0, none⟩) 1 1) ∧ Bk w' w.heap.size #[.int .u64 c] 171 ∧ Below w.heap.size w w' := by
  have NS := Lib.hid (nadd_z1 gy c w hy)
  clear hy
  go_enter Tryz.func120, Tryz.ntmps120
  go_wp2_with fail
  refine NS.out.mono ?_
  rintro e' V ⟨rfl, hB⟩
  have HC := Lib.hid hB
  clear hB NS
  go_wp2
  go_returns
  exact ⟨rfl, HC.out⟩
theorem nadd_re (b Q c gy : Nat) (hQ0 : 0 < Q) (hc : c < 18446744073709551616) (hQc : Q < 18446744073709551616 * 18446744073709551615) (w : World) (hz : Bk w b (W6 (Q % 18446744073709551616) (Q / 18446744073709551616) 0 0 0 0) 171) (hy : Bk w gy #[.int .u64 c] 171) :
    Calls Tryz.prog 120 #[.slice (some ⟨b, 0, none⟩) (lenN Q) 6, .slice (some ⟨b, 0, none⟩) (lenN Q) 6, .slice (some ⟨gy, 0, none⟩) 1 1] w fun e' w' => e' = .returned (.slice (some ⟨b, 0, none⟩) (lenN (Q + c)) 6) ∧ Bk w' b (W6 ((Q + c) % 18446744073709551616) ((Q + c) / 18446744073709551616) 0 0 0 0) 171 ∧ Mut (fun k => k = b) w w' := by
  by_cases h : Q < 18446744073709551616
  · have hl : lenN Q = 1 := by unfold lenN; rw [if_pos h, if_neg (by omega)]
    rw [Nat.mod_eq_of_lt h, Nat.div_eq_of_lt h] at hz
    rw [hl]
    exact nadd_one b Q c gy hQ0 h hc w hz hy
  · have hl : lenN Q = 2 := by unfold lenN; rw [if_neg h]
    have hl2 : lenN (Q + c) = 2 := by unfold lenN; rw [if_neg (by omega)]
    have e1 : (Q % 18446744073709551616 + c) % 18446744073709551616 = (Q + c) % 18446744073709551616 := by omega
    have e2 : Q / 18446744073709551616 + (Q % 18446744073709551616 + c) / 18446744073709551616 = (Q + c) / 18446744073709551616 := by omega
    have e3 : Q / 18446744073709551616 < 18446744073709551615 := by rw [Nat.div_lt_iff_lt_mul (by omega), Nat.mul_comm]; exact hQc
    have := nadd_two b (Q % 18446744073709551616) (Q / 18446744073709551616) c gy (Nat.mod_lt _ (by omega)) hc (by omega) (by omega) w hz hy
    rw [e1, e2] at this
    rw [hl, hl2]
    exact this
end Go.Proofs.YtghfggfgndgkjaaGreatDoor
