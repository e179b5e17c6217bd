/- FixedSaturates: the walk: whatever the arguments are, it returns true and writes nothing that was there. -/
import Derived.Test.YtolifgjkejhlhaaAwake1
import Derived.OpenShut
import Derived.Deep.DeepCutAuto
import Derived.Deep.CutBlock
set_option linter.unusedVariables false
set_option linter.unusedSimpArgs false
namespace Go.Proofs.Ytolifgjkejhlhaa
open Go.RowKit

theorem add_val (a b v : Int) (h : (-9223372036854775808 ≤ a ∧ a ≤ 9223372036854775807 ∧ -9223372036854775808 ≤ b ∧ b ≤ 9223372036854775807) ∧ sat (a + b) = v) (w : World) :
    Calls Try.prog 35 #[.int .i64 a, .int .i64 b] w fun e w' => e = .returned (.int .i64 v) ∧ Below w.heap.size w w' := by
  obtain ⟨⟨h1, h2, h3, h4⟩, rfl⟩ := h
  exact add_any a b h1 h2 h3 h4 w
theorem sub_val (a b v : Int) (h : (-9223372036854775808 ≤ a ∧ a ≤ 9223372036854775807 ∧ -9223372036854775808 ≤ b ∧ b ≤ 9223372036854775807) ∧ sat (a - b) = v) (w : World) :
    Calls Try.prog 36 #[.int .i64 a, .int .i64 b] w fun e w' => e = .returned (.int .i64 v) ∧ Below w.heap.size w w' := by
  obtain ⟨⟨h1, h2, h3, h4⟩, rfl⟩ := h
  exact sub_any a b h1 h2 h3 h4 w
theorem abs_val (a v : Int) (h : (-9223372036854775808 ≤ a ∧ a ≤ 9223372036854775807) ∧ sat (a.natAbs : Int) = v) (w : World) :
    Calls Try.prog 34 #[.int .i64 a] w fun e w' => e = .returned (.int .i64 v) ∧ Below w.heap.size w w' := by
  obtain ⟨⟨h1, h2⟩, rfl⟩ := h
  exact abs_any a h1 h2 w

set_option maxRecDepth 100000 in
set_option maxHeartbeats 16000000 in
theorem saturates_core (a0 a1 a2 S D : Int) (x1 : -9223372036854775808 ≤ a0) (x2 : a0 ≤ 9223372036854775807) (y1 : -9223372036854775808 ≤ a1) (y2 : a1 ≤ 9223372036854775807) (z1 : -9223372036854775808 ≤ a2) (z2 : a2 ≤ 9223372036854775807) (hS : sat (a0 + a1) = S) (hD : sat (a0 - a1) = D) (w : World) :
    Calls Try.prog 9 #[.int .i64 a0, .int .i64 a1, .int .i64 a2] w fun e w' => e = .returned (.bool true) ∧ Below w.heap.size w w' := by
  have HS := Lib.hid hS
  have HD := Lib.hid hD
  have V1 := Lib.hid (show (-9223372036854775808 ≤ a0 ∧ a0 ≤ 9223372036854775807 ∧ -9223372036854775808 ≤ a1 ∧ a1 ≤ 9223372036854775807) ∧ sat (a0 + a1) = S from ⟨⟨x1, x2, y1, y2⟩, hS⟩)
  have V2 := Lib.hid (show (-9223372036854775808 ≤ a1 ∧ a1 ≤ 9223372036854775807 ∧ -9223372036854775808 ≤ a0 ∧ a0 ≤ 9223372036854775807) ∧ sat (a1 + a0) = S from ⟨⟨y1, y2, x1, x2⟩, by rw [Int.add_comm]; exact hS⟩)
  have V3 := Lib.hid (show (-9223372036854775808 ≤ a0 ∧ a0 ≤ 9223372036854775807 ∧ -9223372036854775808 ≤ a1 ∧ a1 ≤ 9223372036854775807) ∧ sat (a0 - a1) = D from ⟨⟨x1, x2, y1, y2⟩, hD⟩)
  clear hS hD
  go_enter Try.func9, Try.ntmps9
  go_upto_block 0 with (first
    | (go_at_call 35; with_reducible refine (add_val a0 a1 S V1.out _).mono ?_; rintro e w1 ⟨rfl, hb1⟩; obtain ⟨hg1, hs1⟩ := below_c (w := w) hb1 (by go_grown); clear hb1)
    | (go_at_call 36; with_reducible refine (sub_val a0 a1 D V3.out _).mono ?_; rintro e w1 ⟨rfl, hb1⟩; obtain ⟨hg1, hs1⟩ := below_c (w := w) hb1 (by go_grown); clear hb1))
  go_cut [9] (fun s9 wx => s9 = .int .i64 S ∧ Below w.heap.size w wx)
  case first =>
    rcases (by omega : 9223372036854775807 < a0 + a1 ∨ a0 + a1 < -9223372036854775808 ∨ (-9223372036854775808 ≤ a0 + a1 ∧ a0 + a1 ≤ 9223372036854775807)) with h | h | ⟨h, h'⟩
    · obtain ⟨W', hW⟩ : ∃ W', wrap64 (a0 + a1) = W' := ⟨_, rfl⟩
      have hW2 : W' ≤ -1 := by rw [← hW]; unfold wrap64; omega
      have hSM := Lib.hid (show S = 9223372036854775807 by rw [← HS.out]; unfold sat; omega)
      go_wp2_with fail
      all_goals
        go_meet
        exact ⟨by first | (rw [hSM.out]; done) | (rw [hSM.out, hW]; done), by go_grown⟩
    · obtain ⟨W', hW⟩ : ∃ W', wrap64 (a0 + a1) = W' := ⟨_, rfl⟩
      have hW2 : 0 ≤ W' := by rw [← hW]; unfold wrap64; omega
      have hSM := Lib.hid (show S = -9223372036854775808 by rw [← HS.out]; unfold sat; omega)
      go_wp2_with fail
      all_goals
        go_meet
        exact ⟨by first | (rw [hSM.out]; done) | (rw [hSM.out, hW]; done), by go_grown⟩
    · obtain ⟨W', hW⟩ : ∃ W', wrap64 (a0 + a1) = W' := ⟨_, rfl⟩
      have hW1 : W' ≤ a0 + a1 := by rw [← hW]; unfold wrap64; omega
      have hW2 : a0 + a1 ≤ W' := by rw [← hW]; unfold wrap64; omega
      have hSM := Lib.hid (show S = wrap64 (a0 + a1) by rw [← HS.out]; unfold sat wrap64; omega)
      go_wp2_with fail
      all_goals
        go_meet
        exact ⟨by first | (rw [hSM.out]; done) | (rw [hSM.out, hW]; done), by go_grown⟩
  case rest =>
    obtain ⟨rfl, hB1⟩ := hcut
    clear HS V1
    go_upto_region 7 with fail
    go_cut [92] (fun s wx => s = .bool false ∧ Below w.heap.size w wx)
    case first =>
      by_cases hb : a1 = -9223372036854775808
      · subst hb
        by_cases h0 : 0 ≤ a0
        · have d1 : (D != 9223372036854775807) = false := by
            have : D = 9223372036854775807 := by rw [← HD.out]; unfold sat; omega
            rw [this]; rfl
          go_wp2_with (go_at_call 35; with_reducible refine (add_val _ a0 S V2.out _).mono ?_; rintro e w1 ⟨rfl, hb1⟩; obtain ⟨hg1, hs1⟩ := below_c (w := w) hb1 (by go_grown); clear hb1)
          all_goals
            go_meet
            exact ⟨by first | rfl | (simp; omega), by go_grown⟩
        · have d1 : D ≤ a0 - -9223372036854775808 := by rw [← HD.out]; unfold sat; omega
          have d2 : a0 - -9223372036854775808 ≤ D := by rw [← HD.out]; unfold sat; omega
          go_wp2_with (go_at_call 35; with_reducible refine (add_val _ a0 S V2.out _).mono ?_; rintro e w1 ⟨rfl, hb1⟩; obtain ⟨hg1, hs1⟩ := below_c (w := w) hb1 (by go_grown); clear hb1)
          all_goals
            go_meet
            exact ⟨by first | rfl | (simp; omega), by go_grown⟩
      · have y3 : -9223372036854775807 ≤ a1 := by omega
        have V4 := Lib.hid (show (-9223372036854775808 ≤ a0 ∧ a0 ≤ 9223372036854775807 ∧ -9223372036854775808 ≤ -a1 ∧ -a1 ≤ 9223372036854775807) ∧ sat (a0 + -a1) = D from ⟨⟨x1, x2, by omega, by omega⟩, by rw [← HD.out]; rfl⟩)
        go_wp2_with (first
          | (go_at_call 35; with_reducible refine (add_val a1 a0 S V2.out _).mono ?_; rintro e w1 ⟨rfl, hb1⟩; obtain ⟨hg1, hs1⟩ := below_c (w := w) hb1 (by go_grown); clear hb1)
          | (go_at_call 35; with_reducible refine (add_val a0 (-a1) D V4.out _).mono ?_; rintro e w1 ⟨rfl, hb1⟩; obtain ⟨hg1, hs1⟩ := below_c (w := w) hb1 (by go_grown); clear hb1))
        all_goals
          go_meet
          exact ⟨rfl, by go_grown⟩
    case rest =>
      obtain ⟨rfl, hB2⟩ := hcut
      clear HD V2 V3 hB1
      go_upto_region 9 with fail
      go_cut [10, 11] (fun s t wx => ∃ lo hi : Int, s = .int .i64 lo ∧ t = .int .i64 hi ∧ lo ≤ hi ∧ -9223372036854775808 ≤ lo ∧ hi ≤ 9223372036854775807 ∧ Below w.heap.size w wx)
      case first =>
        rcases (by omega : a0 < a2 ∨ a2 < a0 ∨ a0 = a2) with h | h | h
        · go_wp2_with fail
          go_meet
          exact ⟨a0, a2, rfl, rfl, by omega, by omega, by omega, by go_grown⟩
        · go_wp2_with fail
          go_meet
          exact ⟨a2, a0, rfl, rfl, by omega, by omega, by omega, by go_grown⟩
        · subst h
          go_wp2_with fail
          go_meet
          exact ⟨a0, a0, rfl, rfl, by omega, by omega, by omega, by go_grown⟩
      case rest =>
        obtain ⟨lo, hi, rfl, rfl, l1, l2, l3, hB3⟩ := hcut
        have m1 := sat_mono (lo + a1) (hi + a1) (by omega)
        have m2 := sat_mono (lo - a1) (hi - a1) (by omega)
        have m3 := sat_mono (a1 - hi) (a1 - lo) (by omega)
        clear hB2
        go_upto_region 12 with (first
          | (go_at_call 35; refine (add_any _ _ (by omega) (by omega) (by omega) (by omega) _).mono ?_; rintro e w1 ⟨rfl, hb1⟩; obtain ⟨hg1, hs1⟩ := below_c (w := w) hb1 (by go_grown); clear hb1)
          | (go_at_call 36; refine (sub_any _ _ (by omega) (by omega) (by omega) (by omega) _).mono ?_; rintro e w1 ⟨rfl, hb1⟩; obtain ⟨hg1, hs1⟩ := below_c (w := w) hb1 (by go_grown); clear hb1))
        rcases (by omega : 0 ≤ a0 ∨ (a0 < 0 ∧ -9223372036854775807 ≤ a0) ∨ a0 = -9223372036854775808) with h | ⟨h, h'⟩ | h
        · have V5 := Lib.hid (show (-9223372036854775808 ≤ a0 ∧ a0 ≤ 9223372036854775807) ∧ sat (a0.natAbs : Int) = a0 from ⟨⟨x1, x2⟩, by unfold sat; omega⟩)
          go_wp2_with (first
            | (go_at_call 34; with_reducible refine (abs_val a0 a0 V5.out _).mono ?_; rintro e w1 ⟨rfl, hb1⟩; obtain ⟨hg1, hs1⟩ := below_c (w := w) hb1 (by go_grown); clear hb1)
            | (go_at_call 26; refine (awake01 _).mono ?_; rintro e w1 ⟨rfl, hb1⟩; obtain ⟨hg1, hs1⟩ := below_c (w := w) hb1 (by go_grown); clear hb1))
          go_returns
          exact ⟨rfl, by go_grown⟩
        · have V5 := Lib.hid (show (-9223372036854775808 ≤ a0 ∧ a0 ≤ 9223372036854775807) ∧ sat (a0.natAbs : Int) = -a0 from ⟨⟨x1, x2⟩, by unfold sat; omega⟩)
          go_wp2_with (first
            | (go_at_call 34; with_reducible refine (abs_val a0 (-a0) V5.out _).mono ?_; rintro e w1 ⟨rfl, hb1⟩; obtain ⟨hg1, hs1⟩ := below_c (w := w) hb1 (by go_grown); clear hb1)
            | (go_at_call 26; refine (awake01 _).mono ?_; rintro e w1 ⟨rfl, hb1⟩; obtain ⟨hg1, hs1⟩ := below_c (w := w) hb1 (by go_grown); clear hb1))
          all_goals
            go_returns
            exact ⟨rfl, by go_grown⟩
        · subst h
          have hwm : wrap64 9223372036854775808 = -9223372036854775808 := by unfold wrap64; decide
          go_wp2_with (first
            | (go_at_call 34; with_reducible refine (abs_val (-9223372036854775808) 9223372036854775807 (by decide) _).mono ?_; rintro e w1 ⟨rfl, hb1⟩; obtain ⟨hg1, hs1⟩ := below_c (w := w) hb1 (by go_grown); clear hb1)
            | (go_at_call 26; refine (awake01 _).mono ?_; rintro e w1 ⟨rfl, hb1⟩; obtain ⟨hg1, hs1⟩ := below_c (w := w) hb1 (by go_grown); clear hb1))
          all_goals
            go_returns
            exact ⟨rfl, by go_grown⟩

theorem walk_FixedSaturates (a0 : Int) (a1 : Int) (a2 : Int) (w0 : (Lit.int .i64 a0).wf = true) (w1 : (Lit.int .i64 a1).wf = true) (w2 : (Lit.int .i64 a2).wf = true) (w : World) :
    Calls Try.prog 9 #[.int .i64 a0, .int .i64 a1, .int .i64 a2] w fun e w' => e = .returned (.bool true) ∧ Below w.heap.size w w' := by
  obtain ⟨x1, x2⟩ := bounds_i64 w0
  obtain ⟨y1, y2⟩ := bounds_i64 w1
  obtain ⟨z1, z2⟩ := bounds_i64 w2
  exact saturates_core a0 a1 a2 _ _ x1 x2 y1 y2 z1 z2 rfl rfl w
end Go.Proofs.Ytolifgjkejhlhaa
