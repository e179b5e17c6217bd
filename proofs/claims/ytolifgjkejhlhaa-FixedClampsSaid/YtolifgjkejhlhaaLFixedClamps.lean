/- FixedClamps: the walk: whatever the arguments are, it returns true and writes nothing that was there. -/
import Derived.Test.YtolifgjkejhlhaaAwake1
import Derived.OpenShut
set_option linter.unusedVariables false
set_option linter.unusedSimpArgs false
namespace Go.Proofs.Ytolifgjkejhlhaa
open Go.RowKit

set_option maxRecDepth 100000 in
set_option maxHeartbeats 8000000 in
theorem clamps_lt (a0 a1 a2 a3 : Int) (hlt : a2 < a3) (w : World) :
    Calls Try.prog 6 #[.int .i64 a0, .int .i64 a1, .int .i64 a2, .int .i64 a3] w fun e w' => e = .returned (.bool true) ∧ Below w.heap.size w w' := by
  obtain ⟨X, hX⟩ : ∃ X, min a3 (max a0 a2) = X := ⟨_, rfl⟩
  obtain ⟨Y, hY⟩ : ∃ Y, min a3 (max a1 a2) = Y := ⟨_, rfl⟩
  have HX := Lib.hid hX
  have HY := Lib.hid hY
  have HXX := Lib.hid (show min a3 (max X a2) = X by omega)
  have HS := Lib.hid (show min a2 (max a0 a3) = a2 by omega)
  have x1 : a2 ≤ X := by omega
  have x2 : X ≤ a3 := by omega
  rcases (by omega : a0 ≤ a1 ∧ X ≤ Y ∨ a1 < a0 ∧ Y ≤ X) with ⟨o1, o2⟩ | ⟨o1, o2⟩
  all_goals
    clear hY
    rcases (by omega : a0 < a2 ∧ a2 = X ∨ (a2 ≤ a0 ∧ a0 ≤ a3) ∧ a0 = X ∨ a3 < a0 ∧ a3 = X) with ⟨o3, o4⟩ | ⟨⟨o3, o5⟩, o4⟩ | ⟨o3, o4⟩
  · clear hX; subst o4
    go_enter Try.func6, Try.ntmps6
    go_wp2_with (first
      | (go_at_call 31; with_reducible refine (clamp_val a0 a2 a3 a2 HX.out _).mono ?_; rintro e w1 ⟨rfl, hb1⟩; obtain ⟨hg1, hs1⟩ := below_c (w := w) hb1 (by go_grown); clear hb1)
      | (go_at_call 31; with_reducible refine (clamp_val a1 a2 a3 Y HY.out _).mono ?_; rintro e w1 ⟨rfl, hb1⟩; obtain ⟨hg1, hs1⟩ := below_c (w := w) hb1 (by go_grown); clear hb1)
      | (go_at_call 31; with_reducible refine (clamp_val a2 a2 a3 a2 HXX.out _).mono ?_; rintro e w1 ⟨rfl, hb1⟩; obtain ⟨hg1, hs1⟩ := below_c (w := w) hb1 (by go_grown); clear hb1)
      | (go_at_call 31; with_reducible refine (clamp_val a0 a3 a2 a2 HS.out _).mono ?_; rintro e w1 ⟨rfl, hb1⟩; obtain ⟨hg1, hs1⟩ := below_c (w := w) hb1 (by go_grown); clear hb1)
      | (go_at_call 26; refine (awake01 _).mono ?_; rintro e w1 ⟨rfl, hb1⟩; obtain ⟨hg1, hs1⟩ := below_c (w := w) hb1 (by go_grown); clear hb1))
    go_returns
    exact ⟨rfl, by go_grown⟩
  · clear hX; subst o4
    go_enter Try.func6, Try.ntmps6
    go_wp2_with (first
      | (go_at_call 31; with_reducible refine (clamp_val a0 a2 a3 a0 HX.out _).mono ?_; rintro e w1 ⟨rfl, hb1⟩; obtain ⟨hg1, hs1⟩ := below_c (w := w) hb1 (by go_grown); clear hb1)
      | (go_at_call 31; with_reducible refine (clamp_val a1 a2 a3 Y HY.out _).mono ?_; rintro e w1 ⟨rfl, hb1⟩; obtain ⟨hg1, hs1⟩ := below_c (w := w) hb1 (by go_grown); clear hb1)
      | (go_at_call 31; with_reducible refine (clamp_val a0 a2 a3 a0 HXX.out _).mono ?_; rintro e w1 ⟨rfl, hb1⟩; obtain ⟨hg1, hs1⟩ := below_c (w := w) hb1 (by go_grown); clear hb1)
      | (go_at_call 31; with_reducible refine (clamp_val a0 a3 a2 a2 HS.out _).mono ?_; rintro e w1 ⟨rfl, hb1⟩; obtain ⟨hg1, hs1⟩ := below_c (w := w) hb1 (by go_grown); clear hb1)
      | (go_at_call 26; refine (awake01 _).mono ?_; rintro e w1 ⟨rfl, hb1⟩; obtain ⟨hg1, hs1⟩ := below_c (w := w) hb1 (by go_grown); clear hb1))
    go_returns
    exact ⟨rfl, by go_grown⟩
  · clear hX; subst o4
    go_enter Try.func6, Try.ntmps6
    go_wp2_with (first
      | (go_at_call 31; with_reducible refine (clamp_val a0 a2 a3 a3 HX.out _).mono ?_; rintro e w1 ⟨rfl, hb1⟩; obtain ⟨hg1, hs1⟩ := below_c (w := w) hb1 (by go_grown); clear hb1)
      | (go_at_call 31; with_reducible refine (clamp_val a1 a2 a3 Y HY.out _).mono ?_; rintro e w1 ⟨rfl, hb1⟩; obtain ⟨hg1, hs1⟩ := below_c (w := w) hb1 (by go_grown); clear hb1)
      | (go_at_call 31; with_reducible refine (clamp_val a3 a2 a3 a3 HXX.out _).mono ?_; rintro e w1 ⟨rfl, hb1⟩; obtain ⟨hg1, hs1⟩ := below_c (w := w) hb1 (by go_grown); clear hb1)
      | (go_at_call 31; with_reducible refine (clamp_val a0 a3 a2 a2 HS.out _).mono ?_; rintro e w1 ⟨rfl, hb1⟩; obtain ⟨hg1, hs1⟩ := below_c (w := w) hb1 (by go_grown); clear hb1)
      | (go_at_call 26; refine (awake01 _).mono ?_; rintro e w1 ⟨rfl, hb1⟩; obtain ⟨hg1, hs1⟩ := below_c (w := w) hb1 (by go_grown); clear hb1))
    go_returns
    exact ⟨rfl, by go_grown⟩
  · clear hX; subst o4
    go_enter Try.func6, Try.ntmps6
    go_wp2_with (first
      | (go_at_call 31; with_reducible refine (clamp_val a0 a2 a3 a2 HX.out _).mono ?_; rintro e w1 ⟨rfl, hb1⟩; obtain ⟨hg1, hs1⟩ := below_c (w := w) hb1 (by go_grown); clear hb1)
      | (go_at_call 31; with_reducible refine (clamp_val a1 a2 a3 Y HY.out _).mono ?_; rintro e w1 ⟨rfl, hb1⟩; obtain ⟨hg1, hs1⟩ := below_c (w := w) hb1 (by go_grown); clear hb1)
      | (go_at_call 31; with_reducible refine (clamp_val a2 a2 a3 a2 HXX.out _).mono ?_; rintro e w1 ⟨rfl, hb1⟩; obtain ⟨hg1, hs1⟩ := below_c (w := w) hb1 (by go_grown); clear hb1)
      | (go_at_call 31; with_reducible refine (clamp_val a0 a3 a2 a2 HS.out _).mono ?_; rintro e w1 ⟨rfl, hb1⟩; obtain ⟨hg1, hs1⟩ := below_c (w := w) hb1 (by go_grown); clear hb1)
      | (go_at_call 26; refine (awake01 _).mono ?_; rintro e w1 ⟨rfl, hb1⟩; obtain ⟨hg1, hs1⟩ := below_c (w := w) hb1 (by go_grown); clear hb1))
    go_returns
    exact ⟨rfl, by go_grown⟩
  · clear hX; subst o4
    go_enter Try.func6, Try.ntmps6
    go_wp2_with (first
      | (go_at_call 31; with_reducible refine (clamp_val a0 a2 a3 a0 HX.out _).mono ?_; rintro e w1 ⟨rfl, hb1⟩; obtain ⟨hg1, hs1⟩ := below_c (w := w) hb1 (by go_grown); clear hb1)
      | (go_at_call 31; with_reducible refine (clamp_val a1 a2 a3 Y HY.out _).mono ?_; rintro e w1 ⟨rfl, hb1⟩; obtain ⟨hg1, hs1⟩ := below_c (w := w) hb1 (by go_grown); clear hb1)
      | (go_at_call 31; with_reducible refine (clamp_val a0 a2 a3 a0 HXX.out _).mono ?_; rintro e w1 ⟨rfl, hb1⟩; obtain ⟨hg1, hs1⟩ := below_c (w := w) hb1 (by go_grown); clear hb1)
      | (go_at_call 31; with_reducible refine (clamp_val a0 a3 a2 a2 HS.out _).mono ?_; rintro e w1 ⟨rfl, hb1⟩; obtain ⟨hg1, hs1⟩ := below_c (w := w) hb1 (by go_grown); clear hb1)
      | (go_at_call 26; refine (awake01 _).mono ?_; rintro e w1 ⟨rfl, hb1⟩; obtain ⟨hg1, hs1⟩ := below_c (w := w) hb1 (by go_grown); clear hb1))
    go_returns
    exact ⟨rfl, by go_grown⟩
  · clear hX; subst o4
    go_enter Try.func6, Try.ntmps6
    go_wp2_with (first
      | (go_at_call 31; with_reducible refine (clamp_val a0 a2 a3 a3 HX.out _).mono ?_; rintro e w1 ⟨rfl, hb1⟩; obtain ⟨hg1, hs1⟩ := below_c (w := w) hb1 (by go_grown); clear hb1)
      | (go_at_call 31; with_reducible refine (clamp_val a1 a2 a3 Y HY.out _).mono ?_; rintro e w1 ⟨rfl, hb1⟩; obtain ⟨hg1, hs1⟩ := below_c (w := w) hb1 (by go_grown); clear hb1)
      | (go_at_call 31; with_reducible refine (clamp_val a3 a2 a3 a3 HXX.out _).mono ?_; rintro e w1 ⟨rfl, hb1⟩; obtain ⟨hg1, hs1⟩ := below_c (w := w) hb1 (by go_grown); clear hb1)
      | (go_at_call 31; with_reducible refine (clamp_val a0 a3 a2 a2 HS.out _).mono ?_; rintro e w1 ⟨rfl, hb1⟩; obtain ⟨hg1, hs1⟩ := below_c (w := w) hb1 (by go_grown); clear hb1)
      | (go_at_call 26; refine (awake01 _).mono ?_; rintro e w1 ⟨rfl, hb1⟩; obtain ⟨hg1, hs1⟩ := below_c (w := w) hb1 (by go_grown); clear hb1))
    go_returns
    exact ⟨rfl, by go_grown⟩
set_option maxRecDepth 100000 in
set_option maxHeartbeats 8000000 in
theorem clamps_gt (a0 a1 a2 a3 : Int) (hlt : a3 < a2) (w : World) :
    Calls Try.prog 6 #[.int .i64 a0, .int .i64 a1, .int .i64 a2, .int .i64 a3] w fun e w' => e = .returned (.bool true) ∧ Below w.heap.size w w' := by
  obtain ⟨X, hX⟩ : ∃ X, min a2 (max a0 a3) = X := ⟨_, rfl⟩
  obtain ⟨Y, hY⟩ : ∃ Y, min a2 (max a1 a3) = Y := ⟨_, rfl⟩
  have HX := Lib.hid hX
  have HY := Lib.hid hY
  have HXX := Lib.hid (show min a2 (max X a3) = X by omega)
  have HS := Lib.hid (show min a3 (max a0 a2) = a3 by omega)
  have x1 : a3 ≤ X := by omega
  have x2 : X ≤ a2 := by omega
  rcases (by omega : a0 ≤ a1 ∧ X ≤ Y ∨ a1 < a0 ∧ Y ≤ X) with ⟨o1, o2⟩ | ⟨o1, o2⟩
  all_goals
    clear hY
    rcases (by omega : a0 < a3 ∧ a3 = X ∨ (a3 ≤ a0 ∧ a0 ≤ a2) ∧ a0 = X ∨ a2 < a0 ∧ a2 = X) with ⟨o3, o4⟩ | ⟨⟨o3, o5⟩, o4⟩ | ⟨o3, o4⟩
  · clear hX; subst o4
    go_enter Try.func6, Try.ntmps6
    go_wp2_with (first
      | (go_at_call 31; with_reducible refine (clamp_val a0 a3 a2 a3 HX.out _).mono ?_; rintro e w1 ⟨rfl, hb1⟩; obtain ⟨hg1, hs1⟩ := below_c (w := w) hb1 (by go_grown); clear hb1)
      | (go_at_call 31; with_reducible refine (clamp_val a1 a3 a2 Y HY.out _).mono ?_; rintro e w1 ⟨rfl, hb1⟩; obtain ⟨hg1, hs1⟩ := below_c (w := w) hb1 (by go_grown); clear hb1)
      | (go_at_call 31; with_reducible refine (clamp_val a3 a3 a2 a3 HXX.out _).mono ?_; rintro e w1 ⟨rfl, hb1⟩; obtain ⟨hg1, hs1⟩ := below_c (w := w) hb1 (by go_grown); clear hb1)
      | (go_at_call 31; with_reducible refine (clamp_val a0 a2 a3 a3 HS.out _).mono ?_; rintro e w1 ⟨rfl, hb1⟩; obtain ⟨hg1, hs1⟩ := below_c (w := w) hb1 (by go_grown); clear hb1)
      | (go_at_call 26; refine (awake01 _).mono ?_; rintro e w1 ⟨rfl, hb1⟩; obtain ⟨hg1, hs1⟩ := below_c (w := w) hb1 (by go_grown); clear hb1))
    go_returns
    exact ⟨rfl, by go_grown⟩
  · clear hX; subst o4
    go_enter Try.func6, Try.ntmps6
    go_wp2_with (first
      | (go_at_call 31; with_reducible refine (clamp_val a0 a3 a2 a0 HX.out _).mono ?_; rintro e w1 ⟨rfl, hb1⟩; obtain ⟨hg1, hs1⟩ := below_c (w := w) hb1 (by go_grown); clear hb1)
      | (go_at_call 31; with_reducible refine (clamp_val a1 a3 a2 Y HY.out _).mono ?_; rintro e w1 ⟨rfl, hb1⟩; obtain ⟨hg1, hs1⟩ := below_c (w := w) hb1 (by go_grown); clear hb1)
      | (go_at_call 31; with_reducible refine (clamp_val a0 a3 a2 a0 HXX.out _).mono ?_; rintro e w1 ⟨rfl, hb1⟩; obtain ⟨hg1, hs1⟩ := below_c (w := w) hb1 (by go_grown); clear hb1)
      | (go_at_call 31; with_reducible refine (clamp_val a0 a2 a3 a3 HS.out _).mono ?_; rintro e w1 ⟨rfl, hb1⟩; obtain ⟨hg1, hs1⟩ := below_c (w := w) hb1 (by go_grown); clear hb1)
      | (go_at_call 26; refine (awake01 _).mono ?_; rintro e w1 ⟨rfl, hb1⟩; obtain ⟨hg1, hs1⟩ := below_c (w := w) hb1 (by go_grown); clear hb1))
    go_returns
    exact ⟨rfl, by go_grown⟩
  · clear hX; subst o4
    go_enter Try.func6, Try.ntmps6
    go_wp2_with (first
      | (go_at_call 31; with_reducible refine (clamp_val a0 a3 a2 a2 HX.out _).mono ?_; rintro e w1 ⟨rfl, hb1⟩; obtain ⟨hg1, hs1⟩ := below_c (w := w) hb1 (by go_grown); clear hb1)
      | (go_at_call 31; with_reducible refine (clamp_val a1 a3 a2 Y HY.out _).mono ?_; rintro e w1 ⟨rfl, hb1⟩; obtain ⟨hg1, hs1⟩ := below_c (w := w) hb1 (by go_grown); clear hb1)
      | (go_at_call 31; with_reducible refine (clamp_val a2 a3 a2 a2 HXX.out _).mono ?_; rintro e w1 ⟨rfl, hb1⟩; obtain ⟨hg1, hs1⟩ := below_c (w := w) hb1 (by go_grown); clear hb1)
      | (go_at_call 31; with_reducible refine (clamp_val a0 a2 a3 a3 HS.out _).mono ?_; rintro e w1 ⟨rfl, hb1⟩; obtain ⟨hg1, hs1⟩ := below_c (w := w) hb1 (by go_grown); clear hb1)
      | (go_at_call 26; refine (awake01 _).mono ?_; rintro e w1 ⟨rfl, hb1⟩; obtain ⟨hg1, hs1⟩ := below_c (w := w) hb1 (by go_grown); clear hb1))
    go_returns
    exact ⟨rfl, by go_grown⟩
  · clear hX; subst o4
    go_enter Try.func6, Try.ntmps6
    go_wp2_with (first
      | (go_at_call 31; with_reducible refine (clamp_val a0 a3 a2 a3 HX.out _).mono ?_; rintro e w1 ⟨rfl, hb1⟩; obtain ⟨hg1, hs1⟩ := below_c (w := w) hb1 (by go_grown); clear hb1)
      | (go_at_call 31; with_reducible refine (clamp_val a1 a3 a2 Y HY.out _).mono ?_; rintro e w1 ⟨rfl, hb1⟩; obtain ⟨hg1, hs1⟩ := below_c (w := w) hb1 (by go_grown); clear hb1)
      | (go_at_call 31; with_reducible refine (clamp_val a3 a3 a2 a3 HXX.out _).mono ?_; rintro e w1 ⟨rfl, hb1⟩; obtain ⟨hg1, hs1⟩ := below_c (w := w) hb1 (by go_grown); clear hb1)
      | (go_at_call 31; with_reducible refine (clamp_val a0 a2 a3 a3 HS.out _).mono ?_; rintro e w1 ⟨rfl, hb1⟩; obtain ⟨hg1, hs1⟩ := below_c (w := w) hb1 (by go_grown); clear hb1)
      | (go_at_call 26; refine (awake01 _).mono ?_; rintro e w1 ⟨rfl, hb1⟩; obtain ⟨hg1, hs1⟩ := below_c (w := w) hb1 (by go_grown); clear hb1))
    go_returns
    exact ⟨rfl, by go_grown⟩
  · clear hX; subst o4
    go_enter Try.func6, Try.ntmps6
    go_wp2_with (first
      | (go_at_call 31; with_reducible refine (clamp_val a0 a3 a2 a0 HX.out _).mono ?_; rintro e w1 ⟨rfl, hb1⟩; obtain ⟨hg1, hs1⟩ := below_c (w := w) hb1 (by go_grown); clear hb1)
      | (go_at_call 31; with_reducible refine (clamp_val a1 a3 a2 Y HY.out _).mono ?_; rintro e w1 ⟨rfl, hb1⟩; obtain ⟨hg1, hs1⟩ := below_c (w := w) hb1 (by go_grown); clear hb1)
      | (go_at_call 31; with_reducible refine (clamp_val a0 a3 a2 a0 HXX.out _).mono ?_; rintro e w1 ⟨rfl, hb1⟩; obtain ⟨hg1, hs1⟩ := below_c (w := w) hb1 (by go_grown); clear hb1)
      | (go_at_call 31; with_reducible refine (clamp_val a0 a2 a3 a3 HS.out _).mono ?_; rintro e w1 ⟨rfl, hb1⟩; obtain ⟨hg1, hs1⟩ := below_c (w := w) hb1 (by go_grown); clear hb1)
      | (go_at_call 26; refine (awake01 _).mono ?_; rintro e w1 ⟨rfl, hb1⟩; obtain ⟨hg1, hs1⟩ := below_c (w := w) hb1 (by go_grown); clear hb1))
    go_returns
    exact ⟨rfl, by go_grown⟩
  · clear hX; subst o4
    go_enter Try.func6, Try.ntmps6
    go_wp2_with (first
      | (go_at_call 31; with_reducible refine (clamp_val a0 a3 a2 a2 HX.out _).mono ?_; rintro e w1 ⟨rfl, hb1⟩; obtain ⟨hg1, hs1⟩ := below_c (w := w) hb1 (by go_grown); clear hb1)
      | (go_at_call 31; with_reducible refine (clamp_val a1 a3 a2 Y HY.out _).mono ?_; rintro e w1 ⟨rfl, hb1⟩; obtain ⟨hg1, hs1⟩ := below_c (w := w) hb1 (by go_grown); clear hb1)
      | (go_at_call 31; with_reducible refine (clamp_val a2 a3 a2 a2 HXX.out _).mono ?_; rintro e w1 ⟨rfl, hb1⟩; obtain ⟨hg1, hs1⟩ := below_c (w := w) hb1 (by go_grown); clear hb1)
      | (go_at_call 31; with_reducible refine (clamp_val a0 a2 a3 a3 HS.out _).mono ?_; rintro e w1 ⟨rfl, hb1⟩; obtain ⟨hg1, hs1⟩ := below_c (w := w) hb1 (by go_grown); clear hb1)
      | (go_at_call 26; refine (awake01 _).mono ?_; rintro e w1 ⟨rfl, hb1⟩; obtain ⟨hg1, hs1⟩ := below_c (w := w) hb1 (by go_grown); clear hb1))
    go_returns
    exact ⟨rfl, by go_grown⟩
set_option maxRecDepth 100000 in
set_option maxHeartbeats 8000000 in
theorem clamps_eq (a0 a1 a2 : Int) (w : World) :
    Calls Try.prog 6 #[.int .i64 a0, .int .i64 a1, .int .i64 a2, .int .i64 a2] w fun e w' => e = .returned (.bool true) ∧ Below w.heap.size w w' := by
  rcases (by omega : a0 < a2 ∨ a2 = a0 ∨ a2 < a0) with h | h | h
  · go_enter Try.func6, Try.ntmps6
    go_wp2_with (first
      | (go_at_call 31; with_reducible refine (clamp_val a0 a2 a2 a2 (by omega) _).mono ?_; rintro e w1 ⟨rfl, hb1⟩; obtain ⟨hg1, hs1⟩ := below_c (w := w) hb1 (by go_grown); clear hb1)
      | (go_at_call 31; with_reducible refine (clamp_val a1 a2 a2 a2 (by omega) _).mono ?_; rintro e w1 ⟨rfl, hb1⟩; obtain ⟨hg1, hs1⟩ := below_c (w := w) hb1 (by go_grown); clear hb1)
      | (go_at_call 31; with_reducible refine (clamp_val a2 a2 a2 a2 (by omega) _).mono ?_; rintro e w1 ⟨rfl, hb1⟩; obtain ⟨hg1, hs1⟩ := below_c (w := w) hb1 (by go_grown); clear hb1)
      | (go_at_call 26; refine (awake01 _).mono ?_; rintro e w1 ⟨rfl, hb1⟩; obtain ⟨hg1, hs1⟩ := below_c (w := w) hb1 (by go_grown); clear hb1))
    all_goals
      go_returns
      exact ⟨rfl, by go_grown⟩
  · subst h
    go_enter Try.func6, Try.ntmps6
    go_wp2_with (first
      | (go_at_call 31; with_reducible refine (clamp_val a0 a2 a2 a2 (by omega) _).mono ?_; rintro e w1 ⟨rfl, hb1⟩; obtain ⟨hg1, hs1⟩ := below_c (w := w) hb1 (by go_grown); clear hb1)
      | (go_at_call 31; with_reducible refine (clamp_val a1 a2 a2 a2 (by omega) _).mono ?_; rintro e w1 ⟨rfl, hb1⟩; obtain ⟨hg1, hs1⟩ := below_c (w := w) hb1 (by go_grown); clear hb1)
      | (go_at_call 31; with_reducible refine (clamp_val a2 a2 a2 a2 (by omega) _).mono ?_; rintro e w1 ⟨rfl, hb1⟩; obtain ⟨hg1, hs1⟩ := below_c (w := w) hb1 (by go_grown); clear hb1)
      | (go_at_call 26; refine (awake01 _).mono ?_; rintro e w1 ⟨rfl, hb1⟩; obtain ⟨hg1, hs1⟩ := below_c (w := w) hb1 (by go_grown); clear hb1))
    all_goals
      go_returns
      exact ⟨rfl, by go_grown⟩
  · go_enter Try.func6, Try.ntmps6
    go_wp2_with (first
      | (go_at_call 31; with_reducible refine (clamp_val a0 a2 a2 a2 (by omega) _).mono ?_; rintro e w1 ⟨rfl, hb1⟩; obtain ⟨hg1, hs1⟩ := below_c (w := w) hb1 (by go_grown); clear hb1)
      | (go_at_call 31; with_reducible refine (clamp_val a1 a2 a2 a2 (by omega) _).mono ?_; rintro e w1 ⟨rfl, hb1⟩; obtain ⟨hg1, hs1⟩ := below_c (w := w) hb1 (by go_grown); clear hb1)
      | (go_at_call 31; with_reducible refine (clamp_val a2 a2 a2 a2 (by omega) _).mono ?_; rintro e w1 ⟨rfl, hb1⟩; obtain ⟨hg1, hs1⟩ := below_c (w := w) hb1 (by go_grown); clear hb1)
      | (go_at_call 26; refine (awake01 _).mono ?_; rintro e w1 ⟨rfl, hb1⟩; obtain ⟨hg1, hs1⟩ := below_c (w := w) hb1 (by go_grown); clear hb1))
    all_goals
      go_returns
      exact ⟨rfl, by go_grown⟩
theorem walk_FixedClamps (a0 : Int) (a1 : Int) (a2 : Int) (a3 : Int) (w0 : (Lit.int .i64 a0).wf = true) (w1 : (Lit.int .i64 a1).wf = true) (w2 : (Lit.int .i64 a2).wf = true) (w3 : (Lit.int .i64 a3).wf = true) (w : World) :
    Calls Try.prog 6 #[.int .i64 a0, .int .i64 a1, .int .i64 a2, .int .i64 a3] w fun e w' => e = .returned (.bool true) ∧ Below w.heap.size w w' := by
  rcases (by omega : a2 < a3 ∨ a3 < a2 ∨ a2 = a3) with h | h | h
  · exact clamps_lt a0 a1 a2 a3 h w
  · exact clamps_gt a0 a1 a2 a3 h w
  · subst h; exact clamps_eq a0 a1 a2 w
end Go.Proofs.Ytolifgjkejhlhaa
