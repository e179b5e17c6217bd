/- FixedDivides: the walk: whatever the arguments are, it returns true and writes nothing that was there. -/
import Derived.Test.YtolifgjkejhlhaaAwake1
import Derived.OpenShut
set_option linter.unusedVariables false
set_option linter.unusedSimpArgs false
namespace Go.Proofs.Ytolifgjkejhlhaa
open Go.RowKit

theorem nr_spec (p c : Int) (hc : c ≠ 0) : (0 < c → 0 ≤ p - fl p c * c ∧ p - fl p c * c < c ∧ nr p c = if c ≤ 2 * (p - fl p c * c) then fl p c + 1 else fl p c) ∧
    (c < 0 → 0 ≤ -p - fl p c * -c ∧ -p - fl p c * -c < -c ∧ nr p c = if -c ≤ 2 * (-p - fl p c * -c) then fl p c + 1 else fl p c) := by
  obtain ⟨h1, h2, h3, h4⟩ := fl_spec p c hc
  unfold nr
  refine ⟨fun h => ?_, fun h => ?_⟩
  · have e := h1 h
    rw [show (c.natAbs : Int) = c by omega] at h4 ⊢
    rw [show fr p c = p - fl p c * c by omega] at h3 h4 ⊢
    exact ⟨h3, h4, rfl⟩
  · have e := h2 h
    rw [show (c.natAbs : Int) = -c by omega] at h4 ⊢
    rw [show fr p c = -p - fl p c * -c by omega] at h3 h4 ⊢
    exact ⟨h3, h4, rfl⟩

set_option maxRecDepth 100000 in
set_option maxHeartbeats 4000000 in
theorem walk_FixedDivides (a0 : Int) (a1 : Int) (a2 : Int) (w0 : (Lit.int .i32 a0).wf = true) (w1 : (Lit.int .i32 a1).wf = true) (w2 : (Lit.int .i32 a2).wf = true) (w : World) :
    Calls Try.prog 3 #[.int .i32 a0, .int .i32 a1, .int .i32 a2] w fun e w' => e = .returned (.bool true) ∧ Below w.heap.size w w' := by
  obtain ⟨x1, x2⟩ := bounds_i32 w0
  obtain ⟨y1, y2⟩ := bounds_i32 w1
  obtain ⟨z1, z2⟩ := bounds_i32 w2
  clear w0 w1 w2
  by_cases hc : a2 = 0
  · subst hc
    go_enter Try.func3, Try.ntmps3
    go_wp2_with (first
      | (go_at_call 24; refine (muldiv_zero _ _ _).mono ?_; rintro e w1 ⟨rfl, hb1⟩; obtain ⟨hg1, hs1⟩ := below_c (w := w) hb1 (by go_grown); clear hb1)
      | (go_at_call 25; refine (near_zero _ _ _).mono ?_; rintro e w1 ⟨rfl, hb1⟩; obtain ⟨hg1, hs1⟩ := below_c (w := w) hb1 (by go_grown); clear hb1)
      | (go_at_call 26; refine (awake01 _).mono ?_; rintro e w1 ⟨rfl, hb1⟩; obtain ⟨hg1, hs1⟩ := below_c (w := w) hb1 (by go_grown); clear hb1))
    go_returns
    exact ⟨rfl, by go_grown⟩
  · have hp := natAbs_mul_lt a0 a1 2147483648 2147483648 (by omega) (by omega)
    have hq := fl_abs (a0 * a1) a2 hc
    have hn := nr_spec (a0 * a1) a2 hc
    have s1 : sat (fl (a0 * a1) a2) = fl (a0 * a1) a2 := sat_in _ (by omega) (by omega)
    have s2 : sat (nr (a0 * a1) a2) = nr (a0 * a1) a2 := sat_in _ (by unfold nr; omega) (by unfold nr; omega)
    have hc0 : (a2 == 0) = false := by simpa using hc
    have p1 : -4611686018427387904 ≤ a0 * a1 := by omega
    have p2 : a0 * a1 ≤ 4611686018427387904 := by omega
    by_cases hneg : a2 < 0
    · obtain ⟨n1, n2, n3⟩ := hn.2 hneg
      generalize hP : a0 * a1 = P at *
      have s3 : sat (fl P a2 + 1) = fl P a2 + 1 := sat_in _ (by omega) (by omega)
      clear hn s2 hp
      go_enter Try.func3, Try.ntmps3
      go_wp2_with (first
        | (go_at_call 24; refine (muldiv_any a0 a1 a2 (by omega) (by omega) (by omega) (by omega) (by omega) (by omega) hc _).mono ?_; rintro e w1 ⟨rfl, hb1⟩; obtain ⟨hg1, hs1⟩ := below_c (w := w) hb1 (by go_grown); clear hb1)
        | (go_at_call 25; refine (near_any a0 a1 a2 (by omega) (by omega) (by omega) (by omega) (by omega) (by omega) hc _).mono ?_; rintro e w1 ⟨rfl, hb1⟩; obtain ⟨hg1, hs1⟩ := below_c (w := w) hb1 (by go_grown); clear hb1)
        | (go_at_call 26; refine (awake01 _).mono ?_; rintro e w1 ⟨rfl, hb1⟩; obtain ⟨hg1, hs1⟩ := below_c (w := w) hb1 (by go_grown); clear hb1))
      all_goals
        go_returns
        exact ⟨rfl, by go_grown⟩
    · obtain ⟨n1, n2, n3⟩ := hn.1 (by omega)
      have hpos : 0 < a2 := by omega
      generalize hP : a0 * a1 = P at *
      have s3 : sat (fl P a2 + 1) = fl P a2 + 1 := sat_in _ (by omega) (by omega)
      clear hn s2 hp
      go_enter Try.func3, Try.ntmps3
      go_wp2_with (first
        | (go_at_call 24; refine (muldiv_any a0 a1 a2 (by omega) (by omega) (by omega) (by omega) (by omega) (by omega) hc _).mono ?_; rintro e w1 ⟨rfl, hb1⟩; obtain ⟨hg1, hs1⟩ := below_c (w := w) hb1 (by go_grown); clear hb1)
        | (go_at_call 25; refine (near_any a0 a1 a2 (by omega) (by omega) (by omega) (by omega) (by omega) (by omega) hc _).mono ?_; rintro e w1 ⟨rfl, hb1⟩; obtain ⟨hg1, hs1⟩ := below_c (w := w) hb1 (by go_grown); clear hb1)
        | (go_at_call 26; refine (awake01 _).mono ?_; rintro e w1 ⟨rfl, hb1⟩; obtain ⟨hg1, hs1⟩ := below_c (w := w) hb1 (by go_grown); clear hb1))
      all_goals
        go_returns
        exact ⟨rfl, by go_grown⟩
end Go.Proofs.Ytolifgjkejhlhaa
