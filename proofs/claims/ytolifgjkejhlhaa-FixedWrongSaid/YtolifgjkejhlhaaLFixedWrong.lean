/- FixedWrong: the walk: whatever the arguments are, it returns true and writes nothing that was there. -/
import Derived.Test.YtolifgjkejhlhaaAwake1
import Derived.OpenShut
set_option linter.unusedVariables false
set_option linter.unusedSimpArgs false
namespace Go.Proofs.Ytolifgjkejhlhaa
open Go.RowKit

set_option maxRecDepth 100000 in
set_option maxHeartbeats 4000000 in
theorem walk_FixedWrong (a0 : Int) (a1 : Int) (a2 : Int) (w0 : (Lit.int .i64 a0).wf = true) (w1 : (Lit.int .i64 a1).wf = true) (w2 : (Lit.int .i64 a2).wf = true) (w : World) :
    Calls Try.prog 7 #[.int .i64 a0, .int .i64 a1, .int .i64 a2] w fun e w' => e = .returned (.bool true) ∧ Below w.heap.size w w' := by
  clear w0 w1 w2
  go_enter Try.func7, Try.ntmps7
  go_wp2_with (first
    | (go_at_call 24; refine (muldiv_zero _ _ _).mono ?_; rintro e w1 ⟨rfl, hb1⟩; obtain ⟨hg1, hs1⟩ := below_c (w := w) hb1 (by go_grown); clear hb1)
    | (go_at_call 25; refine (near_zero _ _ _).mono ?_; rintro e w1 ⟨rfl, hb1⟩; obtain ⟨hg1, hs1⟩ := below_c (w := w) hb1 (by go_grown); clear hb1)
    | (go_at_call 28; refine (div_zero _ _).mono ?_; rintro e w1 ⟨rfl, hb1⟩; obtain ⟨hg1, hs1⟩ := below_c (w := w) hb1 (by go_grown); clear hb1)
    | (go_at_call 27; refine (lerp_zero _ _ _ _).mono ?_; rintro e w1 ⟨rfl, hb1⟩; obtain ⟨hg1, hs1⟩ := below_c (w := w) hb1 (by go_grown); clear hb1)
    | (go_at_call 32; refine (sqrt_neg _ (by omega) _).mono ?_; rintro e w1 ⟨rfl, hb1⟩; obtain ⟨hg1, hs1⟩ := below_c (w := w) hb1 (by go_grown); clear hb1)
    | (go_at_call 26; refine (awake01 _).mono ?_; rintro e w1 ⟨rfl, hb1⟩; obtain ⟨hg1, hs1⟩ := below_c (w := w) hb1 (by go_grown); clear hb1))
  all_goals
    go_returns
    exact ⟨rfl, by go_grown⟩
end Go.Proofs.Ytolifgjkejhlhaa
