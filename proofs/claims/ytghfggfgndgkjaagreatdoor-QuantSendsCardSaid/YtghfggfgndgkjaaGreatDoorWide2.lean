/- The walks of package wide: sums, differences, comparisons, the cut to an int. -/
import Derived.Test.YtghfggfgndgkjaaGreatDoorWide1
set_option linter.unusedVariables false
set_option linter.unusedSimpArgs false
namespace Go.Proofs.YtghfggfgndgkjaaGreatDoor
open Go.RowKit

theorem less_any (h l h' l' : Int) (a1 : 0 ≤ l) (a2 : l ≤ 18446744073709551615) (b1 : 0 ≤ l') (b2 : l' ≤ 18446744073709551615) (w : World) :
    Calls Tryz.prog 111 #[.agg #[.int .u64 h, .int .u64 l], .agg #[.int .u64 h', .int .u64 l']] w fun e w' => e = .returned (.bool (ltw h l h' l')) ∧ Below w.heap.size w w' := by
  by_cases g1 : h < h'
  · go_enter Tryz.func111, Tryz.ntmps111
    go_wp2
    go_returns
    exact ⟨ret_bool (by unfold ltw; symm; rw [decide_eq_true_iff]; omega), by go_grown⟩
  · by_cases g2 : h = h'
    · subst g2
      by_cases g3 : l < l'
      · go_enter Tryz.func111, Tryz.ntmps111
        go_wp2
        go_returns
        exact ⟨ret_bool (by unfold ltw; symm; rw [decide_eq_true_iff]; omega), by go_grown⟩
      · go_enter Tryz.func111, Tryz.ntmps111
        go_wp2
        go_returns
        exact ⟨ret_bool (by unfold ltw; symm; rw [decide_eq_false_iff_not]; omega), by go_grown⟩
    · have hd : decide (h < h') = false := by rw [decide_eq_false_iff_not]; exact g1
      have he : (h == h') = false := by rw [beq_eq_false_iff_ne]; exact g2
      go_enter Tryz.func111, Tryz.ntmps111
      go_wp2
      go_returns
      exact ⟨ret_bool (by unfold ltw; symm; rw [decide_eq_false_iff_not]; omega), by go_grown⟩

theorem plus_any (h l h' l' : Int) (a1 : 0 ≤ l) (a2 : l ≤ 18446744073709551615) (b1 : 0 ≤ l') (b2 : l' ≤ 18446744073709551615) (w : World) :
    Calls Tryz.prog 109 #[.agg #[.int .u64 h, .int .u64 l], .agg #[.int .u64 h', .int .u64 l']] w fun e w' => e = .returned (.agg #[.int .u64 (plh h l h' l'), .int .u64 (pll l l')]) ∧ Below w.heap.size w w' := by
  by_cases g : IntKind.u64.wrap (l + l') < l
  all_goals
    go_enter Tryz.func109, Tryz.ntmps109
    go_wp2
    refine bodyPost_ret (by simp [results, Tryz.results109, go_sem]; try rfl) rfl ?_
    refine ⟨ret_agg2 ?_ ?_, by go_grown⟩
    all_goals (simp only [plh, pll, IntKind.wrap_u64] at *; first | done | omega)

theorem minus_any (h l h' l' : Int) (a1 : 0 ≤ l) (a2 : l ≤ 18446744073709551615) (b1 : 0 ≤ l') (b2 : l' ≤ 18446744073709551615) (w : World) :
    Calls Tryz.prog 112 #[.agg #[.int .u64 h, .int .u64 l], .agg #[.int .u64 h', .int .u64 l']] w fun e w' => e = .returned (.agg #[.int .u64 (mih h l h' l'), .int .u64 (mil l l')]) ∧ Below w.heap.size w w' := by
  by_cases g : l < l'
  all_goals
    go_enter Tryz.func112, Tryz.ntmps112
    go_wp2
    refine bodyPost_ret (by simp [results, Tryz.results112, go_sem]; try rfl) rfl ?_
    refine ⟨ret_agg2 ?_ ?_, by go_grown⟩
    all_goals (simp only [mih, mil, IntKind.wrap_u64] at *; first | done | omega)

theorem sat_any (z : Int) (h1 : -340282366920938463463374607431768211456 < z) (h2 : z < 340282366920938463463374607431768211456) (w : World) :
    Calls Tryz.prog 88 #[W z] w fun e w' => e = .returned (.int .i64 (sat z)) ∧ Below w.heap.size w w' := by
  have e1 := hilo z
  have e2 := low_nonneg z
  have e3 := low_le z
  have e4 := hiw_nonneg z
  by_cases hn : z < 0
  · have hg : ngw z = true := by unfold ngw; simpa using hn
    by_cases hh : 0 < hiw z
    · go_enter Tryz.func88, Tryz.ntmps88
      go_wp2
      go_returns
      exact ⟨ret_int (by unfold sat; omega), by go_grown⟩
    · by_cases hl : 9223372036854775808 < low z
      · go_enter Tryz.func88, Tryz.ntmps88
        go_wp2
        go_returns
        exact ⟨ret_int (by unfold sat; omega), by go_grown⟩
      · go_enter Tryz.func88, Tryz.ntmps88
        go_wp2
        go_returns
        exact ⟨ret_int (by unfold sat; (try simp only [wrap64, IntKind.wrap_u64, IntKind.wrap_i64]); omega), by go_grown⟩
  · have hg : ngw z = false := by unfold ngw; simpa using hn
    by_cases hh : 0 < hiw z
    · go_enter Tryz.func88, Tryz.ntmps88
      go_wp2
      go_returns
      exact ⟨ret_int (by unfold sat; omega), by go_grown⟩
    · by_cases hl : 9223372036854775808 ≤ low z
      · go_enter Tryz.func88, Tryz.ntmps88
        go_wp2
        go_returns
        exact ⟨ret_int (by unfold sat; omega), by go_grown⟩
      · go_enter Tryz.func88, Tryz.ntmps88
        go_wp2
        go_returns
        exact ⟨ret_int (by unfold sat; (try simp only [wrap64, IntKind.wrap_u64, IntKind.wrap_i64]); omega), by go_grown⟩

end Go.Proofs.YtghfggfgndgkjaaGreatDoor
