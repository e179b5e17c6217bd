/- The walks of package wide: sums, differences, comparisons, the cut to an int. -/
import Derived.Test.YtolifgjkejhlhaaWide1
set_option linter.unusedVariables false
set_option linter.unusedSimpArgs false
namespace Go.Proofs.Ytolifgjkejhlhaa
open Go.RowKit

theorem less_any (h l h' l' : Int) (a1 : 0 ≤ l) (a2 : l ≤ 18446744073709551615) (b1 : 0 ≤ l') (b2 : l' ≤ 18446744073709551615) (w : World) :
    Calls Try.prog 80 #[.agg #[.int .u64 h, .int .u64 l], .agg #[.int .u64 h', .int .u64 l']] w fun e w' => e = .returned (.bool (ltw h l h' l')) ∧ Below w.heap.size w w' := by
  by_cases g1 : h < h'
  · go_enter Try.func80, Try.ntmps80
    go_wp2
    go_returns
    exact ⟨ret_bool (by unfold ltw; symm; rw [decide_eq_true_iff]; omega), by go_grown⟩
  · by_cases g2 : h = h'
    · subst g2
      by_cases g3 : l < l'
      · go_enter Try.func80, Try.ntmps80
        go_wp2
        go_returns
        exact ⟨ret_bool (by unfold ltw; symm; rw [decide_eq_true_iff]; omega), by go_grown⟩
      · go_enter Try.func80, Try.ntmps80
        go_wp2
        go_returns
        exact ⟨ret_bool (by unfold ltw; symm; rw [decide_eq_false_iff_not]; omega), by go_grown⟩
    · have hd : decide (h < h') = false := by rw [decide_eq_false_iff_not]; exact g1
      have he : (h == h') = false := by rw [beq_eq_false_iff_ne]; exact g2
      go_enter Try.func80, Try.ntmps80
      go_wp2
      go_returns
      exact ⟨ret_bool (by unfold ltw; symm; rw [decide_eq_false_iff_not]; omega), by go_grown⟩

theorem plus_any (h l h' l' : Int) (a1 : 0 ≤ l) (a2 : l ≤ 18446744073709551615) (b1 : 0 ≤ l') (b2 : l' ≤ 18446744073709551615) (w : World) :
    Calls Try.prog 91 #[.agg #[.int .u64 h, .int .u64 l], .agg #[.int .u64 h', .int .u64 l']] w fun e w' => e = .returned (.agg #[.int .u64 (plh h l h' l'), .int .u64 (pll l l')]) ∧ Below w.heap.size w w' := by
  by_cases g : IntKind.u64.wrap (l + l') < l
  all_goals
    go_enter Try.func91, Try.ntmps91
    go_wp2
    refine bodyPost_ret (by simp [results, Try.results91, go_sem]; try rfl) rfl ?_
    refine ⟨ret_agg2 ?_ ?_, by go_grown⟩
    all_goals (simp only [plh, pll, IntKind.wrap_u64] at *; first | done | omega)

theorem minus_any (h l h' l' : Int) (a1 : 0 ≤ l) (a2 : l ≤ 18446744073709551615) (b1 : 0 ≤ l') (b2 : l' ≤ 18446744073709551615) (w : World) :
    Calls Try.prog 93 #[.agg #[.int .u64 h, .int .u64 l], .agg #[.int .u64 h', .int .u64 l']] w fun e w' => e = .returned (.agg #[.int .u64 (mih h l h' l'), .int .u64 (mil l l')]) ∧ Below w.heap.size w w' := by
  by_cases g : l < l'
  all_goals
    go_enter Try.func93, Try.ntmps93
    go_wp2
    refine bodyPost_ret (by simp [results, Try.results93, go_sem]; try rfl) rfl ?_
    refine ⟨ret_agg2 ?_ ?_, by go_grown⟩
    all_goals (simp only [mih, mil, IntKind.wrap_u64] at *; first | done | omega)

theorem sat_any (z : Int) (h1 : -340282366920938463463374607431768211456 < z) (h2 : z < 340282366920938463463374607431768211456) (w : World) :
    Calls Try.prog 71 #[W z] w fun e w' => e = .returned (.int .i64 (sat z)) ∧ Below w.heap.size w w' := by
  have e1 := hilo z
  have e2 := low_nonneg z
  have e3 := low_le z
  have e4 := hiw_nonneg z
  by_cases hn : z < 0
  · have hg : ngw z = true := by unfold ngw; simpa using hn
    by_cases hh : 0 < hiw z
    · go_enter Try.func71, Try.ntmps71
      go_wp2
      go_returns
      exact ⟨ret_int (by unfold sat; omega), by go_grown⟩
    · by_cases hl : 9223372036854775808 < low z
      · go_enter Try.func71, Try.ntmps71
        go_wp2
        go_returns
        exact ⟨ret_int (by unfold sat; omega), by go_grown⟩
      · go_enter Try.func71, Try.ntmps71
        go_wp2
        go_returns
        exact ⟨ret_int (by unfold sat; (try simp only [wrap64, IntKind.wrap_u64, IntKind.wrap_i64]); omega), by go_grown⟩
  · have hg : ngw z = false := by unfold ngw; simpa using hn
    by_cases hh : 0 < hiw z
    · go_enter Try.func71, Try.ntmps71
      go_wp2
      go_returns
      exact ⟨ret_int (by unfold sat; omega), by go_grown⟩
    · by_cases hl : 9223372036854775808 ≤ low z
      · go_enter Try.func71, Try.ntmps71
        go_wp2
        go_returns
        exact ⟨ret_int (by unfold sat; omega), by go_grown⟩
      · go_enter Try.func71, Try.ntmps71
        go_wp2
        go_returns
        exact ⟨ret_int (by unfold sat; (try simp only [wrap64, IntKind.wrap_u64, IntKind.wrap_i64]); omega), by go_grown⟩

theorem neg_any (z : Int) (w : World) :
    Calls Try.prog 81 #[W z] w fun e w' => e = .returned (W (-z)) ∧ Below w.heap.size w w' := by
  have e1 := hilo z
  have e2 := low_nonneg z
  have e3 := low_le z
  go_enter Try.func81, Try.ntmps81
  go_wp2_with (go_at_call 90; refine (made_any _ _ _ _).mono ?_; rintro e w1 ⟨rfl, hb1⟩; obtain ⟨hc1, hf1, hz1, hg1⟩ := after (w := w) hb1 (by go_grown); simp at hz1)
  refine bodyPost_ret (by simp [results, Try.results81, go_sem, hc1]; try rfl) rfl ?_
  exact ⟨ret_made (by omega) (by omega) (by omega) (fun h => by unfold ngw; rw [Bool.eq_iff_iff]; simp; omega), by go_grown⟩

theorem sign_any (z : Int) (w : World) :
    Calls Try.prog 79 #[W z] w fun e w' => e = .returned (.int .i64 (if z < 0 then -1 else if z = 0 then 0 else 1)) ∧ Below w.heap.size w w' := by
  have e1 := hilo z
  have e2 := low_nonneg z
  have e3 := low_le z
  have e4 := hiw_nonneg z
  by_cases hn : z < 0
  · have hg : ngw z = true := by unfold ngw; simpa using hn
    go_enter Try.func79, Try.ntmps79
    go_wp2
    go_returns
    exact ⟨ret_int (by omega), by go_grown⟩
  · have hg : ngw z = false := by unfold ngw; simpa using hn
    by_cases h0 : z = 0
    · have a1 : hiw z = 0 := by omega
      have a2 : low z = 0 := by omega
      go_enter Try.func79, Try.ntmps79
      go_wp2
      go_returns
      exact ⟨ret_int (by omega), by go_grown⟩
    · by_cases a1 : hiw z = 0
      · have a2 : ¬ low z = 0 := by omega
        go_enter Try.func79, Try.ntmps79
        go_wp2
        go_returns
        exact ⟨ret_int (by omega), by go_grown⟩
      · go_enter Try.func79, Try.ntmps79
        go_wp2
        go_returns
        exact ⟨ret_int (by omega), by go_grown⟩
end Go.Proofs.Ytolifgjkejhlhaa
