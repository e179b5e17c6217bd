/- The walks of package fixed: each function returns what the plain numbers say, and writes nothing that was there. -/
import Derived.Test.YtghfggfgndgkjaaGreatDoorWide4
import Derived.Test.YtghfggfgndgkjaaGreatDoorWide5
import Derived.Test.YtghfggfgndgkjaaGreatDoorWide6
set_option linter.unusedVariables false
set_option linter.unusedSimpArgs false
namespace Go.Proofs.YtghfggfgndgkjaaGreatDoor
open Go.RowKit

theorem mul_eq (x y : Int) (hx1 : -18446744073709551616 < x) (hx2 : x < 18446744073709551616) (hy1 : -18446744073709551616 < y) (hy2 : y < 18446744073709551616) :
    Value.agg #[.int .u64 (tmh (low x) (low y)), .int .u64 (tml (low x) (low y)), .bool (nz (ngw x != ngw y) (tmh (low x) (low y)) (tml (low x) (low y)))] = W (x * y) := by
  have h1 := tm_eq (low x) (low y)
  rw [low_small x hx1 hx2, low_small y hy1 hy2] at *
  have h2 := tml_nonneg (x.natAbs : Int) (y.natAbs : Int)
  have h3 := tml_le (x.natAbs : Int) (y.natAbs : Int)
  refine made_sgn_eq h1 h2 (by omega) (Int.mul_nonneg (by omega) (by omega)) ⟨fun h => ?_, fun h => ?_⟩
  · have h' : ngw x = ngw y := by simpa using h
    unfold ngw at h'
    rw [decide_eq_decide] at h'
    by_cases g : x < 0
    · have g' := h'.1 g
      rw [show (x.natAbs : Int) = -x by omega, show (y.natAbs : Int) = -y by omega, Int.neg_mul_neg]
    · have g' : ¬ y < 0 := fun h => g (h'.2 h)
      rw [show (x.natAbs : Int) = x by omega, show (y.natAbs : Int) = y by omega]
  · have h' : ngw x ≠ ngw y := by simpa using h
    unfold ngw at h'
    rw [ne_eq, decide_eq_decide] at h'
    by_cases g : x < 0
    · have g' : ¬ y < 0 := fun h => h' ⟨fun _ => h, fun _ => g⟩
      rw [show (x.natAbs : Int) = -x by omega, show (y.natAbs : Int) = y by omega, Int.neg_mul, Int.neg_neg]
    · have g' : y < 0 := by
        apply Classical.byContradiction; intro h; exact h' ⟨fun h => absurd h g, fun h2 => absurd h2 h⟩
      rw [show (x.natAbs : Int) = x by omega, show (y.natAbs : Int) = -y by omega, Int.mul_neg, Int.neg_neg]
theorem mul_W (x y : Int) (hx1 : -18446744073709551616 < x) (hx2 : x < 18446744073709551616) (hy1 : -18446744073709551616 < y) (hy2 : y < 18446744073709551616) (w : World) :
    Calls Tryz.prog 84 #[W x, W y] w fun e w' => e = .returned (W (x * y)) ∧ Below w.heap.size w w' := by
  rw [← mul_eq x y hx1 hx2 hy1 hy2]
  exact mul_any x y w
theorem sum2_any (x y : Int) (b : Nat) (hx : (x.natAbs : Int) < 170141183460469231731687303715884105728) (hy : (y.natAbs : Int) < 170141183460469231731687303715884105728) (w : World) (hb : b < w.heap.size)
    (c0 : w.cell? ⟨b, 0, none⟩ = some (.int .u64 (hiw x))) (c1 : w.cell? ⟨b, 1, none⟩ = some (.int .u64 (low x))) (c2 : w.cell? ⟨b, 2, none⟩ = some (.bool (ngw x)))
    (c3 : w.cell? ⟨b, 3, none⟩ = some (.int .u64 (hiw y))) (c4 : w.cell? ⟨b, 4, none⟩ = some (.int .u64 (low y))) (c5 : w.cell? ⟨b, 5, none⟩ = some (.bool (ngw y))) :
    Calls Tryz.prog 87 #[.slice (some ⟨b, 0, none⟩) 2 2] w fun e w' => e = .returned (W (x + y)) ∧ Below w.heap.size w w' := by
  have h := sum_loop b 2 (fun j => if j = 0 then x else y) w (by omega) hb (fun j hj => by
    rcases (by omega : j = 0 ∨ j = 1) with rfl | rfl
    · exact ⟨c0, c1, c2⟩
    · exact ⟨c3, c4, c5⟩) (fun j hj => by
    rcases (by omega : j = 0 ∨ j = 1) with rfl | rfl
    · exact ⟨by simp [psum], by simpa using hx⟩
    · exact ⟨by simpa [psum] using hx, by simpa using hy⟩)
  have e : psum (fun j => if j = 0 then x else y) 2 = x + y := by simp [psum]
  rw [e] at h
  exact h
theorem below_c {w V w1 : World} (hb : Below V.heap.size V w1) (h0 : Below w.heap.size w V) : Below w.heap.size w w1 ∧ w.heap.size ≤ w1.heap.size := ⟨(after hb h0).2.2.2, (after hb h0).2.2.2.size⟩

theorem fl_abs (a b : Int) (hb : b ≠ 0) : -(a.natAbs : Int) ≤ fl a b ∧ fl a b ≤ (a.natAbs : Int) := by
  obtain ⟨h1, h2, h3⟩ := fl_nat a b hb
  have e1 := Int.mul_ediv_add_emod (a.natAbs : Int) (b.natAbs : Int)
  have e2 := Int.emod_nonneg (a.natAbs : Int) (b := (b.natAbs : Int)) (by omega)
  have e3 : 0 ≤ (a.natAbs : Int) / (b.natAbs : Int) := Int.ediv_nonneg (by omega) (by omega)
  have e4 : (a.natAbs : Int) / (b.natAbs : Int) * 1 ≤ (a.natAbs : Int) / (b.natAbs : Int) * (b.natAbs : Int) := Int.mul_le_mul_of_nonneg_left (by omega) e3
  rw [Int.mul_comm (b.natAbs : Int)] at e1
  generalize (a.natAbs : Int) / (b.natAbs : Int) * (b.natAbs : Int) = t at *
  generalize (a.natAbs : Int) / (b.natAbs : Int) = q at *
  generalize (a.natAbs : Int) % (b.natAbs : Int) = r at *
  by_cases s1 : (0 ≤ a ∧ 0 < b) ∨ (a ≤ 0 ∧ b < 0)
  · rw [(h1 s1).1]; omega
  · by_cases s2 : r = 0
    · rw [(h2 (by omega) s2).1]; omega
    · rw [(h3 (by omega) s2).1]; omega
theorem natAbs_mul_lt (a b n m : Int) (ha : (a.natAbs : Int) ≤ n) (hb : (b.natAbs : Int) ≤ m) : ((a * b).natAbs : Int) ≤ n * m := by
  rw [Int.natAbs_mul, Int.natCast_mul]
  exact Int.mul_le_mul ha hb (by omega) (by omega)

theorem clamp_any (n lo hi : Int) (w : World) :
    Calls Tryz.prog 76 #[.int .i64 n, .int .i64 lo, .int .i64 hi] w fun e w' => e = .returned (.int .i64 (min hi (max n lo))) ∧ Below w.heap.size w w' := by
  go_enter Tryz.func76, Tryz.ntmps76
  go_wp2
  all_goals
    go_returns
    exact ⟨ret_int (by omega), by go_grown⟩
theorem field_size (x y z : Value) (w : World) : (Instr.field 135 (.agg #[x, y, z]) 0).run Tryz.prog w = .ok (.agg #[x, y]) w := by kernel_rfl
theorem rt_le (n : Int) (h : 0 ≤ n) : rt n ≤ n ∧ 0 ≤ rt n := by
  obtain ⟨h1, h2, h3⟩ := rt_spec n h
  refine ⟨?_, h1⟩
  have : rt n ≤ rt n * rt n ∨ rt n = 0 := by
    rcases (by omega : rt n = 0 ∨ 1 ≤ rt n) with h | h
    · exact .inr h
    · left
      have := Int.mul_le_mul_of_nonneg_left h h1
      omega
  omega
end Go.Proofs.YtghfggfgndgkjaaGreatDoor
