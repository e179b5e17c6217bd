/- The walks of package fixed, the functions whose statements leave an order open. -/
import Derived.Test.YtjjodmkblpdnhaaDoorFixed
import Derived.Deep.DeepCutAuto
set_option linter.unusedVariables false
set_option linter.unusedSimpArgs false
namespace Go.Proofs.YtjjodmkblpdnhaaDoor
open Go.RowKit

theorem keep6 {V w1 : World} {p1 p2 p3 p4 p5 p6 : Addr} {v1 v2 v3 v4 v5 v6 : Value} (hb : Below V.heap.size V w1) (h : V.cell? p1 = some v1 ∧ V.cell? p2 = some v2 ∧ V.cell? p3 = some v3 ∧ V.cell? p4 = some v4 ∧ V.cell? p5 = some v5 ∧ V.cell? p6 = some v6) : w1.cell? p1 = some v1 ∧ w1.cell? p2 = some v2 ∧ w1.cell? p3 = some v3 ∧ w1.cell? p4 = some v4 ∧ w1.cell? p5 = some v5 ∧ w1.cell? p6 = some v6 :=
  ⟨cell_later hb h.1, cell_later hb h.2.1, keep4 hb h.2.2⟩

theorem rcell {V w1 : World} (hb : Below V.heap.size V w1) : (∀ p, (V.cell? p).isSome = true → w1.cell? p = V.cell? p) ∧ (∀ p, (V.cell? p).isSome = true → w1.frozen? p = V.frozen? p) := by
  refine ⟨fun p h => ?_, fun p h => ?_⟩
  · obtain ⟨v, hv⟩ := Option.isSome_iff_exists.1 h
    rw [cell_later hb hv, hv]
  · obtain ⟨v, hv⟩ := Option.isSome_iff_exists.1 h
    exact hb.frozen (World.block_lt_of_cell? V p hv)
theorem ralloc (w : World) (o : Obj) : (∀ p, (w.cell? p).isSome = true → (w.alloc o).cell? p = w.cell? p) ∧ (∀ p, (w.cell? p).isSome = true → (w.alloc o).frozen? p = w.frozen? p) :=
  rcell ((Below.refl _ _).alloc (Nat.le_refl _) o)
/-- a block that holds a number of package wide, and may be written -/
def Blk3 (w : World) (g : Nat) (z : Int) : Prop :=
  (w.cell? ⟨g, 0, none⟩ = some (.int .u64 (hiw z)) ∧ w.cell? ⟨g, 1, none⟩ = some (.int .u64 (low z)) ∧ w.cell? ⟨g, 2, none⟩ = some (.bool (ngw z))) ∧
  (w.frozen? ⟨g, 0, none⟩ = false ∧ w.frozen? ⟨g, 1, none⟩ = false ∧ w.frozen? ⟨g, 2, none⟩ = false)
theorem blk3_later {V w1 : World} {g : Nat} {z : Int} (hb : Below V.heap.size V w1) (h : Blk3 V g z) : Blk3 w1 g z := by
  have hg := World.block_lt_of_cell? V ⟨g, 0, none⟩ h.1.1
  exact ⟨keep3 hb h.1, (hb.frozen (p := ⟨g, 0, none⟩) hg).trans h.2.1, (hb.frozen (p := ⟨g, 1, none⟩) hg).trans h.2.2.1, (hb.frozen (p := ⟨g, 2, none⟩) hg).trans h.2.2.2⟩
theorem blk3_alloc {w : World} {g : Nat} {z : Int} (o : Obj) (h : Blk3 w g z) : Blk3 (w.alloc o) g z := blk3_later ((Below.refl _ _).alloc (Nat.le_refl _) o) h
theorem blk3_drew {w : World} {g : Nat} {z : Int} (h : Blk3 w g z) : Blk3 w.drew g z := h
theorem lerp_zero (a b n : Int) (w : World) :
    Calls Tryd.prog 33 #[.int .i64 a, .int .i64 b, .int .i64 n, .int .i64 0] w fun e w' => e = .returned (.tuple #[.int .i64 0, .int .i64 10]) ∧ Below w.heap.size w w' := by
  go_enter Tryd.func33, Tryd.ntmps33
  go_wp2
  go_returns
  exact ⟨rfl, by go_grown⟩
set_option maxHeartbeats 1000000 in
theorem lerp_any (a b n d : Int) (a1 : -9223372036854775808 ≤ a) (a2 : a ≤ 9223372036854775807) (b1 : -9223372036854775808 ≤ b) (b2 : b ≤ 9223372036854775807) (n1 : -9223372036854775808 ≤ n) (n2 : n ≤ 9223372036854775807) (d1 : -9223372036854775808 ≤ d) (d2 : d ≤ 9223372036854775807) (hd : d ≠ 0) (w : World) :
    Calls Tryd.prog 33 #[.int .i64 a, .int .i64 b, .int .i64 n, .int .i64 d] w fun e w' => e = .returned (.tuple #[.int .i64 (sat (a + fl ((b - a) * n) d)), .int .i64 0]) ∧ Below w.heap.size w w' := by
  have hp := natAbs_mul_lt (b - a) n 18446744073709551615 9223372036854775808 (by omega) (by omega)
  have hq := fl_abs ((b - a) * n) d hd
  have hd0 : (d == 0) = false := by simpa using hd
  go_enter Tryd.func33, Tryd.ntmps33
  go_wp2_with (first
    | (go_at_call 47; refine (of_any _ (by assumption) (by assumption) _).mono ?_; rintro e w1 ⟨rfl, hb1⟩; obtain ⟨hg1, hs1⟩ := below_c (w := w) hb1 (by go_grown); clear hb1)
    | (go_at_call 46; refine (diff_any _ _ (by assumption) (by assumption) (by assumption) (by assumption) _).mono ?_; rintro e w1 ⟨rfl, hb1⟩; obtain ⟨hg1, hs1⟩ := below_c (w := w) hb1 (by go_grown); clear hb1)
    | (go_at_call 45; refine (mul_W _ _ (by omega) (by omega) (by omega) (by omega) _).mono ?_; rintro e w1 ⟨rfl, hb1⟩; obtain ⟨hg1, hs1⟩ := below_c (w := w) hb1 (by go_grown); clear hb1)
    | (go_at_call 44; refine (floor_any _ _ (by omega) (by omega) hd (by omega) (by omega) _).mono ?_; rintro e wf ⟨rfl, hb1⟩; obtain ⟨hg1, hs1⟩ := below_c (w := w) hb1 (by go_grown); clear hb1))
  go_region_held3 (fun w' => w'.cell? ⟨wf.heap.size, 0, none⟩ = some (.int .u64 (hiw (fl ((b - a) * n) d))) ∧ w'.cell? ⟨wf.heap.size, 1, none⟩ = some (.int .u64 (low (fl ((b - a) * n) d))) ∧ w'.cell? ⟨wf.heap.size, 2, none⟩ = some (.bool (ngw (fl ((b - a) * n) d)))) (first | exact keep3 (by assumption) (by assumption) | exact keep3 ((Below.refl _ _).alloc (Nat.le_refl _) _) (by assumption) | (simp [go_sem]; done) | (simp [go_sem, *]; done))
    (first
      | (go_at_call 47; refine (of_any _ (by assumption) (by assumption) _).mono ?_; rintro e w1 ⟨rfl, hb0⟩; obtain ⟨hg1, hs1⟩ := below_c (w := w) hb0 (by go_grown); have hb1 := hb0; clear hb0)
      | (go_at_call 48; refine (sum2_any a (fl ((b - a) * n) d) _ (by omega) (by omega) _ (by simp) (by simp [go_sem]) (by simp [go_sem]) (by simp [go_sem]) (by simp [go_sem]) (by simp [go_sem]) (by simp [go_sem])).mono ?_; rintro e w1 ⟨rfl, hb0⟩; obtain ⟨hg1, hs1⟩ := below_c (w := w) hb0 (by go_grown); have hb1 := hb0; clear hb0)
      | (go_at_call 49; refine (sat_any _ (by omega) (by omega) _).mono ?_; rintro e w1 ⟨rfl, hb0⟩; obtain ⟨hg1, hs1⟩ := below_c (w := w) hb0 (by go_grown); have hb1 := hb0; clear hb0))
  all_goals
    go_wp2
    go_returns
    exact ⟨rfl, by go_grown⟩

theorem sat_word (r z : Int) (hv : z = r) (h0 : 0 ≤ r) (h1 : r ≤ 18446744073709551615) (w : World) :
    Calls Tryd.prog 49 #[.agg #[.int .u64 0, .int .u64 r, .bool false]] w fun e w' => e = .returned (.int .i64 (sat z)) ∧ Below w.heap.size w w' := by
  subst hv
  rw [show Value.agg #[.int .u64 0, .int .u64 z, .bool false] = W z from W_mk (by omega) h0 (by omega) (by symm; rw [decide_eq_false_iff_not]; omega)]
  exact sat_any z (by omega) (by omega) w
theorem rt_bd (N m : Int) (h0 : 0 ≤ N) (hm : 0 ≤ m) (h : N < (m + 1) * (m + 1)) : 0 ≤ rt N ∧ rt N ≤ m := by
  obtain ⟨h1, h2, h3⟩ := rt_spec N h0
  refine ⟨h1, ?_⟩
  have := sq_lt (a := rt N) (b := m + 1) h1 (by omega) (by omega)
  omega
theorem sq_bd (x : Int) (h1 : -9223372036854775808 ≤ x) (h2 : x ≤ 9223372036854775807) : 0 ≤ x * x ∧ x * x ≤ 85070591730234615865843651857942052864 := by
  have h := natAbs_mul_lt x x 9223372036854775808 9223372036854775808 (by omega) (by omega)
  have h0 : 0 ≤ x * x := by
    rcases Int.le_total 0 x with g | g
    · exact Int.mul_nonneg g g
    · have := Int.mul_nonneg (a := -x) (b := -x) (by omega) (by omega); rwa [Int.neg_mul_neg] at this
  exact ⟨h0, by omega⟩
/-- the quotient, rounded to the nearest number, halves up -/
def nr (p c : Int) : Int := if (c.natAbs : Int) ≤ 2 * fr p c then fl p c + 1 else fl p c
end Go.Proofs.YtjjodmkblpdnhaaDoor
