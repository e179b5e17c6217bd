/- The walks of package fixed, the functions whose statements leave an order open. -/
import Derived.Test.YtghfggfgndgkjaaGreatDoorFixed
import Derived.Deep.DeepCutAuto
set_option linter.unusedVariables false
set_option linter.unusedSimpArgs false
namespace Go.Proofs.YtghfggfgndgkjaaGreatDoor
open Go.RowKit

theorem keep6 {V w1 : World} {p1 p2 p3 p4 p5 p6 : Addr} {v1 v2 v3 v4 v5 v6 : Value} (hb : Below V.heap.size V w1) (h : V.cell? p1 = some v1 ∧ V.cell? p2 = some v2 ∧ V.cell? p3 = some v3 ∧ V.cell? p4 = some v4 ∧ V.cell? p5 = some v5 ∧ V.cell? p6 = some v6) : w1.cell? p1 = some v1 ∧ w1.cell? p2 = some v2 ∧ w1.cell? p3 = some v3 ∧ w1.cell? p4 = some v4 ∧ w1.cell? p5 = some v5 ∧ w1.cell? p6 = some v6 :=
  ⟨cell_later hb h.1, cell_later hb h.2.1, keep4 hb h.2.2⟩

theorem rcell {V w1 : World} (hb : Below V.heap.size V w1) : (∀ p, (V.cell? p).isSome = true → w1.cell? p = V.cell? p) ∧ (∀ p, (V.cell? p).isSome = true → w1.frozen? p = V.frozen? p) := by
  refine ⟨fun p h => ?_, fun p h => ?_⟩
  · obtain ⟨v, hv⟩ := Option.isSome_iff_exists.1 h
    rw [cell_later hb hv, hv]
  · obtain ⟨v, hv⟩ := Option.isSome_iff_exists.1 h
    exact hb.frozen (World.block_lt_of_cell? V p hv)
theorem ralloc (w : World) (o : Obj) : (∀ p, (w.cell? p).isSome = true → (w.alloc o).cell? p = w.cell? p) ∧ (∀ p, (w.cell? p).isSome = true → (w.alloc o).frozen? p = w.frozen? p) :=
  rcell ((Below.refl _ _).alloc (Nat.le_refl _) o)
/-- a block that holds a number of package wide, and may be written -/
def Blk3 (w : World) (g : Nat) (z : Int) : Prop :=
  (w.cell? ⟨g, 0, none⟩ = some (.int .u64 (hiw z)) ∧ w.cell? ⟨g, 1, none⟩ = some (.int .u64 (low z)) ∧ w.cell? ⟨g, 2, none⟩ = some (.bool (ngw z))) ∧
  (w.frozen? ⟨g, 0, none⟩ = false ∧ w.frozen? ⟨g, 1, none⟩ = false ∧ w.frozen? ⟨g, 2, none⟩ = false)
theorem blk3_later {V w1 : World} {g : Nat} {z : Int} (hb : Below V.heap.size V w1) (h : Blk3 V g z) : Blk3 w1 g z := by
  have hg := World.block_lt_of_cell? V ⟨g, 0, none⟩ h.1.1
  exact ⟨keep3 hb h.1, (hb.frozen (p := ⟨g, 0, none⟩) hg).trans h.2.1, (hb.frozen (p := ⟨g, 1, none⟩) hg).trans h.2.2.1, (hb.frozen (p := ⟨g, 2, none⟩) hg).trans h.2.2.2⟩
theorem blk3_alloc {w : World} {g : Nat} {z : Int} (o : Obj) (h : Blk3 w g z) : Blk3 (w.alloc o) g z := blk3_later ((Below.refl _ _).alloc (Nat.le_refl _) o) h
theorem blk3_drew {w : World} {g : Nat} {z : Int} (h : Blk3 w g z) : Blk3 w.drew g z := h
theorem lerp_zero (a b n : Int) (w : World) :
    Calls Tryz.prog 54 #[.int .i64 a, .int .i64 b, .int .i64 n, .int .i64 0] w fun e w' => e = .returned (.tuple #[.int .i64 0, .int .i64 10]) ∧ Below w.heap.size w w' := by
  go_enter Tryz.func54, Tryz.ntmps54
  go_wp2
  go_returns
  exact ⟨rfl, by go_grown⟩
set_option maxHeartbeats 1000000 in
theorem lerp_any (a b n d : Int) (a1 : -9223372036854775808 ≤ a) (a2 : a ≤ 9223372036854775807) (b1 : -9223372036854775808 ≤ b) (b2 : b ≤ 9223372036854775807) (n1 : -9223372036854775808 ≤ n) (n2 : n ≤ 9223372036854775807) (d1 : -9223372036854775808 ≤ d) (d2 : d ≤ 9223372036854775807) (hd : d ≠ 0) (w : World) :
    Calls Tryz.prog 54 #[.int .i64 a, .int .i64 b, .int .i64 n, .int .i64 d] w fun e w' => e = .returned (.tuple #[.int .i64 (sat (a + fl ((b - a) * n) d)), .int .i64 0]) ∧ Below w.heap.size w w' := by
  have hp := natAbs_mul_lt (b - a) n 18446744073709551615 9223372036854775808 (by omega) (by omega)
  have hq := fl_abs ((b - a) * n) d hd
  have hd0 : (d == 0) = false := by simpa using hd
  go_enter Tryz.func54, Tryz.ntmps54
  go_wp2_with (first
    | (go_at_call 86; refine (of_any _ (by assumption) (by assumption) _).mono ?_; rintro e w1 ⟨rfl, hb1⟩; obtain ⟨hg1, hs1⟩ := below_c (w := w) hb1 (by go_grown); clear hb1)
    | (go_at_call 85; refine (diff_any _ _ (by assumption) (by assumption) (by assumption) (by assumption) _).mono ?_; rintro e w1 ⟨rfl, hb1⟩; obtain ⟨hg1, hs1⟩ := below_c (w := w) hb1 (by go_grown); clear hb1)
    | (go_at_call 84; refine (mul_W _ _ (by omega) (by omega) (by omega) (by omega) _).mono ?_; rintro e w1 ⟨rfl, hb1⟩; obtain ⟨hg1, hs1⟩ := below_c (w := w) hb1 (by go_grown); clear hb1)
    | (go_at_call 83; refine (floor_any _ _ (by omega) (by omega) hd (by omega) (by omega) _).mono ?_; rintro e wf ⟨rfl, hb1⟩; obtain ⟨hg1, hs1⟩ := below_c (w := w) hb1 (by go_grown); clear hb1))
  go_region_held3 (fun w' => w'.cell? ⟨wf.heap.size, 0, none⟩ = some (.int .u64 (hiw (fl ((b - a) * n) d))) ∧ w'.cell? ⟨wf.heap.size, 1, none⟩ = some (.int .u64 (low (fl ((b - a) * n) d))) ∧ w'.cell? ⟨wf.heap.size, 2, none⟩ = some (.bool (ngw (fl ((b - a) * n) d)))) (first | exact keep3 (by assumption) (by assumption) | exact keep3 ((Below.refl _ _).alloc (Nat.le_refl _) _) (by assumption) | (simp [go_sem]; done) | (simp [go_sem, *]; done))
    (first
      | (go_at_call 86; refine (of_any _ (by assumption) (by assumption) _).mono ?_; rintro e w1 ⟨rfl, hb0⟩; obtain ⟨hg1, hs1⟩ := below_c (w := w) hb0 (by go_grown); have hb1 := hb0; clear hb0)
      | (go_at_call 87; refine (sum2_any a (fl ((b - a) * n) d) _ (by omega) (by omega) _ (by simp) (by simp [go_sem]) (by simp [go_sem]) (by simp [go_sem]) (by simp [go_sem]) (by simp [go_sem]) (by simp [go_sem])).mono ?_; rintro e w1 ⟨rfl, hb0⟩; obtain ⟨hg1, hs1⟩ := below_c (w := w) hb0 (by go_grown); have hb1 := hb0; clear hb0)
      | (go_at_call 88; refine (sat_any _ (by omega) (by omega) _).mono ?_; rintro e w1 ⟨rfl, hb0⟩; obtain ⟨hg1, hs1⟩ := below_c (w := w) hb0 (by go_grown); have hb1 := hb0; clear hb0))
  all_goals
    go_wp2
    go_returns
    exact ⟨rfl, by go_grown⟩

theorem sat_word (r z : Int) (hv : z = r) (h0 : 0 ≤ r) (h1 : r ≤ 18446744073709551615) (w : World) :
    Calls Tryz.prog 88 #[.agg #[.int .u64 0, .int .u64 r, .bool false]] w fun e w' => e = .returned (.int .i64 (sat z)) ∧ Below w.heap.size w w' := by
  subst hv
  rw [show Value.agg #[.int .u64 0, .int .u64 z, .bool false] = W z from W_mk (by omega) h0 (by omega) (by symm; rw [decide_eq_false_iff_not]; omega)]
  exact sat_any z (by omega) (by omega) w
theorem rt_bd (N m : Int) (h0 : 0 ≤ N) (hm : 0 ≤ m) (h : N < (m + 1) * (m + 1)) : 0 ≤ rt N ∧ rt N ≤ m := by
  obtain ⟨h1, h2, h3⟩ := rt_spec N h0
  refine ⟨h1, ?_⟩
  have := sq_lt (a := rt N) (b := m + 1) h1 (by omega) (by omega)
  omega
theorem sq_bd (x : Int) (h1 : -9223372036854775808 ≤ x) (h2 : x ≤ 9223372036854775807) : 0 ≤ x * x ∧ x * x ≤ 85070591730234615865843651857942052864 := by
  have h := natAbs_mul_lt x x 9223372036854775808 9223372036854775808 (by omega) (by omega)
  have h0 : 0 ≤ x * x := by
    rcases Int.le_total 0 x with g | g
    · exact Int.mul_nonneg g g
    · have := Int.mul_nonneg (a := -x) (b := -x) (by omega) (by omega); rwa [Int.neg_mul_neg] at this
  exact ⟨h0, by omega⟩
/-- the quotient, rounded to the nearest number, halves up -/
def nr (p c : Int) : Int := if (c.natAbs : Int) ≤ 2 * fr p c then fl p c + 1 else fl p c
theorem near_zero (a b : Int) (w : World) :
    Calls Tryz.prog 75 #[.int .i64 a, .int .i64 b, .int .i64 0] w fun e w' => e = .returned (.tuple #[.int .i64 0, .int .i64 10]) ∧ Below w.heap.size w w' := by
  go_enter Tryz.func75, Tryz.ntmps75
  go_wp2
  go_returns
  exact ⟨rfl, by go_grown⟩
set_option maxHeartbeats 8000000 in
theorem near_any (a b c : Int) (a1 : -9223372036854775808 ≤ a) (a2 : a ≤ 9223372036854775807) (b1 : -9223372036854775808 ≤ b) (b2 : b ≤ 9223372036854775807) (c1 : -9223372036854775808 ≤ c) (c2 : c ≤ 9223372036854775807) (hc : c ≠ 0) (w : World) :
    Calls Tryz.prog 75 #[.int .i64 a, .int .i64 b, .int .i64 c] w fun e w' => e = .returned (.tuple #[.int .i64 (sat (nr (a * b) c)), .int .i64 0]) ∧ Below w.heap.size w w' := by
  have hp := natAbs_mul_lt a b 9223372036854775808 9223372036854775808 (by omega) (by omega)
  have hq := fl_abs (a * b) c hc
  have hf := (fl_spec (a * b) c hc).2.2
  have hlc := low_small c (by omega) (by omega)
  have f1 := hf.1
  have f2 : fr (a * b) c ≤ low c := by omega
  have f3 := low_le c
  have hN : nr (a * b) c = if low c ≤ 2 * fr (a * b) c then fl (a * b) c + 1 else fl (a * b) c := by unfold nr; rw [hlc]
  have HN := Lib.hid hN
  have hc0 : (c == 0) = false := by simpa using hc
  clear hN hf hlc
  go_enter Tryz.func75, Tryz.ntmps75
  go_upto_region 4 with (go_at_call 86; refine (of_any _ (by assumption) (by assumption) _).mono ?_; rintro e wf ⟨rfl, hb1⟩; obtain ⟨hg1, hs1⟩ := below_c (w := w) hb1 (by go_grown); clear hb1)
  go_cut [9, 10] (fun s9 s10 wx => ∃ g : Nat, s9 = .pointer (some ⟨g, 0, none⟩) ∧ s10 = .int .u64 (fr (a * b) c) ∧ (wx.cell? ⟨g, 0, none⟩ = some (.int .u64 (hiw (fl (a * b) c))) ∧ wx.cell? ⟨g, 1, none⟩ = some (.int .u64 (low (fl (a * b) c))) ∧ wx.cell? ⟨g, 2, none⟩ = some (.bool (ngw (fl (a * b) c)))) ∧ (wx.frozen? ⟨g, 0, none⟩ = false ∧ wx.frozen? ⟨g, 1, none⟩ = false ∧ wx.frozen? ⟨g, 2, none⟩ = false) ∧ (wx.cell? ⟨wf.heap.size, 0, none⟩ = some (.int .u64 (hiw (c))) ∧ wx.cell? ⟨wf.heap.size, 1, none⟩ = some (.int .u64 (low (c))) ∧ wx.cell? ⟨wf.heap.size, 2, none⟩ = some (.bool (ngw (c)))) ∧ w.heap.size ≤ g ∧ Below w.heap.size w wx)
  case first =>
    go_region_held3 (fun w' => w'.cell? ⟨wf.heap.size, 0, none⟩ = some (.int .u64 (hiw c)) ∧ w'.cell? ⟨wf.heap.size, 1, none⟩ = some (.int .u64 (low c)) ∧ w'.cell? ⟨wf.heap.size, 2, none⟩ = some (.bool (ngw c))) (first | exact keep3 (by assumption) (by assumption) | exact keep3 ((Below.refl _ _).alloc (Nat.le_refl _) _) (by assumption) | (simp [go_sem]; done) | (simp [go_sem, *]; done))
      (first
        | (go_at_call 86; with_reducible (refine (of_any a (by assumption) (by assumption) _).mono ?_); rintro e wa ⟨rfl, hb0⟩; obtain ⟨hg1, hs1⟩ := below_c (w := w) hb0 (by go_grown); have hz1 := hb0.size; (try simp at hz1); (try have := (show wf.heap.size < wa.heap.size by omega)); (try have := (show wf.heap.size + 1 < wa.heap.size by omega)); obtain ⟨hc1, hf1⟩ := bcell hb0; have hb1 := hb0; clear hb0)
        | (go_at_call 86; with_reducible (refine (of_any b (by assumption) (by assumption) _).mono ?_); rintro e wb ⟨rfl, hb0⟩; obtain ⟨hg1, hs1⟩ := below_c (w := w) hb0 (by go_grown); have hz1 := hb0.size; (try simp at hz1); (try have := (show wf.heap.size < wb.heap.size by omega)); (try have := (show wf.heap.size + 1 < wb.heap.size by omega)); (try have := (show wa.heap.size < wb.heap.size by omega)); obtain ⟨hc1, hf1⟩ := bcell hb0; have hb1 := hb0; clear hb0)
        | (go_at_call 84; with_reducible (refine (mul_W a b (by omega) (by omega) (by omega) (by omega) _).mono ?_); rintro e wm ⟨rfl, hb0⟩; obtain ⟨hg1, hs1⟩ := below_c (w := w) hb0 (by go_grown); have hz1 := hb0.size; (try simp at hz1); (try have := (show wf.heap.size < wm.heap.size by omega)); (try have := (show wf.heap.size + 1 < wm.heap.size by omega)); (try have := (show wa.heap.size < wm.heap.size by omega)); (try have := (show wb.heap.size < wm.heap.size by omega)); obtain ⟨hc1, hf1⟩ := bcell hb0; have hb1 := hb0; clear hb0)
        | (go_at_call 83; with_reducible (refine (floor_any (a * b) c (by omega) (by omega) hc (by omega) (by omega) _).mono ?_); rintro e wq ⟨rfl, hb0⟩; obtain ⟨hg1, hs1⟩ := below_c (w := w) hb0 (by go_grown); have hz1 := hb0.size; (try simp at hz1); (try have := (show wf.heap.size < wq.heap.size by omega)); (try have := (show wf.heap.size + 1 < wq.heap.size by omega)); (try have := (show wa.heap.size < wq.heap.size by omega)); (try have := (show wb.heap.size < wq.heap.size by omega)); (try have := (show wm.heap.size < wq.heap.size by omega)); obtain ⟨hc1, hf1⟩ := bcell hb0; have cq : wq.cell? ⟨wf.heap.size, 0, none⟩ = some (.int .u64 (hiw (c))) ∧ wq.cell? ⟨wf.heap.size, 1, none⟩ = some (.int .u64 (low (c))) ∧ wq.cell? ⟨wf.heap.size, 2, none⟩ = some (.bool (ngw (c))) := keep3 hb0 (by assumption); obtain ⟨cq0, cq1, cq2⟩ := cq; have hb1 := hb0; clear hb0))
    all_goals
      go_wp2_with fail
      go_meet
      refine ⟨_, rfl, rfl, ⟨?_, ?_, ?_⟩, ⟨?_, ?_, ?_⟩, ⟨?_, ?_, ?_⟩, ?_, ?_⟩
      all_goals first | omega | (simp [go_sem, *]; done) | (go_grown; done)
  case rest =>
    obtain ⟨g, rfl, rfl, ⟨u0, u1, u2⟩, ⟨v0, v1, v2⟩, ⟨t0, t1, t2⟩, hgw, hB⟩ := hcut
    by_cases hr : low c - fr (a * b) c ≤ fr (a * b) c
    · have hN2 : nr (a * b) c = fl (a * b) c + 1 := by rw [HN.out, if_pos (by omega)]
      have HN2 := Lib.hid hN2
      clear hN2 HN
      have B0 : Blk3 wc g (fl (a * b) c) := ⟨⟨u0, u1, u2⟩, ⟨v0, v1, v2⟩⟩
      go_wp2
      go_region_with (first
        | (go_at_call 86; refine (of_any 1 (by decide) (by decide) _).mono ?_; rintro e w1 ⟨rfl, hb1⟩; obtain ⟨hg1, hs1⟩ := below_c (w := w) hb1 (by go_grown); have B1 := blk3_later hb1 (blk3_drew B0); obtain ⟨⟨p0, p1, p2⟩, q0, q1, q2⟩ := id B1; clear hb1)
        | (go_at_call 87; refine (sum2_any (fl (a * b) c) 1 _ (by omega) (by omega) _ (by simp) (by simp [go_sem]) (by simp [go_sem]) (by simp [go_sem]) (by simp [go_sem]) (by simp [go_sem]) (by simp [go_sem])).mono ?_; rintro e w2 ⟨rfl, hb2⟩; obtain ⟨hg2, hs2⟩ := below_c (w := w) hb2 (by go_grown); obtain ⟨⟨x0, x1, x2⟩, y0, y1, y2⟩ := blk3_later hb2 (blk3_alloc _ B1); clear hb2))
      all_goals
        go_wp2_with (go_at_call 88; refine (sat_any _ (by omega) (by omega) _).mono ?_; rintro e w3 ⟨rfl, hb3⟩; obtain ⟨hg3, hs3⟩ := below_c (w := w) hb3 (by go_grown); clear hb3)
        go_returns
        exact ⟨by rw [HN2.out]; rfl, by go_grown⟩
    · have hN2 : nr (a * b) c = fl (a * b) c := by rw [HN.out, if_neg (by omega)]
      have HN2 := Lib.hid hN2
      clear hN2 HN
      go_wp2_with (go_at_call 88; refine (sat_any _ (by omega) (by omega) _).mono ?_; rintro e w1 ⟨rfl, hb1⟩; obtain ⟨hg1, hs1⟩ := below_c (w := w) hb1 (by go_grown); clear hb1)
      go_returns
      exact ⟨by rw [HN2.out]; rfl, by go_grown⟩
end Go.Proofs.YtghfggfgndgkjaaGreatDoor
