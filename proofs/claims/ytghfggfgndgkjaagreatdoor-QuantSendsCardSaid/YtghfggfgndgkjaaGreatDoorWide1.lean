/- The walks of package wide's small functions: each returns what its words say, and writes nothing that was there. -/
import Derived.Test.YtghfggfgndgkjaaGreatDoorProg
import Derived.Test.YtghfggfgndgkjaaGreatDoorWords
import Derived.WalkKit
import Derived.WalkSpells
import Derived.WalkLawsBesides
import Derived.Handy
import Derived.Outline
import Derived.BigRegion
import Derived.RegionTactic
import Derived.Deep.QuietTactic
import Derived.BigQuiet
import Derived.Deep.RegionHeld3
import Derived.Lib.Hide
set_option linter.unusedVariables false
set_option linter.unusedSimpArgs false
namespace Go.Proofs.YtghfggfgndgkjaaGreatDoor
open Go.RowKit

theorem after {w V w1 : World} (hb : Below V.heap.size V w1) (h0 : Below w.heap.size w V) : (∀ b o, b < V.heap.size → w1.cell? ⟨b, o, none⟩ = V.cell? ⟨b, o, none⟩) ∧ (∀ b o, b < V.heap.size → w1.frozen? ⟨b, o, none⟩ = V.frozen? ⟨b, o, none⟩) ∧ V.heap.size ≤ w1.heap.size ∧ Below w.heap.size w w1 :=
  ⟨fun b o h => hb.cell (p := ⟨b, o, none⟩) h, fun b o h => hb.frozen (p := ⟨b, o, none⟩) h, hb.size, h0.trans (hb.mono h0.size)⟩
theorem bcell {V w1 : World} (hb : Below V.heap.size V w1) : (∀ b o, b < V.heap.size → w1.cell? ⟨b, o, none⟩ = V.cell? ⟨b, o, none⟩) ∧ (∀ b o, b < V.heap.size → w1.frozen? ⟨b, o, none⟩ = V.frozen? ⟨b, o, none⟩) :=
  ⟨fun b o h => hb.cell (p := ⟨b, o, none⟩) h, fun b o h => hb.frozen (p := ⟨b, o, none⟩) h⟩
theorem chain {B : Nat} {V0 w1 w2 : World} (h1 : Below B V0 w1) (hB : B ≤ V0.heap.size) (h2 : Below w1.heap.size w1 w2) : Below B V0 w2 := h1.trans (h2.mono (Nat.le_trans hB h1.size))
theorem sz1 {n m : Nat} (h : n + 1 ≤ m) : n < m := h
theorem sz2 {n m : Nat} (h : n + 1 + 1 ≤ m) : n < m ∧ n + 1 < m := ⟨by omega, by omega⟩
theorem sz3 {n m : Nat} (h : n + 1 + 1 + 1 ≤ m) : n < m ∧ n + 1 < m ∧ n + 1 + 1 < m := ⟨by omega, by omega, by omega⟩
theorem sz4 {n m : Nat} (h : n + 1 + 1 + 1 + 1 ≤ m) : n < m ∧ n + 1 < m ∧ n + 1 + 1 < m ∧ n + 1 + 1 + 1 < m := ⟨by omega, by omega, by omega, by omega⟩
theorem keep2 {V w1 : World} {p1 p2 : Addr} {v1 v2 : Value} (hb : Below V.heap.size V w1) (h : V.cell? p1 = some v1 ∧ V.cell? p2 = some v2) : w1.cell? p1 = some v1 ∧ w1.cell? p2 = some v2 :=
  ⟨cell_later hb h.1, cell_later hb h.2⟩
theorem keep3 {V w1 : World} {p1 p2 p3 : Addr} {v1 v2 v3 : Value} (hb : Below V.heap.size V w1) (h : V.cell? p1 = some v1 ∧ V.cell? p2 = some v2 ∧ V.cell? p3 = some v3) : w1.cell? p1 = some v1 ∧ w1.cell? p2 = some v2 ∧ w1.cell? p3 = some v3 :=
  ⟨cell_later hb h.1, keep2 hb h.2⟩
theorem keep4 {V w1 : World} {p1 p2 p3 p4 : Addr} {v1 v2 v3 v4 : Value} (hb : Below V.heap.size V w1) (h : V.cell? p1 = some v1 ∧ V.cell? p2 = some v2 ∧ V.cell? p3 = some v3 ∧ V.cell? p4 = some v4) : w1.cell? p1 = some v1 ∧ w1.cell? p2 = some v2 ∧ w1.cell? p3 = some v3 ∧ w1.cell? p4 = some v4 :=
  ⟨cell_later hb h.1, keep3 hb h.2⟩
theorem ret_agg2 {a b c d : Int} (h1 : a = c) (h2 : b = d) : Ending.returned (.agg #[.int .u64 a, .int .u64 b]) = Ending.returned (.agg #[.int .u64 c, .int .u64 d]) := by rw [h1, h2]
theorem ret_int {k : IntKind} {a b : Int} (h : a = b) : Ending.returned (.int k a) = .returned (.int k b) := by rw [h]
theorem ret_bool {a b : Bool} (h : a = b) : Ending.returned (.bool a) = .returned (.bool b) := by rw [h]

theorem made_hi (h l : Int) (hz : ¬ h = 0) (w : World) :
    Calls Tryz.prog 108 #[.agg #[.int .u64 h, .int .u64 l], .bool true] w fun e w' => e = .returned (.agg #[.int .u64 h, .int .u64 l, .bool true]) ∧ Below w.heap.size w w' := by
  go_enter Tryz.func108, Tryz.ntmps108
  go_wp2
  go_region
  go_wp2
  go_returns
  exact ⟨rfl, by go_grown⟩
theorem made_lo (l : Int) (hz : ¬ l = 0) (w : World) :
    Calls Tryz.prog 108 #[.agg #[.int .u64 0, .int .u64 l], .bool true] w fun e w' => e = .returned (.agg #[.int .u64 0, .int .u64 l, .bool true]) ∧ Below w.heap.size w w' := by
  go_enter Tryz.func108, Tryz.ntmps108
  go_wp2
  go_region
  go_wp2
  go_returns
  exact ⟨rfl, by go_grown⟩
theorem made_zero (w : World) :
    Calls Tryz.prog 108 #[.agg #[.int .u64 0, .int .u64 0], .bool true] w fun e w' => e = .returned (.agg #[.int .u64 0, .int .u64 0, .bool false]) ∧ Below w.heap.size w w' := by
  go_enter Tryz.func108, Tryz.ntmps108
  go_wp2
  go_region
  go_wp2
  go_returns
  exact ⟨rfl, by go_grown⟩
theorem made_pos (h l : Int) (w : World) :
    Calls Tryz.prog 108 #[.agg #[.int .u64 h, .int .u64 l], .bool false] w fun e w' => e = .returned (.agg #[.int .u64 h, .int .u64 l, .bool false]) ∧ Below w.heap.size w w' := by
  go_enter Tryz.func108, Tryz.ntmps108
  go_wp2
  go_region
  go_wp2
  go_returns
  exact ⟨rfl, by go_grown⟩
theorem made_any (h l : Int) (n : Bool) (w : World) :
    Calls Tryz.prog 108 #[.agg #[.int .u64 h, .int .u64 l], .bool n] w fun e w' => e = .returned (.agg #[.int .u64 h, .int .u64 l, .bool (nz n h l)]) ∧ Below w.heap.size w w' := by
  unfold nz
  cases n
  · exact made_pos h l w
  · by_cases h0 : h = 0
    · subst h0
      by_cases l0 : l = 0
      · subst l0; exact made_zero w
      · rw [show (true && !((0 : Int) == 0 && l == 0)) = true by simp [l0]]; exact made_lo l l0 w
    · rw [show (true && !(h == 0 && l == 0)) = true by simp [h0]]; exact made_hi h l h0 w

theorem and32 (x : Int) (h0 : 0 ≤ x) (h1 : x < 18446744073709551616) : bits .and .u64 x 4294967295 = x % 4294967296 := by
  have h := u64_and x 4294967295 h0 h1 (by decide) (by decide)
  rw [h, show (4294967295 : Int).toNat = 4294967295 from rfl, nat_mask32]
  omega
theorem or32 (x y : Int) (h0 : 0 ≤ x) (h1 : x < 4294967296) (h2 : 0 ≤ y) (h3 : y < 4294967296) : bits .or .u64 (x * 4294967296) y = x * 4294967296 + y := by
  have h := u64_or (x * 4294967296) y (by omega) (by omega) h2 (by omega)
  rw [h, nat_join 32 _ _ (by omega) (by omega)]
  omega
theorem or32' (x y : Int) (h0 : 0 ≤ x) (h2 : 0 ≤ y) (h3 : y < 4294967296) : bits .or .u64 (IntKind.u64.wrap (x * 4294967296)) y = x % 4294967296 * 4294967296 + y := by
  rw [IntKind.wrap_u64, show x * 4294967296 % 18446744073709551616 = x % 4294967296 * 4294967296 by omega]
  exact or32 _ _ (by omega) (by omega) h2 h3
theorem times_any (a b : Int) (ha : 0 ≤ a) (ha' : a ≤ 18446744073709551615) (hb : 0 ≤ b) (hb' : b ≤ 18446744073709551615) (w : World) :
    Calls Tryz.prog 110 #[.int .u64 a, .int .u64 b] w fun e w' => e = .returned (.agg #[.int .u64 (tmh a b), .int .u64 (tml a b)]) ∧ Below w.heap.size w w' := by
  unfold tmh tml
  have H := times_parts a b ha (by omega) hb (by omega)
  dsimp only at H
  obtain ⟨q1, q15, q2, q3, q4, q5, q6, q7, q8, q9, q10, q11, q12, e1, e2, q13, q14⟩ := H
  have H1 := Lib.hid e1
  have H2 := Lib.hid e2
  clear e1 e2
  have hA := and32 a ha (by omega)
  have hB := and32 b hb (by omega)
  have hM := and32 _ q5 q2
  have hL := and32 _ q4 q1
  have hO := or32' _ _ q6 (Int.emod_nonneg (a % 4294967296 * (b % 4294967296)) (by decide : (4294967296 : Int) ≠ 0)) (by omega)
  go_enter Tryz.func110, Tryz.ntmps110
  go_wp2
  go_returns
  refine ⟨ret_agg2 H1.out ?_, by go_grown⟩
  rw [← H2.out]; omega

theorem of_words (n : Int) (h1 : -9223372036854775808 ≤ n) (h2 : n < 0) : IntKind.u64.wrap (-IntKind.u64.wrap n) = -n := by
  simp only [IntKind.wrap_u64]; omega
theorem of_any (n : Int) (h1 : -9223372036854775808 ≤ n) (h2 : n ≤ 9223372036854775807) (w : World) :
    Calls Tryz.prog 86 #[.int .i64 n] w fun e w' => e = .returned (W n) ∧ Below w.heap.size w w' := by
  by_cases hn : n < 0
  · have hw := of_words n h1 hn
    go_enter Tryz.func86, Tryz.ntmps86
    go_wp2_with (go_at_call 108; refine (made_any _ _ _ _).mono ?_; rintro e w1 ⟨rfl, hb1⟩; obtain ⟨hc1, hf1, hz1, hg1⟩ := after (w := w) hb1 (by go_grown); simp at hz1)
    refine bodyPost_ret (by simp [results, Tryz.results86, go_sem, hc1]; try rfl) rfl ?_
    exact ⟨ret_made (by omega) (by omega) (by omega) (fun _ => by simp [hn]), by go_grown⟩
  · have hn' : 0 ≤ n := by omega
    go_enter Tryz.func86, Tryz.ntmps86
    go_wp2_with (go_at_call 108; refine (made_any _ _ _ _).mono ?_; rintro e w1 ⟨rfl, hb1⟩; obtain ⟨hc1, hf1, hz1, hg1⟩ := after (w := w) hb1 (by go_grown); simp at hz1)
    refine bodyPost_ret (by simp [results, Tryz.results86, go_sem, hc1]; try rfl) rfl ?_
    exact ⟨ret_made (by omega) (by omega) (by omega) (fun _ => by simp [hn']), by go_grown⟩

theorem diff_lt (a b : Int) (ha : -9223372036854775808 ≤ a) (hb : b ≤ 9223372036854775807) (h : a ≤ b) : IntKind.u64.wrap (IntKind.u64.wrap b - IntKind.u64.wrap a) = b - a := by
  simp only [IntKind.wrap_u64]; omega
theorem diff_any (a b : Int) (a1 : -9223372036854775808 ≤ a) (a2 : a ≤ 9223372036854775807) (b1 : -9223372036854775808 ≤ b) (b2 : b ≤ 9223372036854775807) (w : World) :
    Calls Tryz.prog 85 #[.int .i64 a, .int .i64 b] w fun e w' => e = .returned (W (a - b)) ∧ Below w.heap.size w w' := by
  by_cases hn : a < b
  · have hw := diff_lt a b a1 b2 (by omega)
    have hd : 0 ≤ b - a ∧ b - a ≤ 18446744073709551615 := by omega
    go_enter Tryz.func85, Tryz.ntmps85
    go_wp2_with (go_at_call 108; refine (made_any _ _ _ _).mono ?_; rintro e w1 ⟨rfl, hb1⟩; obtain ⟨hc1, hf1, hz1, hg1⟩ := after (w := w) hb1 (by go_grown); simp at hz1)
    refine bodyPost_ret (by simp [results, Tryz.results85, go_sem, hc1]; try rfl) rfl ?_
    exact ⟨ret_made (by omega) (by omega) (by omega) (fun _ => by simp; omega), by go_grown⟩
  · have hw := diff_lt b a b1 a2 (by omega)
    have hd : 0 ≤ a - b ∧ a - b ≤ 18446744073709551615 := by omega
    go_enter Tryz.func85, Tryz.ntmps85
    go_wp2_with (go_at_call 108; refine (made_any _ _ _ _).mono ?_; rintro e w1 ⟨rfl, hb1⟩; obtain ⟨hc1, hf1, hz1, hg1⟩ := after (w := w) hb1 (by go_grown); simp at hz1)
    refine bodyPost_ret (by simp [results, Tryz.results85, go_sem, hc1]; try rfl) rfl ?_
    exact ⟨ret_made (by omega) (by omega) (by omega) (fun _ => by simp; omega), by go_grown⟩

theorem mul_any (x y : Int) (w : World) :
    Calls Tryz.prog 84 #[W x, W y] w fun e w' => e = .returned (.agg #[.int .u64 (tmh (low x) (low y)), .int .u64 (tml (low x) (low y)), .bool (nz (ngw x != ngw y) (tmh (low x) (low y)) (tml (low x) (low y)))]) ∧ Below w.heap.size w w' := by
  have l1 := low_nonneg x
  have l2 := low_le x
  have l3 := low_nonneg y
  have l4 := low_le y
  go_enter Tryz.func84, Tryz.ntmps84
  go_wp2
  go_region_held3 (fun w' => w'.cell? ⟨w.heap.size, 1, none⟩ = some (.int .u64 (low x)) ∧ w'.cell? ⟨w.heap.size, 2, none⟩ = some (.bool (ngw x)) ∧ w'.cell? ⟨w.heap.size + 1, 1, none⟩ = some (.int .u64 (low y)) ∧ w'.cell? ⟨w.heap.size + 1, 2, none⟩ = some (.bool (ngw y))) (first | exact keep4 (by assumption) (by assumption) | (simp [go_sem]; done) | (simp [go_sem, *]; done))
    (first
      | (go_at_call 110; refine (times_any _ _ (by assumption) (by assumption) (by assumption) (by assumption) _).mono ?_; rintro e w1 ⟨rfl, hb1⟩; obtain ⟨hc1, hf1⟩ := bcell hb1)
      | (go_at_call 108; refine (made_any _ _ _ _).mono ?_; rintro e w2 ⟨rfl, hb2⟩; have hb3 := chain (by assumption) (Nat.le_refl _) hb2; obtain ⟨hc2, hf2⟩ := bcell hb3))
  go_wp2
  refine bodyPost_ret (by simp [results, Tryz.results84, go_sem, hc2]; try rfl) rfl ?_
  exact ⟨rfl, by go_grown; exact (after hb3 (by go_grown)).2.2.2⟩
end Go.Proofs.YtghfggfgndgkjaaGreatDoor
