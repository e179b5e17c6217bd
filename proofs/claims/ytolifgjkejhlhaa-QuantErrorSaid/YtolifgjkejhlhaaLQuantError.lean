/- QuantError: the walk: whatever the arguments are, it returns true and writes nothing that was there. -/
import Derived.Test.YtolifgjkejhlhaaQLaw
import Derived.OpenShut
import Derived.BigQuiet
import Derived.Test.YtolifgjkejhlhaaMinMax
import Derived.Test.YtolifgjkejhlhaaBlk
set_option linter.unusedVariables false
set_option linter.unusedSimpArgs false
namespace Go.Proofs.Ytolifgjkejhlhaa
open Go.RowKit

open Go Go.Sort
attribute [local go_sem] opLow opUpon
theorem abs_to (n v : Int) (h : -9223372036854775808 ≤ n ∧ n ≤ 9223372036854775807 ∧ sat (n.natAbs : Int) = v) (w : World) :
    Calls Try.prog 34 #[.int .i64 n] w fun e w' => e = .returned (.int .i64 v) ∧ Below w.heap.size w w' := by
  obtain ⟨h1, h2, rfl⟩ := h
  exact abs_any n h1 h2 w
theorem point_bad' (lo hi b k : Int) (h : GV lo hi b ∧ (k < 0 ∨ gn b < k)) (w : World) :
    Calls Try.prog 38 #[G lo hi b, .int .i64 k] w fun e w' => e = .returned (.tuple #[.int .i64 0, .int .i64 2]) ∧ Below w.heap.size w w' := point_bad lo hi b k h.1 h.2 w
theorem point_to (lo hi b k v : Int) (h : GV lo hi b ∧ 0 ≤ k ∧ k ≤ gn b ∧ qp lo hi b k = v) (w : World) :
    Calls Try.prog 38 #[G lo hi b, .int .i64 k] w fun e w' => e = .returned (.tuple #[.int .i64 v, .int .i64 0]) ∧ Below w.heap.size w w' := point_is lo hi b k v h w
/-- what the loop asks of a neighbour -/
def Neigh (L R B n k ap m : Int) : Prop :=
  (GV L R B ∧ (m < 0 ∨ gn B < m)) ∨ ∃ q aq : Int, (GV L R B ∧ 0 ≤ m ∧ m ≤ gn B ∧ qp L R B m = q) ∧ (L ≤ q ∧ q ≤ R) ∧ (-9223372036854775808 ≤ q - n ∧ q - n ≤ 9223372036854775807 ∧ sat ((q - n).natAbs : Int) = aq) ∧ ap - 1 ≤ aq ∧ 0 ≤ aq ∧ aq ≤ 4398046511104
set_option maxHeartbeats 1000000 in
theorem error_facts (L R B n : Int) (hg : GV L R B) (hn : L ≤ n ∧ n ≤ R) : ∃ k p far ap : Int, (0 ≤ k ∧ k ≤ gn B) ∧ (L ≤ p ∧ p ≤ R) ∧ (0 ≤ ap ∧ ap ≤ far) ∧ far ≤ (R - L) / 2 + 1 ∧ ap ≤ 4398046511104 ∧ (R - L ≤ gn B → far = 0 ∧ p = n) ∧
    Hid (GV L R B ∧ qi L R B n = k) ∧ Hid (GV L R B ∧ qp L R B (qi L R B n) = p) ∧ Hid (GV L R B ∧ qe L R B = far) ∧ Hid (-9223372036854775808 ≤ p - n ∧ p - n ≤ 9223372036854775807 ∧ sat ((p - n).natAbs : Int) = ap) ∧
    Hid (Neigh L R B n k ap (k - 1)) ∧ Hid (Neigh L R B n k ap (k + 1)) := by
  obtain ⟨q1, q2⟩ := qi_bd L R B n hg
  obtain ⟨p1, p2⟩ := qp_bd L R B _ hg q1 q2
  have f1 := near_far L R B n hg hn.1 hn.2
  have f2 := qe_half L R B hg
  have f3 := near_best L R B n (-1) hg hn.1 hn.2 (.inr rfl)
  have f4 := near_best L R B n 1 hg hn.1 hn.2 (.inl rfl)
  have hg' := hg
  obtain ⟨h1, h2, h3, h4, h5⟩ := hg'
  obtain ⟨p, hp⟩ : ∃ p, qp L R B (qi L R B n) = p := ⟨_, rfl⟩
  obtain ⟨k, hk⟩ : ∃ k, qi L R B n = k := ⟨_, rfl⟩
  have hz : R - L ≤ gn B → qe L R B = 0 ∧ p = n := fun h => ⟨by unfold qe; rw [if_pos h], by rw [← hp]; exact qp_qi L R B n hg hn.1 hn.2 h⟩
  have neigh : ∀ s : Int, ((p - n).natAbs : Int) - 1 ≤ ((qp L R B (k + s) - n).natAbs : Int) → Neigh L R B n k ((p - n).natAbs : Int) (k + s) := fun s hs => by
    by_cases hv : 0 ≤ k + s ∧ k + s ≤ gn B
    · obtain ⟨b1, b2⟩ := qp_bd L R B (k + s) hg hv.1 hv.2
      exact .inr ⟨_, _, ⟨hg, hv.1, hv.2, rfl⟩, ⟨b1, b2⟩, ⟨by omega, by omega, sat_in _ (by omega) (by omega)⟩, hs, by omega, by omega⟩
    · exact .inl ⟨hg, by omega⟩
  rw [hp] at f1 f3 f4 p1 p2
  rw [hk] at f3 f4 q1 q2
  refine ⟨k, p, _, ((p - n).natAbs : Int), ⟨q1, q2⟩, ⟨p1, p2⟩, ⟨by omega, by omega⟩, f2, by omega, hz, Lib.hid ⟨hg, hk⟩, Lib.hid ⟨hg, hp⟩, Lib.hid ⟨hg, rfl⟩, Lib.hid ⟨by omega, by omega, sat_in _ (by omega) (by omega)⟩, Lib.hid ?_, Lib.hid (neigh 1 f4)⟩
  have := neigh (-1) f3
  rwa [show k + -1 = k - 1 by omega] at this

set_option maxRecDepth 100000 in
set_option maxHeartbeats 8000000 in
theorem walk_QuantError (a0 a1 a2 a3 : Int) (w0 : (Lit.int .i64 a0).wf = true) (w1 : (Lit.int .u64 a1).wf = true) (w2 : (Lit.int .u8 a2).wf = true) (w3 : (Lit.int .u64 a3).wf = true) (w : World) :
    Calls Try.prog 19 #[.int .i64 a0, .int .u64 a1, .int .u8 a2, .int .u64 a3] w fun e w' => e = .returned (.bool true) ∧ Below w.heap.size w w' := by
  have w0 := bounds_i64 w0
  have w1 := bounds_u64 w1
  have w2 := bounds_u8 w2
  have w3 := bounds_u64 w3
  have hG := GV_grid a0 a1 a2 w2.1
  obtain ⟨L, hL⟩ : ∃ L, gl a0 = L := ⟨_, rfl⟩
  obtain ⟨R, hR⟩ : ∃ R, gl a0 + gw a1 = R := ⟨_, rfl⟩
  obtain ⟨B, hB⟩ : ∃ B, gb a2 = B := ⟨_, rfl⟩
  rw [hL, hB] at hG
  rw [← hL, hR, hL] at hG
  have H0 := Lib.hid (show ((-9223372036854775808 ≤ a0 ∧ a0 ≤ 9223372036854775807) ∧ (0 ≤ a1 ∧ a1 ≤ 18446744073709551615) ∧ 0 ≤ a2 ∧ a2 ≤ 255) ∧ gl a0 = L ∧ gl a0 + gw a1 = R ∧ gb a2 = B from ⟨⟨w0, w1, w2⟩, hL, hR, hB⟩)
  clear hL hR hB
  have HG := Lib.hid hG
  obtain ⟨l1, l2, l3, b1, b2⟩ := hG
  obtain ⟨g1, g2, g3⟩ := gn_bd B b1 b2
  have n0 := Int.emod_nonneg a3 (show R - L + 1 ≠ 0 by omega)
  have n1 := Int.emod_lt_of_pos a3 (show 0 < R - L + 1 by omega)
  obtain ⟨n, hn⟩ : ∃ n, L + a3 % (R - L + 1) = n := ⟨_, rfl⟩
  have m0 : L ≤ n := by omega
  have m1 : n ≤ R := by omega
  have HI := Lib.hid (show GV L R B ∧ (0 ≤ a3 ∧ a3 ≤ 18446744073709551615) ∧ L + a3 % (R - L + 1) = n from ⟨HG.out, w3, hn⟩)
  clear hn n0 n1 w0 w1 w2 w3
  obtain ⟨k, p, far, ap, ⟨k1, k2⟩, ⟨p1, p2⟩, ⟨t1, t2⟩, t3, t4, hz, H1, H2, H3, H4, N1, N2⟩ := error_facts L R B n HG.out ⟨m0, m1⟩
  have HZ := Lib.hid hz
  clear hz
  go_enter Try.func19, Try.ntmps19
  go_wp2_with fail
  with_reducible refine (grid_val _ _ _ _ _ _ H0.out _).mono ?_
  rintro e W1 ⟨rfl, hb⟩
  obtain ⟨hB', hS'⟩ := below_c (w := w) hb (by (first | (go_grown; done) | (repeat (first | assumption | (refine Below.setCell ?_ (by first | assumption | (simp; omega) | omega) _) | (refine Below.alloc ?_ (by assumption) _)))))
  clear hb
  have hB := hB'; have hS := hS'; clear hB' hS' 
  go_wp2_with fail
  with_reducible refine (inside_val _ _ _ _ _ HI.out _).mono ?_
  rintro e W2 ⟨rfl, hb⟩
  have B'_g : Bk W2 (W1.heap.size) #[.int .i64 L, .int .i64 R, .int .i64 B] 44 := Bk.below (by (repeat (first | with_reducible assumption | ((with_reducible refine Bk.at_ ?_); first | rfl | (simp; done)) | with_reducible apply Bk.alloc))) hb
  obtain ⟨hB', hS'⟩ := below_c (w := w) hb (by (first | (go_grown; done) | (repeat (first | assumption | (refine Below.setCell ?_ (by first | assumption | (simp; omega) | omega) _) | (refine Below.alloc ?_ (by assumption) _)))))
  clear hb hB hS
  have B_g := B'_g
  have hB := hB'; have hS := hS'; clear hB' hS' B'_g
  have c_g_0 := B_g.cell (v := .int .i64 L) 0 rfl
  have c_g_1 := B_g.cell (v := .int .i64 R) 1 rfl
  have c_g_2 := B_g.cell (v := .int .i64 B) 2 rfl
  have lt_g := B_g.lt
  go_wp2_with fail
  with_reducible refine (index_is _ _ _ _ _ H1.out _).mono ?_
  rintro e W3 ⟨rfl, hb⟩
  clear c_g_0 c_g_1 c_g_2 lt_g
  have B'_g : Bk W3 (W1.heap.size) #[.int .i64 L, .int .i64 R, .int .i64 B] 44 := Bk.below (by (repeat (first | with_reducible assumption | ((with_reducible refine Bk.at_ ?_); first | rfl | (simp; done)) | with_reducible apply Bk.alloc))) hb
  obtain ⟨hB', hS'⟩ := below_c (w := w) hb (by (first | (go_grown; done) | (repeat (first | assumption | (refine Below.setCell ?_ (by first | assumption | (simp; omega) | omega) _) | (refine Below.alloc ?_ (by assumption) _)))))
  clear hb hB hS B_g
  have B_g := B'_g
  have hB := hB'; have hS := hS'; clear hB' hS' B'_g
  have c_g_0 := B_g.cell (v := .int .i64 L) 0 rfl
  have c_g_1 := B_g.cell (v := .int .i64 R) 1 rfl
  have c_g_2 := B_g.cell (v := .int .i64 B) 2 rfl
  have lt_g := B_g.lt
  go_wp2_with fail
  with_reducible refine (gnear_is _ _ _ _ _ H2.out _).mono ?_
  rintro e W4 ⟨rfl, hb⟩
  clear c_g_0 c_g_1 c_g_2 lt_g
  have B'_g : Bk W4 (W1.heap.size) #[.int .i64 L, .int .i64 R, .int .i64 B] 44 := Bk.below (by (repeat (first | with_reducible assumption | ((with_reducible refine Bk.at_ ?_); first | rfl | (simp; done)) | with_reducible apply Bk.alloc))) hb
  obtain ⟨hB', hS'⟩ := below_c (w := w) hb (by (first | (go_grown; done) | (repeat (first | assumption | (refine Below.setCell ?_ (by first | assumption | (simp; omega) | omega) _) | (refine Below.alloc ?_ (by assumption) _)))))
  clear hb hB hS B_g
  have B_g := B'_g
  have hB := hB'; have hS := hS'; clear hB' hS' B'_g
  have c_g_0 := B_g.cell (v := .int .i64 L) 0 rfl
  have c_g_1 := B_g.cell (v := .int .i64 R) 1 rfl
  have c_g_2 := B_g.cell (v := .int .i64 B) 2 rfl
  have lt_g := B_g.lt
  go_wp2_with fail
  with_reducible refine (error_is _ _ _ _ H3.out _).mono ?_
  rintro e W5 ⟨rfl, hb⟩
  clear c_g_0 c_g_1 c_g_2 lt_g
  have B'_g : Bk W5 (W1.heap.size) #[.int .i64 L, .int .i64 R, .int .i64 B] 44 := Bk.below (by (repeat (first | with_reducible assumption | ((with_reducible refine Bk.at_ ?_); first | rfl | (simp; done)) | with_reducible apply Bk.alloc))) hb
  obtain ⟨hB', hS'⟩ := below_c (w := w) hb (by (first | (go_grown; done) | (repeat (first | assumption | (refine Below.setCell ?_ (by first | assumption | (simp; omega) | omega) _) | (refine Below.alloc ?_ (by assumption) _)))))
  clear hb hB hS B_g
  have B_g := B'_g
  have hB := hB'; have hS := hS'; clear hB' hS' B'_g
  have c_g_0 := B_g.cell (v := .int .i64 L) 0 rfl
  have c_g_1 := B_g.cell (v := .int .i64 R) 1 rfl
  have c_g_2 := B_g.cell (v := .int .i64 B) 2 rfl
  have lt_g := B_g.lt
  go_wp2_with fail
  with_reducible refine (abs_to _ _ H4.out _).mono ?_
  rintro e W6 ⟨rfl, hb⟩
  clear c_g_0 c_g_1 c_g_2 lt_g
  have B'_g : Bk W6 (W1.heap.size) #[.int .i64 L, .int .i64 R, .int .i64 B] 44 := Bk.below (by (repeat (first | with_reducible assumption | ((with_reducible refine Bk.at_ ?_); first | rfl | (simp; done)) | with_reducible apply Bk.alloc))) hb
  obtain ⟨hB', hS'⟩ := below_c (w := w) hb (by (first | (go_grown; done) | (repeat (first | assumption | (refine Below.setCell ?_ (by first | assumption | (simp; omega) | omega) _) | (refine Below.alloc ?_ (by assumption) _)))))
  clear hb hB hS B_g
  have B_g := B'_g
  have hB := hB'; have hS := hS'; clear hB' hS' B'_g
  have c_g_0 := B_g.cell (v := .int .i64 L) 0 rfl
  have c_g_1 := B_g.cell (v := .int .i64 R) 1 rfl
  have c_g_2 := B_g.cell (v := .int .i64 B) 2 rfl
  have lt_g := B_g.lt
  go_wp2_with fail
  go_loopw [88] (fun v88 wr => ∃ j : Nat, j ≤ 2 ∧ v88 = .int .i64 j ∧ Bk wr W1.heap.size #[.int .i64 L, .int .i64 R, .int .i64 B] 44 ∧ Bk wr W6.heap.size #[.int .i64 (k - 1), .int .i64 (k + 1)] 3 ∧ Below w.heap.size w wr) (fun v88 _ => 2 - (intOf v88).toNat)
  case atStart => exact ⟨0, by omega, rfl, by (repeat (first | with_reducible assumption | ((with_reducible refine Bk.at_ ?_); first | rfl | (simp; done)) | with_reducible apply Bk.alloc)), by (repeat (first | with_reducible assumption | ((with_reducible refine Bk.at_ ?_); first | rfl | (simp; done)) | with_reducible apply Bk.alloc)), by (first | (go_grown; done) | (repeat (first | assumption | (refine Below.setCell ?_ (by first | assumption | (simp; omega) | omega) _) | (refine Below.alloc ?_ (by assumption) _))))⟩
  case round =>
    obtain ⟨j, hj, rfl, B_g, B_s, hB⟩ := hrel
    obtain ⟨W20, rfl⟩ : ∃ W20 : World, W20 = wr := ⟨_, rfl⟩
    have hS := hB.size
    rcases (show j = 0 ∨ j = 1 ∨ j = 2 by omega) with rfl | rfl | rfl
    · rcases N1.out with hN | ⟨q, aq, hN, ⟨q1, q2⟩, hA, q3, q4, q5⟩
      · have HN := Lib.hid hN; clear hN
        have c_g_0 := B_g.cell (v := .int .i64 L) 0 rfl
        have c_g_1 := B_g.cell (v := .int .i64 R) 1 rfl
        have c_g_2 := B_g.cell (v := .int .i64 B) 2 rfl
        have lt_g := B_g.lt
        have c_s_0 := B_s.cell (v := .int .i64 (k - 1)) 0 rfl
        have c_s_1 := B_s.cell (v := .int .i64 (k + 1)) 1 rfl
        have lt_s := B_s.lt
        go_wp2_with fail
        with_reducible refine (point_bad' _ _ _ _ HN.out _).mono ?_
        rintro e W21 ⟨rfl, hb⟩
        clear c_g_0 c_g_1 c_g_2 lt_g c_s_0 c_s_1 lt_s
        have B'_g : Bk W21 (W1.heap.size) #[.int .i64 L, .int .i64 R, .int .i64 B] 44 := Bk.below (by (repeat (first | with_reducible assumption | ((with_reducible refine Bk.at_ ?_); first | rfl | (simp; done)) | with_reducible apply Bk.alloc))) hb
        have B'_s : Bk W21 (W6.heap.size) #[.int .i64 (k - 1), .int .i64 (k + 1)] 3 := Bk.below (by (repeat (first | with_reducible assumption | ((with_reducible refine Bk.at_ ?_); first | rfl | (simp; done)) | with_reducible apply Bk.alloc))) hb
        obtain ⟨hB', hS'⟩ := below_c (w := w) hb (by (first | (go_grown; done) | (repeat (first | assumption | (refine Below.setCell ?_ (by first | assumption | (simp; omega) | omega) _) | (refine Below.alloc ?_ (by assumption) _)))))
        clear hb hB hS B_g B_s
        have B_g := B'_g
        have B_s := B'_s
        have hB := hB'; have hS := hS'; clear hB' hS' B'_g B'_s
        go_wp2
        go_roundw
        case rel => exact ⟨1, by omega, by first | rfl | go_num, by (repeat (first | with_reducible assumption | ((with_reducible refine Bk.at_ ?_); first | rfl | (simp; done)) | with_reducible apply Bk.alloc)), by (repeat (first | with_reducible assumption | ((with_reducible refine Bk.at_ ?_); first | rfl | (simp; done)) | with_reducible apply Bk.alloc)), by (first | (go_grown; done) | (repeat (first | assumption | (refine Below.setCell ?_ (by first | assumption | (simp; omega) | omega) _) | (refine Below.alloc ?_ (by assumption) _))))⟩
        case measure => simp [intOf]
      · have HN := Lib.hid hN; clear hN
        have HA := Lib.hid hA; clear hA
        have c_g_0 := B_g.cell (v := .int .i64 L) 0 rfl
        have c_g_1 := B_g.cell (v := .int .i64 R) 1 rfl
        have c_g_2 := B_g.cell (v := .int .i64 B) 2 rfl
        have lt_g := B_g.lt
        have c_s_0 := B_s.cell (v := .int .i64 (k - 1)) 0 rfl
        have c_s_1 := B_s.cell (v := .int .i64 (k + 1)) 1 rfl
        have lt_s := B_s.lt
        go_wp2_with fail
        with_reducible refine (point_to _ _ _ _ _ HN.out _).mono ?_
        rintro e W21 ⟨rfl, hb⟩
        clear c_g_0 c_g_1 c_g_2 lt_g c_s_0 c_s_1 lt_s
        have B'_g : Bk W21 (W1.heap.size) #[.int .i64 L, .int .i64 R, .int .i64 B] 44 := Bk.below (by (repeat (first | with_reducible assumption | ((with_reducible refine Bk.at_ ?_); first | rfl | (simp; done)) | with_reducible apply Bk.alloc))) hb
        have B'_s : Bk W21 (W6.heap.size) #[.int .i64 (k - 1), .int .i64 (k + 1)] 3 := Bk.below (by (repeat (first | with_reducible assumption | ((with_reducible refine Bk.at_ ?_); first | rfl | (simp; done)) | with_reducible apply Bk.alloc))) hb
        obtain ⟨hB', hS'⟩ := below_c (w := w) hb (by (first | (go_grown; done) | (repeat (first | assumption | (refine Below.setCell ?_ (by first | assumption | (simp; omega) | omega) _) | (refine Below.alloc ?_ (by assumption) _)))))
        clear hb hB hS B_g B_s
        have B_g := B'_g
        have B_s := B'_s
        have hB := hB'; have hS := hS'; clear hB' hS' B'_g B'_s
        go_wp2_with fail
        with_reducible refine (abs_to _ _ HA.out _).mono ?_
        rintro e W22 ⟨rfl, hb⟩
        have B'_g : Bk W22 (W1.heap.size) #[.int .i64 L, .int .i64 R, .int .i64 B] 44 := Bk.below (by (repeat (first | with_reducible assumption | ((with_reducible refine Bk.at_ ?_); first | rfl | (simp; done)) | with_reducible apply Bk.alloc))) hb
        have B'_s : Bk W22 (W6.heap.size) #[.int .i64 (k - 1), .int .i64 (k + 1)] 3 := Bk.below (by (repeat (first | with_reducible assumption | ((with_reducible refine Bk.at_ ?_); first | rfl | (simp; done)) | with_reducible apply Bk.alloc))) hb
        obtain ⟨hB', hS'⟩ := below_c (w := w) hb (by (first | (go_grown; done) | (repeat (first | assumption | (refine Below.setCell ?_ (by first | assumption | (simp; omega) | omega) _) | (refine Below.alloc ?_ (by assumption) _)))))
        clear hb hB hS B_g B_s
        have B_g := B'_g
        have B_s := B'_s
        have hB := hB'; have hS := hS'; clear hB' hS' B'_g B'_s
        go_wp2_with fail
        with_reducible refine (abs_to _ _ H4.out _).mono ?_
        rintro e W23 ⟨rfl, hb⟩
        have B'_g : Bk W23 (W1.heap.size) #[.int .i64 L, .int .i64 R, .int .i64 B] 44 := Bk.below (by (repeat (first | with_reducible assumption | ((with_reducible refine Bk.at_ ?_); first | rfl | (simp; done)) | with_reducible apply Bk.alloc))) hb
        have B'_s : Bk W23 (W6.heap.size) #[.int .i64 (k - 1), .int .i64 (k + 1)] 3 := Bk.below (by (repeat (first | with_reducible assumption | ((with_reducible refine Bk.at_ ?_); first | rfl | (simp; done)) | with_reducible apply Bk.alloc))) hb
        obtain ⟨hB', hS'⟩ := below_c (w := w) hb (by (first | (go_grown; done) | (repeat (first | assumption | (refine Below.setCell ?_ (by first | assumption | (simp; omega) | omega) _) | (refine Below.alloc ?_ (by assumption) _)))))
        clear hb hB hS B_g B_s
        have B_g := B'_g
        have B_s := B'_s
        have hB := hB'; have hS := hS'; clear hB' hS' B'_g B'_s
        go_wp2
        go_roundw
        case rel => exact ⟨1, by omega, by first | rfl | go_num, by (repeat (first | with_reducible assumption | ((with_reducible refine Bk.at_ ?_); first | rfl | (simp; done)) | with_reducible apply Bk.alloc)), by (repeat (first | with_reducible assumption | ((with_reducible refine Bk.at_ ?_); first | rfl | (simp; done)) | with_reducible apply Bk.alloc)), by (first | (go_grown; done) | (repeat (first | assumption | (refine Below.setCell ?_ (by first | assumption | (simp; omega) | omega) _) | (refine Below.alloc ?_ (by assumption) _))))⟩
        case measure => simp [intOf]
    · rcases N2.out with hN | ⟨q, aq, hN, ⟨q1, q2⟩, hA, q3, q4, q5⟩
      · have HN := Lib.hid hN; clear hN
        have c_g_0 := B_g.cell (v := .int .i64 L) 0 rfl
        have c_g_1 := B_g.cell (v := .int .i64 R) 1 rfl
        have c_g_2 := B_g.cell (v := .int .i64 B) 2 rfl
        have lt_g := B_g.lt
        have c_s_0 := B_s.cell (v := .int .i64 (k - 1)) 0 rfl
        have c_s_1 := B_s.cell (v := .int .i64 (k + 1)) 1 rfl
        have lt_s := B_s.lt
        go_wp2_with fail
        with_reducible refine (point_bad' _ _ _ _ HN.out _).mono ?_
        rintro e W21 ⟨rfl, hb⟩
        clear c_g_0 c_g_1 c_g_2 lt_g c_s_0 c_s_1 lt_s
        have B'_g : Bk W21 (W1.heap.size) #[.int .i64 L, .int .i64 R, .int .i64 B] 44 := Bk.below (by (repeat (first | with_reducible assumption | ((with_reducible refine Bk.at_ ?_); first | rfl | (simp; done)) | with_reducible apply Bk.alloc))) hb
        have B'_s : Bk W21 (W6.heap.size) #[.int .i64 (k - 1), .int .i64 (k + 1)] 3 := Bk.below (by (repeat (first | with_reducible assumption | ((with_reducible refine Bk.at_ ?_); first | rfl | (simp; done)) | with_reducible apply Bk.alloc))) hb
        obtain ⟨hB', hS'⟩ := below_c (w := w) hb (by (first | (go_grown; done) | (repeat (first | assumption | (refine Below.setCell ?_ (by first | assumption | (simp; omega) | omega) _) | (refine Below.alloc ?_ (by assumption) _)))))
        clear hb hB hS B_g B_s
        have B_g := B'_g
        have B_s := B'_s
        have hB := hB'; have hS := hS'; clear hB' hS' B'_g B'_s
        go_wp2
        go_roundw
        case rel => exact ⟨2, by omega, by first | rfl | go_num, by (repeat (first | with_reducible assumption | ((with_reducible refine Bk.at_ ?_); first | rfl | (simp; done)) | with_reducible apply Bk.alloc)), by (repeat (first | with_reducible assumption | ((with_reducible refine Bk.at_ ?_); first | rfl | (simp; done)) | with_reducible apply Bk.alloc)), by (first | (go_grown; done) | (repeat (first | assumption | (refine Below.setCell ?_ (by first | assumption | (simp; omega) | omega) _) | (refine Below.alloc ?_ (by assumption) _))))⟩
        case measure => simp [intOf]
      · have HN := Lib.hid hN; clear hN
        have HA := Lib.hid hA; clear hA
        have c_g_0 := B_g.cell (v := .int .i64 L) 0 rfl
        have c_g_1 := B_g.cell (v := .int .i64 R) 1 rfl
        have c_g_2 := B_g.cell (v := .int .i64 B) 2 rfl
        have lt_g := B_g.lt
        have c_s_0 := B_s.cell (v := .int .i64 (k - 1)) 0 rfl
        have c_s_1 := B_s.cell (v := .int .i64 (k + 1)) 1 rfl
        have lt_s := B_s.lt
        go_wp2_with fail
        with_reducible refine (point_to _ _ _ _ _ HN.out _).mono ?_
        rintro e W21 ⟨rfl, hb⟩
        clear c_g_0 c_g_1 c_g_2 lt_g c_s_0 c_s_1 lt_s
        have B'_g : Bk W21 (W1.heap.size) #[.int .i64 L, .int .i64 R, .int .i64 B] 44 := Bk.below (by (repeat (first | with_reducible assumption | ((with_reducible refine Bk.at_ ?_); first | rfl | (simp; done)) | with_reducible apply Bk.alloc))) hb
        have B'_s : Bk W21 (W6.heap.size) #[.int .i64 (k - 1), .int .i64 (k + 1)] 3 := Bk.below (by (repeat (first | with_reducible assumption | ((with_reducible refine Bk.at_ ?_); first | rfl | (simp; done)) | with_reducible apply Bk.alloc))) hb
        obtain ⟨hB', hS'⟩ := below_c (w := w) hb (by (first | (go_grown; done) | (repeat (first | assumption | (refine Below.setCell ?_ (by first | assumption | (simp; omega) | omega) _) | (refine Below.alloc ?_ (by assumption) _)))))
        clear hb hB hS B_g B_s
        have B_g := B'_g
        have B_s := B'_s
        have hB := hB'; have hS := hS'; clear hB' hS' B'_g B'_s
        go_wp2_with fail
        with_reducible refine (abs_to _ _ HA.out _).mono ?_
        rintro e W22 ⟨rfl, hb⟩
        have B'_g : Bk W22 (W1.heap.size) #[.int .i64 L, .int .i64 R, .int .i64 B] 44 := Bk.below (by (repeat (first | with_reducible assumption | ((with_reducible refine Bk.at_ ?_); first | rfl | (simp; done)) | with_reducible apply Bk.alloc))) hb
        have B'_s : Bk W22 (W6.heap.size) #[.int .i64 (k - 1), .int .i64 (k + 1)] 3 := Bk.below (by (repeat (first | with_reducible assumption | ((with_reducible refine Bk.at_ ?_); first | rfl | (simp; done)) | with_reducible apply Bk.alloc))) hb
        obtain ⟨hB', hS'⟩ := below_c (w := w) hb (by (first | (go_grown; done) | (repeat (first | assumption | (refine Below.setCell ?_ (by first | assumption | (simp; omega) | omega) _) | (refine Below.alloc ?_ (by assumption) _)))))
        clear hb hB hS B_g B_s
        have B_g := B'_g
        have B_s := B'_s
        have hB := hB'; have hS := hS'; clear hB' hS' B'_g B'_s
        go_wp2_with fail
        with_reducible refine (abs_to _ _ H4.out _).mono ?_
        rintro e W23 ⟨rfl, hb⟩
        have B'_g : Bk W23 (W1.heap.size) #[.int .i64 L, .int .i64 R, .int .i64 B] 44 := Bk.below (by (repeat (first | with_reducible assumption | ((with_reducible refine Bk.at_ ?_); first | rfl | (simp; done)) | with_reducible apply Bk.alloc))) hb
        have B'_s : Bk W23 (W6.heap.size) #[.int .i64 (k - 1), .int .i64 (k + 1)] 3 := Bk.below (by (repeat (first | with_reducible assumption | ((with_reducible refine Bk.at_ ?_); first | rfl | (simp; done)) | with_reducible apply Bk.alloc))) hb
        obtain ⟨hB', hS'⟩ := below_c (w := w) hb (by (first | (go_grown; done) | (repeat (first | assumption | (refine Below.setCell ?_ (by first | assumption | (simp; omega) | omega) _) | (refine Below.alloc ?_ (by assumption) _)))))
        clear hb hB hS B_g B_s
        have B_g := B'_g
        have B_s := B'_s
        have hB := hB'; have hS := hS'; clear hB' hS' B'_g B'_s
        go_wp2
        go_roundw
        case rel => exact ⟨2, by omega, by first | rfl | go_num, by (repeat (first | with_reducible assumption | ((with_reducible refine Bk.at_ ?_); first | rfl | (simp; done)) | with_reducible apply Bk.alloc)), by (repeat (first | with_reducible assumption | ((with_reducible refine Bk.at_ ?_); first | rfl | (simp; done)) | with_reducible apply Bk.alloc)), by (first | (go_grown; done) | (repeat (first | assumption | (refine Below.setCell ?_ (by first | assumption | (simp; omega) | omega) _) | (refine Below.alloc ?_ (by assumption) _))))⟩
        case measure => simp [intOf]
    · have wr1 : IntKind.i64.wrap (R - L) = R - L := by rw [IntKind.wrap_i64]; omega
      have wr2 : IntKind.i64.wrap (gn B) = gn B := by rw [IntKind.wrap_i64]; omega
      rcases (show R - L ≤ gn B ∨ gn B < R - L by omega) with hc | hc
      · obtain ⟨rfl, rfl⟩ := HZ.out hc
        go_wp2
        have k_g_0 := cell_regrown (B_g.cell (v := .int .i64 L) 0 rfl)
        have k_g_1 := cell_regrown (B_g.cell (v := .int .i64 R) 1 rfl)
        have k_g_2 := cell_regrown (B_g.cell (v := .int .i64 B) 2 rfl)
        have k_s_0 := cell_regrown (B_s.cell (v := .int .i64 (k - 1)) 0 rfl)
        have k_s_1 := cell_regrown (B_s.cell (v := .int .i64 (k + 1)) 1 rfl)
        refine wp_region_low 18 (by kernel_rfl) (by kernel_rfl) ?_
        simp only [List.take, List.drop]
        iterate 18 (refine low_step (fun K hK => ?_); go_simp; first | (refine hK _ ?_; clear hK K))
        refine low_nil ?_
        intro W21 hC
        have hb := hC.1
        clear k_g_0 k_g_1 k_g_2 k_s_0 k_s_1
        replace B_g := B_g.below hb
        replace B_s := B_s.below hb
        obtain ⟨hB', hS'⟩ := below_c (w := w) hb hB
        clear hC hb hB hS
        have hB := hB'; have hS := hS'; clear hB' hS'
        have c_g_0 := B_g.cell (v := .int .i64 L) 0 rfl
        have c_g_1 := B_g.cell (v := .int .i64 R) 1 rfl
        have c_g_2 := B_g.cell (v := .int .i64 B) 2 rfl
        have lt_g := B_g.lt
        go_wp2_with fail
        with_reducible refine (awake21 _).mono ?_
        rintro e W22 ⟨rfl, hb⟩
        clear c_g_0 c_g_1 c_g_2 lt_g
        have B'_g : Bk W22 (W1.heap.size) #[.int .i64 L, .int .i64 R, .int .i64 B] 44 := Bk.below (by (repeat (first | with_reducible assumption | ((with_reducible refine Bk.at_ ?_); first | rfl | (simp; done)) | with_reducible apply Bk.alloc))) hb
        have B'_s : Bk W22 (W6.heap.size) #[.int .i64 (k - 1), .int .i64 (k + 1)] 3 := Bk.below (by (repeat (first | with_reducible assumption | ((with_reducible refine Bk.at_ ?_); first | rfl | (simp; done)) | with_reducible apply Bk.alloc))) hb
        obtain ⟨hB', hS'⟩ := below_c (w := w) hb (by (first | (go_grown; done) | (repeat (first | assumption | (refine Below.setCell ?_ (by first | assumption | (simp; omega) | omega) _) | (refine Below.alloc ?_ (by assumption) _)))))
        clear hb hB hS B_g B_s
        have B_g := B'_g
        have B_s := B'_s
        have hB := hB'; have hS := hS'; clear hB' hS' B'_g B'_s
        go_wp2
        go_returns
        exact ⟨rfl, by (first | (go_grown; done) | (repeat (first | assumption | (refine Below.setCell ?_ (by first | assumption | (simp; omega) | omega) _) | (refine Below.alloc ?_ (by assumption) _))))⟩
      · have cb : ¬ R - L ≤ gn B := by omega
        have cb2 : decide (R - L ≤ gn B) = false := by simpa using cb
        go_wp2
        have k_g_0 := cell_regrown (B_g.cell (v := .int .i64 L) 0 rfl)
        have k_g_1 := cell_regrown (B_g.cell (v := .int .i64 R) 1 rfl)
        have k_g_2 := cell_regrown (B_g.cell (v := .int .i64 B) 2 rfl)
        have k_s_0 := cell_regrown (B_s.cell (v := .int .i64 (k - 1)) 0 rfl)
        have k_s_1 := cell_regrown (B_s.cell (v := .int .i64 (k + 1)) 1 rfl)
        refine wp_region_low 18 (by kernel_rfl) (by kernel_rfl) ?_
        simp only [List.take, List.drop]
        iterate 18 (refine low_step (fun K hK => ?_); go_simp; first | (refine hK _ ?_; clear hK K))
        refine low_nil ?_
        intro W21 hC
        have hb := hC.1
        clear k_g_0 k_g_1 k_g_2 k_s_0 k_s_1
        replace B_g := B_g.below hb
        replace B_s := B_s.below hb
        obtain ⟨hB', hS'⟩ := below_c (w := w) hb hB
        clear hC hb hB hS
        have hB := hB'; have hS := hS'; clear hB' hS'
        have c_g_0 := B_g.cell (v := .int .i64 L) 0 rfl
        have c_g_1 := B_g.cell (v := .int .i64 R) 1 rfl
        have c_g_2 := B_g.cell (v := .int .i64 B) 2 rfl
        have lt_g := B_g.lt
        go_wp2_with fail
        with_reducible refine (awake21 _).mono ?_
        rintro e W22 ⟨rfl, hb⟩
        clear c_g_0 c_g_1 c_g_2 lt_g
        have B'_g : Bk W22 (W1.heap.size) #[.int .i64 L, .int .i64 R, .int .i64 B] 44 := Bk.below (by (repeat (first | with_reducible assumption | ((with_reducible refine Bk.at_ ?_); first | rfl | (simp; done)) | with_reducible apply Bk.alloc))) hb
        have B'_s : Bk W22 (W6.heap.size) #[.int .i64 (k - 1), .int .i64 (k + 1)] 3 := Bk.below (by (repeat (first | with_reducible assumption | ((with_reducible refine Bk.at_ ?_); first | rfl | (simp; done)) | with_reducible apply Bk.alloc))) hb
        obtain ⟨hB', hS'⟩ := below_c (w := w) hb (by (first | (go_grown; done) | (repeat (first | assumption | (refine Below.setCell ?_ (by first | assumption | (simp; omega) | omega) _) | (refine Below.alloc ?_ (by assumption) _)))))
        clear hb hB hS B_g B_s
        have B_g := B'_g
        have B_s := B'_s
        have hB := hB'; have hS := hS'; clear hB' hS' B'_g B'_s
        go_wp2
        go_returns
        exact ⟨rfl, by (first | (go_grown; done) | (repeat (first | assumption | (refine Below.setCell ?_ (by first | assumption | (simp; omega) | omega) _) | (refine Below.alloc ?_ (by assumption) _))))⟩
end Go.Proofs.Ytolifgjkejhlhaa
