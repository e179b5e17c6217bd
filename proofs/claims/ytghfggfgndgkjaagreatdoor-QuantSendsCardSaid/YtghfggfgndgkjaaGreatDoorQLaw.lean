/- Plain laws of grids: order, ends, moved grids, points that represent themselves. -/
import Derived.Test.YtghfggfgndgkjaaGreatDoorAwake21
set_option linter.unusedVariables false
set_option linter.unusedSimpArgs false
namespace Go.Proofs.YtghfggfgndgkjaaGreatDoor
open Go.RowKit

theorem ltge (a b : Int) : a < b ∨ b ≤ a := by omega
theorem index_is (lo hi b x v : Int) (h : GV lo hi b ∧ qi lo hi b x = v) (w : World) :
    Calls Tryz.prog 46 #[G lo hi b, .int .i64 x] w fun e w' => e = .returned (.tuple #[.int .i64 v, .int .i64 0]) ∧ Below w.heap.size w w' := by
  obtain ⟨h1, rfl⟩ := h
  exact index_any lo hi b x h1 w
theorem point_is (lo hi b k v : Int) (h : GV lo hi b ∧ 0 ≤ k ∧ k ≤ gn b ∧ qp lo hi b k = v) (w : World) :
    Calls Tryz.prog 47 #[G lo hi b, .int .i64 k] w fun e w' => e = .returned (.tuple #[.int .i64 v, .int .i64 0]) ∧ Below w.heap.size w w' := by
  obtain ⟨h1, h2, h3, rfl⟩ := h
  exact point_any lo hi b k h1 h2 h3 w
theorem gnear_is (lo hi b x v : Int) (h : GV lo hi b ∧ qp lo hi b (qi lo hi b x) = v) (w : World) :
    Calls Tryz.prog 48 #[G lo hi b, .int .i64 x] w fun e w' => e = .returned (.tuple #[.int .i64 v, .int .i64 0]) ∧ Below w.heap.size w w' := by
  obtain ⟨h1, rfl⟩ := h
  exact gnear_any lo hi b x h1 w
theorem error_is (lo hi b v : Int) (h : GV lo hi b ∧ qe lo hi b = v) (w : World) :
    Calls Tryz.prog 44 #[G lo hi b] w fun e w' => e = .returned (.tuple #[.int .i64 v, .int .i64 0]) ∧ Below w.heap.size w w' := by
  obtain ⟨h1, rfl⟩ := h
  exact error_any lo hi b h1 w

theorem qi_mono (lo hi b x y : Int) (hg : GV lo hi b) (h : x ≤ y) : qi lo hi b x ≤ qi lo hi b y := by
  obtain ⟨h1, h2, h3, h4, h5⟩ := hg
  obtain ⟨g1, g2, -⟩ := gn_bd b h4 h5
  unfold qi
  refine nr_mono _ _ _ (by omega) (Int.mul_le_mul_of_nonneg_right ?_ (by omega))
  unfold cut; omega
theorem qp_mono (lo hi b k l : Int) (hg : GV lo hi b) (h : k ≤ l) : qp lo hi b k ≤ qp lo hi b l := by
  obtain ⟨h1, h2, h3, h4, h5⟩ := hg
  obtain ⟨g1, g2, -⟩ := gn_bd b h4 h5
  have := nr_mono (k * (hi - lo)) (l * (hi - lo)) (gn b) (by omega) (Int.mul_le_mul_of_nonneg_right h (by omega))
  unfold qp; omega
theorem qi_lo (lo hi b x : Int) (hg : GV lo hi b) (h : x ≤ lo) : qi lo hi b x = 0 := by
  obtain ⟨h1, h2, h3, h4, h5⟩ := hg
  unfold qi
  rw [show cut lo hi x = 0 by unfold cut; omega, Int.zero_mul, nr_zero _ (by omega)]
theorem qi_hi (lo hi b x : Int) (hg : GV lo hi b) (h : hi ≤ x) : qi lo hi b x = gn b := by
  obtain ⟨h1, h2, h3, h4, h5⟩ := hg
  unfold qi
  rw [show cut lo hi x = hi - lo by unfold cut; omega, Int.mul_comm, nr_mul _ _ (by omega)]
theorem qp_0 (lo hi b : Int) (hg : GV lo hi b) : qp lo hi b 0 = lo := by
  obtain ⟨h1, h2, h3, h4, h5⟩ := hg
  obtain ⟨g1, g2, -⟩ := gn_bd b h4 h5
  unfold qp
  rw [Int.zero_mul, nr_zero _ (by omega), Int.add_zero]
theorem qp_n (lo hi b : Int) (hg : GV lo hi b) : qp lo hi b (gn b) = hi := by
  obtain ⟨h1, h2, h3, h4, h5⟩ := hg
  obtain ⟨g1, g2, -⟩ := gn_bd b h4 h5
  unfold qp
  rw [Int.mul_comm, nr_mul _ _ (by omega)]; omega
theorem cut_in (lo hi x : Int) (h1 : lo ≤ x) (h2 : x ≤ hi) : cut lo hi x = x - lo := by unfold cut; omega
theorem gn_u64 (b : Int) (h1 : 1 ≤ b) (h2 : b ≤ 32) : IntKind.u64.wrap (2 ^ b.toNat) = gn b + 1 := by
  obtain ⟨g1, g2, -⟩ := gn_bd b h1 h2
  have e : gn b + 1 = 2 ^ b.toNat := by unfold gn; omega
  rw [← e, IntKind.wrap_u64]; omega
/-- the quotient rounded to the nearest number, ties up: both bounds -/
theorem nr_spec (p c : Int) (hc : 0 < c) : 2 * c * nr p c ≤ 2 * p + c ∧ 2 * p + c < 2 * c * nr p c + 2 * c := by
  rw [nr_pos p c hc]
  have e1 := Int.mul_ediv_add_emod (2 * p + c) (2 * c)
  have e2 := Int.emod_nonneg (2 * p + c) (show 2 * c ≠ 0 by omega)
  have e3 := Int.emod_lt_of_pos (2 * p + c) (show 0 < 2 * c by omega)
  omega
theorem nr_uniq (p c q : Int) (hc : 0 < c) (h1 : 2 * c * q ≤ 2 * p + c) (h2 : 2 * p + c < 2 * c * q + 2 * c) : nr p c = q := by
  rw [nr_pos p c hc]
  exact (div_unique (q := q) (r := 2 * p + c - 2 * c * q) (by rw [Int.mul_comm q]; omega) (by omega) (by omega)).1
/-- a point of the coarser row of points, represented in the finer one, has its own index -/
theorem nr_trip (a W N : Int) (hN : 0 < N) (h : N ≤ W) : nr (nr (a * W) N * N) W = a := by
  obtain ⟨s1, s2⟩ := nr_spec (a * W) N hN
  generalize nr (a * W) N = y at *
  have e1 : 2 * N * y = 2 * (y * N) := by rw [Int.mul_assoc, Int.mul_comm N]
  rw [e1] at s1 s2
  refine nr_uniq _ _ _ (by omega) ?_ ?_ <;> rw [Int.mul_assoc, Int.mul_comm W a]
  · omega
  · rcases (by omega : N < W ∨ N = W) with g | g
    · omega
    · subst g
      have h2 : y ≤ a := by
        rcases ltge a y with g2 | g2
        · have := Int.mul_le_mul_of_nonneg_right (show a + 1 ≤ y by omega) (show 0 ≤ N by omega)
          rw [Int.add_mul, Int.one_mul] at this; omega
        · exact g2
      have := Int.mul_le_mul_of_nonneg_right h2 (show 0 ≤ N by omega)
      omega
theorem qi_qp (lo hi b k : Int) (hg : GV lo hi b) (k0 : 0 ≤ k) (k1 : k ≤ gn b) (hn : gn b ≤ hi - lo) : qi lo hi b (qp lo hi b k) = k := by
  obtain ⟨p1, p2⟩ := qp_bd lo hi b k hg k0 k1
  obtain ⟨h1, h2, h3, h4, h5⟩ := hg
  obtain ⟨g1, g2, -⟩ := gn_bd b h4 h5
  unfold qi
  rw [cut_in _ _ _ p1 p2]
  unfold qp
  rw [show lo + nr (k * (hi - lo)) (gn b) - lo = nr (k * (hi - lo)) (gn b) by omega]
  exact nr_trip _ _ _ (by omega) hn
theorem qp_qi (lo hi b x : Int) (hg : GV lo hi b) (x0 : lo ≤ x) (x1 : x ≤ hi) (hn : hi - lo ≤ gn b) : qp lo hi b (qi lo hi b x) = x := by
  obtain ⟨h1, h2, h3, h4, h5⟩ := hg
  unfold qp qi
  rw [cut_in _ _ _ x0 x1, nr_trip _ _ _ (by omega) hn]; omega
theorem near_near (lo hi b k : Int) (hg : GV lo hi b) (k0 : 0 ≤ k) (k1 : k ≤ gn b) : qp lo hi b (qi lo hi b (qp lo hi b k)) = qp lo hi b k := by
  obtain ⟨p1, p2⟩ := qp_bd lo hi b k hg k0 k1
  rcases (by omega : gn b ≤ hi - lo ∨ hi - lo ≤ gn b) with h | h
  · rw [qi_qp lo hi b k hg k0 k1 h]
  · exact qp_qi lo hi b _ hg p1 p2 h
/-- a moved grid -/
theorem cut_move (lo hi x d : Int) : cut (lo + d) (hi + d) (x + d) = cut lo hi x := by unfold cut; omega
theorem qi_move (lo hi b x d : Int) : qi (lo + d) (hi + d) b (x + d) = qi lo hi b x := by
  unfold qi; rw [cut_move, show hi + d - (lo + d) = hi - lo by omega]
theorem qp_move (lo hi b k d : Int) : qp (lo + d) (hi + d) b k = qp lo hi b k + d := by
  unfold qp; rw [show hi + d - (lo + d) = hi - lo by omega]; omega
theorem qe_move (lo hi b d : Int) : qe (lo + d) (hi + d) b = qe lo hi b := by
  unfold qe; rw [show hi + d - (lo + d) = hi - lo by omega]
theorem qe_wide (lo hi h2 b : Int) (hg : GV lo hi b) (h : hi ≤ h2) : qe lo hi b ≤ qe lo h2 b := by
  obtain ⟨h1, h3, h4, h5, h6⟩ := hg
  obtain ⟨g1, g2, -⟩ := gn_bd b h5 h6
  unfold qe
  by_cases hb : h2 - lo ≤ gn b
  · rw [if_pos hb, if_pos (by omega)]; omega
  · rw [if_neg hb]
    by_cases hc : hi - lo ≤ gn b
    · rw [if_pos hc, nr_pos _ _ (by omega)]; exact Int.ediv_nonneg (by omega) (by omega)
    · rw [if_neg hc]; exact nr_mono _ _ _ (by omega) (by omega)
/-- how far a number is from its point, and its point's neighbours -/
theorem near_far (lo hi b x : Int) (hg : GV lo hi b) (x0 : lo ≤ x) (x1 : x ≤ hi) :
    -(qe lo hi b) ≤ qp lo hi b (qi lo hi b x) - x ∧ qp lo hi b (qi lo hi b x) - x ≤ qe lo hi b := by
  rcases (by omega : hi - lo ≤ gn b ∨ gn b < hi - lo) with hn | hn
  · rw [qp_qi lo hi b x hg x0 x1 hn]
    have := qe_bd lo hi b hg
    omega
  · obtain ⟨h1, h2, h3, h4, h5⟩ := hg
    obtain ⟨g1, g2, -⟩ := gn_bd b h4 h5
    unfold qe qp qi
    rw [if_neg (by omega), cut_in _ _ _ x0 x1]
    obtain ⟨s1, s2⟩ := nr_spec ((hi - lo) * 1) (2 * gn b) (by omega)
    obtain ⟨t1, t2⟩ := nr_spec ((x - lo) * gn b) (hi - lo) (by omega)
    generalize hE : nr ((hi - lo) * 1) (2 * gn b) = E at *
    generalize hK : nr ((x - lo) * gn b) (hi - lo) = k at *
    obtain ⟨u1, u2⟩ := nr_spec (k * (hi - lo)) (gn b) (by omega)
    generalize hY : nr (k * (hi - lo)) (gn b) = y at *
    obtain ⟨X, hX⟩ : ∃ X, x - lo = X := ⟨_, rfl⟩
    obtain ⟨W, hW⟩ : ∃ W, hi - lo = W := ⟨_, rfl⟩
    rw [hX, hW] at t1 t2
    rw [hW] at s1 s2 u1 u2
    generalize gn b = N at *
    rw [show lo + y - x = y - X by omega]
    rw [Int.mul_assoc, Int.mul_comm W k] at t1 t2
    rw [Int.mul_assoc, Int.mul_comm N y] at u1 u2
    rw [show 2 * (2 * N) * E = 4 * (E * N) by rw [Int.mul_assoc, Int.mul_assoc, Int.mul_comm N]; omega] at s1 s2
    constructor
    · rcases ltge (y - X) (-E) with g | g
      · have := Int.mul_le_mul_of_nonneg_right (show y ≤ X - E - 1 by omega) (show 0 ≤ N by omega)
        rw [Int.sub_mul, Int.sub_mul, Int.one_mul] at this; omega
      · exact g
    · rcases ltge E (y - X) with g | g
      · have := Int.mul_le_mul_of_nonneg_right (show X + E + 1 ≤ y by omega) (show 0 ≤ N by omega)
        rw [Int.add_mul, Int.add_mul, Int.one_mul] at this; omega
      · exact g
theorem near_best (lo hi b x s : Int) (hg : GV lo hi b) (x0 : lo ≤ x) (x1 : x ≤ hi) (hs : s = 1 ∨ s = -1) :
    ((qp lo hi b (qi lo hi b x) - x).natAbs : Int) - 1 ≤ ((qp lo hi b (qi lo hi b x + s) - x).natAbs : Int) := by
  obtain ⟨h1, h2, h3, h4, h5⟩ := hg
  obtain ⟨g1, g2, -⟩ := gn_bd b h4 h5
  unfold qp qi
  rw [cut_in _ _ _ x0 x1]
  obtain ⟨t1, t2⟩ := nr_spec ((x - lo) * gn b) (hi - lo) (by omega)
  generalize hK : nr ((x - lo) * gn b) (hi - lo) = k at *
  obtain ⟨u1, u2⟩ := nr_spec (k * (hi - lo)) (gn b) (by omega)
  obtain ⟨v1, v2⟩ := nr_spec ((k + s) * (hi - lo)) (gn b) (by omega)
  generalize hY : nr (k * (hi - lo)) (gn b) = y at *
  generalize hZ : nr ((k + s) * (hi - lo)) (gn b) = z at *
  obtain ⟨X, hX⟩ : ∃ X, x - lo = X := ⟨_, rfl⟩
  obtain ⟨W, hW⟩ : ∃ W, hi - lo = W := ⟨_, rfl⟩
  rw [hX, hW] at t1 t2
  rw [hW] at u1 u2 v1 v2
  generalize gn b = N at *
  rw [show lo + y - x = y - X by omega, show lo + z - x = z - X by omega]
  rw [Int.mul_assoc, Int.mul_comm W k] at t1 t2
  rw [Int.mul_assoc, Int.mul_comm N y] at u1 u2
  rw [Int.mul_assoc, Int.mul_comm N z, Int.add_mul] at v1 v2
  have key : ∀ p q : Int, (p = 1 ∨ p = -1) → (q = 1 ∨ q = -1) → 0 ≤ p * (y - X) → 0 ≤ q * (z - X) → p * (y - X) - 1 ≤ q * (z - X) := by
    intro p q hp hq h6 h7
    rcases ltge (q * (z - X)) (p * (y - X) - 1) with g | g
    · exfalso
      have m1 := Int.mul_le_mul_of_nonneg_right (show q * (z - X) + 2 ≤ p * (y - X) by omega) (show 0 ≤ N by omega)
      have m2 := Int.mul_nonneg h7 (show 0 ≤ N by omega)
      rcases hp with rfl | rfl <;> rcases hq with rfl | rfl <;> rcases hs with rfl | rfl <;>
      · simp only [Int.one_mul, Int.neg_mul, Int.add_mul, Int.sub_mul] at m1 m2 v1 v2
        omega
    · exact g
  rcases (by omega : 0 ≤ y - X ∨ 0 ≤ -(y - X)) with a | a <;> rcases (by omega : 0 ≤ z - X ∨ 0 ≤ -(z - X)) with c | c
  · have := key 1 1 (.inl rfl) (.inl rfl) (by omega) (by omega); omega
  · have := key 1 (-1) (.inl rfl) (.inr rfl) (by omega) (by omega); omega
  · have := key (-1) 1 (.inr rfl) (.inl rfl) (by omega) (by omega); omega
  · have := key (-1) (-1) (.inr rfl) (.inr rfl) (by omega) (by omega); omega
theorem qe_half (lo hi b : Int) (hg : GV lo hi b) : qe lo hi b ≤ (hi - lo) / 2 + 1 := by
  obtain ⟨h1, h2, h3, h4, h5⟩ := hg
  obtain ⟨g1, g2, -⟩ := gn_bd b h4 h5
  unfold qe
  split
  · omega
  · obtain ⟨s1, s2⟩ := nr_spec ((hi - lo) * 1) (2 * gn b) (by omega)
    generalize hE : nr ((hi - lo) * 1) (2 * gn b) = E at *
    generalize gn b = N at *
    rw [show 2 * (2 * N) * E = 4 * (E * N) by rw [Int.mul_assoc, Int.mul_assoc, Int.mul_comm N]; omega] at s1 s2
    rcases ltge ((hi - lo) / 2 + 1) E with g | g
    · have m := Int.mul_le_mul_of_nonneg_left (show 1 ≤ N by omega) (show 0 ≤ 2 * E - 1 by omega)
      rw [Int.mul_one, Int.sub_mul, Int.one_mul, Int.mul_assoc] at m
      omega
    · exact g
end Go.Proofs.YtghfggfgndgkjaaGreatDoor
