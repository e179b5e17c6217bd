/- Plain laws of points: steps towards a point, sides of lines, products. No program in sight. -/
import Derived.Test.YtolifgjkejhlhaaWide4
set_option linter.unusedVariables false
set_option linter.unusedSimpArgs false
namespace Go.Proofs.Ytolifgjkejhlhaa

/-- the greater magnitude -/
def vfar (x y : Int) : Int := max (x.natAbs : Int) (y.natAbs : Int)
theorem vfar_bd (x y : Int) : (x.natAbs : Int) ≤ vfar x y ∧ (y.natAbs : Int) ≤ vfar x y ∧ 0 ≤ vfar x y ∧ (vfar x y = (x.natAbs : Int) ∨ vfar x y = (y.natAbs : Int)) := by unfold vfar; omega
theorem tq_neg_l (x y : Int) : tq (-x) y = -(tq x y) := by
  unfold tq
  by_cases h : x = 0
  · subst h; simp
  · by_cases h1 : x < 0 <;> by_cases h2 : y < 0
    · rw [if_neg (by omega), if_pos (by omega), Int.natAbs_neg]
    · rw [if_pos (by omega), if_neg (by omega), Int.natAbs_neg]; omega
    · rw [if_pos (by omega), if_neg (by omega), Int.natAbs_neg]; omega
    · rw [if_neg (by omega), if_pos (by omega), Int.natAbs_neg]
theorem tq_neg_r (x y : Int) : tq x (-y) = -(tq x y) := by
  unfold tq
  by_cases h : y = 0
  · subst h; simp
  · by_cases h1 : x < 0 <;> by_cases h2 : y < 0
    · rw [if_neg (by omega), if_pos (by omega), Int.natAbs_neg]
    · rw [if_pos (by omega), if_neg (by omega), Int.natAbs_neg]; omega
    · rw [if_pos (by omega), if_neg (by omega), Int.natAbs_neg]; omega
    · rw [if_neg (by omega), if_pos (by omega), Int.natAbs_neg]
theorem tq_pos (x y : Int) (hx : 0 ≤ x) (hy : 0 < y) : tq x y = x / y := by
  unfold tq; rw [if_pos (by omega), show (x.natAbs : Int) = x by omega, show (y.natAbs : Int) = y by omega]
theorem tq_zero (y : Int) : tq 0 y = 0 := by unfold tq; simp
theorem tq_mul (x y : Int) (hy : y ≠ 0) : tq (x * y) y = x := by
  have key : ∀ a b : Int, 0 ≤ a → 0 < b → tq (a * b) b = a := fun a b ha hb => by rw [tq_pos _ _ (Int.mul_nonneg ha (by omega)) hb, Int.mul_ediv_cancel _ (by omega)]
  rcases (by omega : 0 ≤ x ∨ 0 ≤ -x) with h1 | h1 <;> rcases (by omega : 0 < y ∨ 0 < -y) with h2 | h2
  · exact key x y h1 h2
  · have := key x (-y) h1 h2; rw [Int.mul_neg, tq_neg_l, tq_neg_r] at this; omega
  · have := key (-x) y h1 h2; rw [Int.neg_mul, tq_neg_l] at this; omega
  · have := key (-x) (-y) h1 h2; rw [Int.neg_mul_neg, tq_neg_r] at this; omega
theorem tq_one (x : Int) : tq x 1 = x := by have := tq_mul x 1 (by decide); rwa [Int.mul_one] at this
/-- one coordinate of a step of the length m on a way whose greater coordinate is f -/
def wst (x f m : Int) : Int := if m ≤ 0 then 0 else if f ≤ m then x else tq (x * m) f
theorem wst_neg (x f m : Int) : wst (-x) f m = -(wst x f m) := by
  unfold wst; split
  · rfl
  · split
    · rfl
    · rw [Int.neg_mul, tq_neg_l]
theorem wst_zero (f m : Int) : wst 0 f m = 0 := by
  unfold wst; split
  · rfl
  · split
    · rfl
    · rw [Int.zero_mul, tq_zero]
/-- a part of a way: p of q -/
theorem part_pos (x f m : Int) (h0 : 0 ≤ x) (h1 : x ≤ f) (h2 : 0 ≤ m) (h3 : m < f) : 0 ≤ tq (x * m) f ∧ tq (x * m) f ≤ x ∧ tq (x * m) f ≤ m ∧ x - tq (x * m) f ≤ f - m ∧ (x = f → tq (x * m) f = m) ∧ (0 ≤ x * m - tq (x * m) f * f ∧ x * m - tq (x * m) f * f < f) := by
  rw [tq_pos _ _ (Int.mul_nonneg h0 h2) (by omega)]
  have e1 := Int.mul_ediv_add_emod (x * m) f
  have e2 := Int.emod_nonneg (x * m) (show f ≠ 0 by omega)
  have e3 := Int.emod_lt_of_pos (x * m) (show 0 < f by omega)
  generalize x * m % f = r at *
  have hq : 0 ≤ x * m / f := Int.ediv_nonneg (Int.mul_nonneg h0 h2) (by omega)
  generalize x * m / f = q at *
  have c : f * q = q * f := Int.mul_comm _ _
  have cc : ∀ a b : Int, a * f ≤ b * f → a ≤ b := fun a b h => Int.le_of_mul_le_mul_right h (by omega)
  have m1 := Int.mul_le_mul_of_nonneg_left (show m ≤ f by omega) h0
  have m2 := Int.mul_le_mul_of_nonneg_right h1 h2
  have m3 := Int.mul_nonneg (show 0 ≤ f - x by omega) (show 0 ≤ f - m by omega)
  rw [Int.sub_mul, Int.mul_sub, Int.mul_sub] at m3
  have c2 : f * m = m * f := Int.mul_comm _ _
  refine ⟨hq, cc _ _ (by omega), cc _ _ (by omega), ?_, ?_, by omega, by omega⟩
  · rcases (by omega : x - q ≤ f - m ∨ f - m + 1 ≤ x - q) with g | g
    · exact g
    · have := Int.mul_le_mul_of_nonneg_right g (show 0 ≤ f by omega)
      rw [Int.add_mul, Int.sub_mul, Int.sub_mul, Int.one_mul] at this
      omega
  · intro h; subst h
    have h5 : q * x ≤ m * x := by omega
    have h6 : (m - 1) * x < q * x := by rw [Int.sub_mul, Int.one_mul]; omega
    have a := Int.le_of_mul_le_mul_right h5 (by omega)
    have b := Int.lt_of_mul_lt_mul_right h6 (by omega)
    omega
theorem wst_pos (x f m : Int) (h0 : 0 ≤ x) (h1 : x ≤ f) : 0 ≤ wst x f m ∧ wst x f m ≤ x ∧ wst x f m ≤ max m 0 ∧ x - wst x f m ≤ max (f - max m 0) 0 ∧ (x = f → wst x f m = min f (max m 0)) := by
  unfold wst
  split
  · omega
  · split
    · omega
    · have := part_pos x f m h0 h1 (by omega) (by omega)
      omega
/-- what a step does to a coordinate -/
theorem wst_any (x f m : Int) (h1 : (x.natAbs : Int) ≤ f) : (0 ≤ x → 0 ≤ wst x f m ∧ wst x f m ≤ x) ∧ (x ≤ 0 → x ≤ wst x f m ∧ wst x f m ≤ 0) ∧ ((wst x f m).natAbs : Int) ≤ max m 0 ∧ ((x - wst x f m).natAbs : Int) ≤ max (f - max m 0) 0 ∧
    ((x.natAbs : Int) = f → ((wst x f m).natAbs : Int) = min f (max m 0) ∧ ((x - wst x f m).natAbs : Int) = max (f - max m 0) 0) := by
  rcases (by omega : 0 ≤ x ∨ 0 ≤ -x) with h | h
  · have := wst_pos x f m h (by omega)
    omega
  · have := wst_pos (-x) f m h (by omega)
    rw [wst_neg] at this
    omega
theorem vfar_step (x y m : Int) : vfar (x - wst x (vfar x y) m) (y - wst y (vfar x y) m) = max (vfar x y - max m 0) 0 ∧ vfar (wst x (vfar x y) m) (wst y (vfar x y) m) = min (vfar x y) (max m 0) := by
  obtain ⟨h1, h2, h3, h4⟩ := vfar_bd x y
  have a := wst_any x (vfar x y) m h1
  have b := wst_any y (vfar x y) m h2
  generalize vfar x y = f at *
  generalize wst x f m = p at *
  generalize wst y f m = q at *
  unfold vfar
  rcases h4 with h4 | h4
  · have := a.2.2.2.2 (by omega); omega
  · have := b.2.2.2.2 (by omega); omega
/-- on which side a product of ways lies -/
def sgz (z : Int) : Int := if z = 0 then 0 else if 0 < z then 1 else -1
def vside (ax ay bx b' px py : Int) : Int := sgz ((bx - ax) * (py - ay) - (b' - ay) * (px - ax))
theorem sgz_bd (z : Int) : -1 ≤ sgz z ∧ sgz z ≤ 1 := by unfold sgz; omega
theorem sgz_neg (z : Int) : sgz (-z) = -(sgz z) := by unfold sgz; omega
theorem vside_turn (ax ay bx b' px py : Int) : vside px py ax ay bx b' = vside ax ay bx b' px py ∧ vside bx b' px py ax ay = vside ax ay bx b' px py := by
  unfold vside
  constructor <;> congr 1 <;> grind
theorem vside_swap (ax ay bx b' px py : Int) : vside bx b' ax ay px py = -(vside ax ay bx b' px py) ∧ vside ax ay px py bx b' = -(vside ax ay bx b' px py) := by
  unfold vside
  constructor <;> rw [← sgz_neg] <;> congr 1 <;> grind
theorem vside_move (ax ay bx b' px py mx my : Int) : vside (ax + mx) (ay + my) (bx + mx) (b' + my) (px + mx) (py + my) = vside ax ay bx b' px py := by
  unfold vside; congr 1; grind
theorem vside_mirror (ax ay bx b' px py : Int) : vside (-ax) ay (-bx) b' (-px) py = -(vside ax ay bx b' px py) := by
  unfold vside; rw [← sgz_neg]; congr 1; grind
theorem vside_same (ax ay bx b' : Int) : vside ax ay ax ay bx b' = 0 ∧ vside ax ay bx b' ax ay = 0 := by
  unfold vside; constructor <;> (rw [show ∀ z : Int, sgz z = if z = 0 then 0 else if 0 < z then 1 else -1 from fun _ => rfl, if_pos (by grind)])
theorem vside_line (ax ay bx b' k : Int) : vside ax ay bx b' (ax + k * (bx - ax)) (ay + k * (b' - ay)) = 0 := by
  unfold vside sgz; rw [if_pos (by grind)]
theorem vside_left (ax ay bx b' k : Int) (h : ax ≠ bx ∨ ay ≠ b') : vside ax ay bx b' (ax + k * (bx - ax) - (b' - ay)) (ay + k * (b' - ay) + (bx - ax)) = 1 := by
  unfold vside
  rw [show (bx - ax) * (ay + k * (b' - ay) + (bx - ax) - ay) - (b' - ay) * (ax + k * (bx - ax) - (b' - ay) - ax) = (bx - ax) * (bx - ax) + (b' - ay) * (b' - ay) by grind]
  have sq : ∀ z : Int, 0 ≤ z * z ∧ (z ≠ 0 → 0 < z * z) := fun z => by
    rcases (by omega : z = 0 ∨ 0 < z ∨ 0 < -z) with rfl | h | h
    · simp
    · have := Int.mul_pos h h; omega
    · have := Int.mul_pos h h; rw [Int.neg_mul_neg] at this; omega
  have a := sq (bx - ax)
  have b := sq (b' - ay)
  unfold sgz; rw [if_neg (by omega), if_pos (by omega)]
theorem vprods (a b c d : Int) : (a * c + b * d) * (a * c + b * d) + (a * d - b * c) * (a * d - b * c) = (a * a + b * b) * (c * c + d * d) := by grind
end Go.Proofs.Ytolifgjkejhlhaa
