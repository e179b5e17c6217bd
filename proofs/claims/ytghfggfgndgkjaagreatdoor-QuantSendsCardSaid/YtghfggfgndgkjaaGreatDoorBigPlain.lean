/- Plain laws of a division by a word: the reciprocal (divWW) and a digit of a quotient (bits.Div64). -/
set_option linter.unusedVariables false
namespace Go.Proofs.YtghfggfgndgkjaaGreatDoor
/-- the reciprocal of a divisor with its top bit set -/
def rcp (B d : Nat) : Nat := (B * B - 1) / d - B
theorem sub_mul1 {B d : Nat} (h : d < B) : B * d + B ≤ B * B := by
  have : B * d + B = B * (d + 1) := by rw [Nat.mul_add, Nat.mul_one]
  rw [this]
  exact Nat.mul_le_mul_left _ h
theorem rcp_spec {B d : Nat} (h0 : B ≤ 2 * d) (h1 : d < B) : d * (rcp B d + B) ≤ B * B - 1 ∧ B * B ≤ d * (rcp B d + B) + d ∧ rcp B d < B := by
  have hd : 0 < d := by omega
  have hs := sub_mul1 h1
  have hk : B ≤ (B * B - 1) / d := by
    rw [Nat.le_div_iff_mul_le hd]
    omega
  have hr : rcp B d + B = (B * B - 1) / d := by unfold rcp; omega
  have hdm := Nat.div_add_mod (B * B - 1) d
  have hml := Nat.mod_lt (B * B - 1) hd
  rw [hr]
  refine ⟨by omega, by omega, ?_⟩
  have : (B * B - 1) / d < 2 * B := by
    rw [Nat.div_lt_iff_lt_mul hd]
    have h2 : B * B ≤ 2 * B * d := by
      have : 2 * B * d = B * (2 * d) := by rw [Nat.mul_comm 2 B, Nat.mul_assoc]
      rw [this]
      exact Nat.mul_le_mul_left _ h0
    have h3 : 0 < B * B := Nat.mul_pos (by omega) (by omega)
    omega
  unfold rcp
  omega
/-- the quotient that is tried first -/
def qtry (B d x1 x0 : Nat) : Nat := (x1 * rcp B d + x1 * B + x0) / B
theorem try_spec {B d x1 x0 : Nat} (h0 : B ≤ 2 * d) (h1 : d < B) (hx1 : x1 < d) (hx0 : x0 < B) :
    d * qtry B d x1 x0 ≤ x1 * B + x0 ∧ x1 * B + x0 < d * qtry B d x1 x0 + B + d := by
  obtain ⟨ha, hb, hc⟩ := rcp_spec h0 h1
  obtain ⟨m, hm⟩ : ∃ m, rcp B d = m := ⟨_, rfl⟩
  unfold qtry
  rw [hm] at ha hb hc ⊢
  obtain ⟨A, hA⟩ : ∃ A, x1 * m + x1 * B + x0 = A := ⟨_, rfl⟩
  rw [hA]
  have hB : 0 < B := by omega
  have hq := Nat.div_add_mod A B
  have hq2 := Nat.mod_lt A hB
  obtain ⟨q, hqe⟩ : ∃ q, A / B = q := ⟨_, rfl⟩
  obtain ⟨r, hre⟩ : ∃ r, A % B = r := ⟨_, rfl⟩
  rw [hqe, hre] at hq
  rw [hre] at hq2
  rw [hqe]
  obtain ⟨f, hf⟩ : ∃ f, B = d + f := ⟨B - d, by omega⟩
  -- d * A in two ways
  have e1 : d * A = x1 * (d * (m + B)) + d * x0 := by
    rw [← hA, Nat.mul_add, ← Nat.mul_add x1 m B, Nat.mul_left_comm]
  have e2 : x1 * (d * (m + B)) ≤ x1 * (B * B) := Nat.mul_le_mul_left _ (by omega)
  have e3 : x1 * (B * B) ≤ x1 * (d * (m + B)) + x1 * d := by
    rw [← Nat.mul_add]
    exact Nat.mul_le_mul_left _ hb
  have e4 : d * A = (d * q) * B + d * r := by rw [← hq, Nat.mul_add, Nat.mul_comm B q, Nat.mul_assoc]
  have e6 : B * x0 = d * x0 + f * x0 := by rw [hf, Nat.add_mul]
  have e7 : d * r + d ≤ d * B := by
    have : d * r + d = d * (r + 1) := by rw [Nat.mul_add, Nat.mul_one]
    rw [this]; exact Nat.mul_le_mul_left _ hq2
  have e8 : x1 * d + d ≤ d * d := by
    have : x1 * d + d = (x1 + 1) * d := by rw [Nat.add_mul, Nat.one_mul]
    rw [this]; exact Nat.mul_le_mul_right _ hx1
  have e11 : f * x0 + f ≤ f * B := by
    have : f * x0 + f = f * (x0 + 1) := by rw [Nat.mul_add, Nat.mul_one]
    rw [this]; exact Nat.mul_le_mul_left _ hx0
  have e12 : B * B = d * B + f * B := by
    rw [← Nat.add_mul, ← hf]
  have e13 : d * B = d * d + d * f := by
    have : d * B = d * (d + f) := congrArg (d * ·) hf
    rw [this, Nat.mul_add]
  have e14 : (x1 * B + x0) * B = x1 * (B * B) + B * x0 := by rw [Nat.add_mul, Nat.mul_assoc, Nat.mul_comm x0 B]
  constructor
  · apply Nat.le_of_mul_le_mul_right _ hB
    rw [e14]
    omega
  · apply Nat.lt_of_mul_lt_mul_right (a := B)
    rw [e14, Nat.add_mul, Nat.add_mul]
    omega
/-- what is done with the quotient that is tried first -/
theorem fix_spec {B d X q r1 r0 : Nat} (h0 : B ≤ 2 * d) (h1 : d < B) (hl : d * q ≤ X) (hu : X < d * q + B + d) (hr : X - d * q = r1 * B + r0) (hr0 : r0 < B) :
    (r1 = 0 ∨ r1 = 1) ∧ (r1 = 1 → r0 < d ∧ X / d = (if d ≤ r0 + B - d then q + 2 else q + 1) ∧ X % d = (if d ≤ r0 + B - d then r0 + B - d - d else r0 + B - d) ∧ r0 + B - d < B) ∧ (r1 = 0 → X / d = (if d ≤ r0 then q + 1 else q) ∧ X % d = (if d ≤ r0 then r0 - d else r0)) := by
  have hd : 0 < d := by omega
  have key : ∀ k t : Nat, X = d * k + t → t < d → X / d = k ∧ X % d = t := fun k t h ht => by
    rw [h, Nat.mul_add_div hd, Nat.mul_add_mod, Nat.div_eq_of_lt ht, Nat.mod_eq_of_lt ht]
    exact ⟨rfl, rfl⟩
  have m1 : d * (q + 1) = d * q + d := by rw [Nat.mul_add, Nat.mul_one]
  have m2 : d * (q + 2) = d * q + d + d := by rw [Nat.mul_add]; omega
  have h01 : r1 = 0 ∨ r1 = 1 := by
    rcases Nat.lt_or_ge r1 2 with h | h
    · omega
    · have : 2 * B ≤ r1 * B := Nat.mul_le_mul_right _ h
      omega
  refine ⟨h01, ?_, ?_⟩
  · rintro rfl
    rw [Nat.one_mul] at hr
    refine ⟨by omega, ?_⟩
    split
    · obtain ⟨a, b⟩ := key (q + 2) (r0 + B - d - d) (by omega) (by omega)
      exact ⟨a, b, by omega⟩
    · obtain ⟨a, b⟩ := key (q + 1) (r0 + B - d) (by omega) (by omega)
      exact ⟨a, b, by omega⟩
  · rintro rfl
    rw [Nat.zero_mul, Nat.zero_add] at hr
    split
    · exact key (q + 1) (r0 - d) (by omega) (by omega)
    · exact key q r0 (by omega) (by omega)
/-- one digit of a quotient: the trial digit q, with what is left of the high part -/
structure Kn (T y1 y0 u n q r : Nat) : Prop where
  yt : 0 < y1
  lo : y0 < T
  ul : u < y1 * T + y0
  nl : n < T
  ur : u = q * y1 + r
theorem Kn.le {T y1 y0 u n q r : Nat} (h : Kn T y1 y0 u n q r) : q * (y1 * T + y0) ≤ u * T + n ↔ q * y0 ≤ T * r + n := by
  have e1 : q * (y1 * T + y0) = q * y1 * T + q * y0 := by rw [Nat.mul_add, Nat.mul_assoc]
  have e2 : u * T = q * y1 * T + T * r := by rw [h.ur, Nat.add_mul, Nat.mul_comm r T]
  rw [e1, e2]
  omega
theorem Kn.big {T y1 y0 u n q r : Nat} (h : Kn T y1 y0 u n q r) (hq : T ≤ q) : u * T + n < q * (y1 * T + y0) := by
  have e1 : T * (y1 * T + y0) ≤ q * (y1 * T + y0) := Nat.mul_le_mul_right _ hq
  have e2 : (u + 1) * T ≤ (y1 * T + y0) * T := Nat.mul_le_mul_right _ h.ul
  rw [Nat.add_mul, Nat.one_mul, Nat.mul_comm (y1 * T + y0) T] at e2
  have := h.nl
  omega
theorem Kn.more {T y1 y0 u n q r : Nat} (h : Kn T y1 y0 u n q r) (hq : T ≤ q ∨ T * r + n < q * y0) : u * T + n < q * (y1 * T + y0) := by
  rcases hq with hq | hq
  · exact h.big hq
  · rcases Nat.lt_or_ge (u * T + n) (q * (y1 * T + y0)) with g | g
    · exact g
    · have := h.le.1 g
      omega
theorem Kn.step {T y1 y0 u n q r : Nat} (h : Kn T y1 y0 u n q r) (hq : u * T + n < q * (y1 * T + y0)) : 0 < q ∧ Kn T y1 y0 u n (q - 1) (r + y1) := by
  have hq0 : 0 < q := by
    rcases Nat.eq_zero_or_pos q with g | g
    · rw [g, Nat.zero_mul] at hq; omega
    · exact g
  obtain ⟨k, rfl⟩ : ∃ k, q = k + 1 := ⟨q - 1, by omega⟩
  refine ⟨hq0, h.yt, h.lo, h.ul, h.nl, ?_⟩
  rw [h.ur, Nat.add_sub_cancel, Nat.add_mul, Nat.one_mul]
  omega
theorem Kn.keep {T y1 y0 u n q r : Nat} (h : Kn T y1 y0 u n q r) (hq : u * T + n < q * (y1 * T + y0)) : (u * T + n) / (y1 * T + y0) ≤ q - 1 := by
  have hy : 0 < y1 * T + y0 := by
    have := h.ul
    omega
  have := (Nat.div_lt_iff_lt_mul hy).2 hq
  omega
theorem Kn.wide {T y1 y0 u n q r : Nat} (h : Kn T y1 y0 u n q r) (hr : T ≤ r) : q < T ∧ q * y0 ≤ T * r + n := by
  have hq : q < T := by
    rcases Nat.lt_or_ge q T with g | g
    · exact g
    · have e1 : T * y1 ≤ q * y1 := Nat.mul_le_mul_right _ g
      have := h.ul
      have := h.ur
      have := h.lo
      rw [Nat.mul_comm y1 T] at *
      omega
  refine ⟨hq, ?_⟩
  have e1 : q * y0 ≤ T * y0 := Nat.mul_le_mul_right _ (by omega)
  have e2 : T * y0 ≤ T * r := Nat.mul_le_mul_left _ (by have := h.lo; omega)
  omega
theorem Kn.done {T y1 y0 u n q r : Nat} (h : Kn T y1 y0 u n q r) (hk : (u * T + n) / (y1 * T + y0) ≤ q) (hq : q * y0 ≤ T * r + n) : q = (u * T + n) / (y1 * T + y0) := by
  have hy : 0 < y1 * T + y0 := by have := h.ul; omega
  have := (Nat.le_div_iff_mul_le hy).2 (h.le.2 hq)
  omega
theorem Kn.start {T y1 y0 u n : Nat} (hy : 0 < y1) (h0 : y0 < T) (hT : T ≤ 2 * y1) (hu : u < y1 * T + y0) (hn : n < T) : Kn T y1 y0 u n (u / y1) (u % y1) ∧ (u * T + n) / (y1 * T + y0) ≤ u / y1 := by
  have hk : Kn T y1 y0 u n (u / y1) (u % y1) := ⟨hy, h0, hu, hn, by rw [Nat.mul_comm]; exact (Nat.div_add_mod u y1).symm⟩
  refine ⟨hk, ?_⟩
  have hyp : 0 < y1 * T + y0 := by omega
  have : (u * T + n) / (y1 * T + y0) < u / y1 + 1 := by
    rw [Nat.div_lt_iff_lt_mul hyp, Nat.add_mul, Nat.one_mul]
    have e1 : u + 1 ≤ (u / y1 + 1) * y1 := by
      have := Nat.div_add_mod u y1
      have := Nat.mod_lt u hy
      rw [Nat.add_mul, Nat.one_mul, Nat.mul_comm]
      omega
    have e2 : (u + 1) * T ≤ (u / y1 + 1) * y1 * T := Nat.mul_le_mul_right _ e1
    rw [Nat.add_mul, Nat.one_mul] at e2
    have e3 : (u / y1 + 1) * (y1 * T + y0) = (u / y1 + 1) * y1 * T + (u / y1 + 1) * y0 := by rw [Nat.mul_add, Nat.mul_assoc]
    rw [Nat.add_mul, Nat.one_mul] at e3
    omega
  omega
/-- a digit and the next one -/
theorem two_digits {T y H L0 L1 : Nat} (hy : 0 < y) (hT : 0 < T) (h0 : L0 < T) : (H * T * T + L1 * T + L0) / y = (H * T + L1) / y * T + (((H * T + L1) % y) * T + L0) / y ∧ (H * T * T + L1 * T + L0) % y = (((H * T + L1) % y) * T + L0) % y := by
  have hd := Nat.div_add_mod (H * T + L1) y
  obtain ⟨q, hq⟩ : ∃ q, (H * T + L1) / y = q := ⟨_, rfl⟩
  obtain ⟨r, hr⟩ : ∃ r, (H * T + L1) % y = r := ⟨_, rfl⟩
  rw [hq, hr] at hd
  rw [hq, hr]
  have e : H * T * T + L1 * T + L0 = y * (q * T) + (r * T + L0) := by
    rw [← Nat.add_mul, ← hd, Nat.add_mul, Nat.mul_assoc, Nat.add_assoc]
  rw [e, Nat.mul_add_div hy, Nat.mul_add_mod]
  exact ⟨rfl, rfl⟩
/-- a difference of two numbers of two words -/
theorem sub_words {B X1 X0 D1 D0 : Nat} (hX : X0 < B) (hD : D0 < B) (hX1 : X1 < B) (hD1 : D1 < B) (h : D1 * B + D0 ≤ X1 * B + X0) :
    X1 * B + X0 - (D1 * B + D0) = (X1 + B - D1 - (if X0 < D0 then 1 else 0)) % B * B + (X0 + B - D0) % B := by
  by_cases hc : X0 < D0
  · rw [if_pos hc]
    have h2 : D1 < X1 := by
      rcases Nat.lt_or_ge D1 X1 with g | g
      · exact g
      · have : X1 * B ≤ D1 * B := Nat.mul_le_mul_right _ g
        omega
    have e1 : (X0 + B - D0) % B = X0 + B - D0 := Nat.mod_eq_of_lt (by omega)
    have e2 : (X1 + B - D1 - 1) % B = X1 - D1 - 1 := by
      have : X1 + B - D1 - 1 = (X1 - D1 - 1) + B := by omega
      rw [this, Nat.add_mod_right, Nat.mod_eq_of_lt (by omega)]
    rw [e1, e2]
    obtain ⟨c, rfl⟩ : ∃ c, X1 = D1 + 1 + c := ⟨X1 - D1 - 1, by omega⟩
    have : D1 + 1 + c - D1 - 1 = c := by omega
    rw [this, Nat.add_mul, Nat.add_mul, Nat.one_mul]
    omega
  · rw [if_neg hc]
    have h2 : D1 ≤ X1 := by
      rcases Nat.lt_or_ge X1 D1 with g | g
      · have : (X1 + 1) * B ≤ D1 * B := Nat.mul_le_mul_right _ g
        rw [Nat.add_mul, Nat.one_mul] at this
        omega
      · exact g
    have e1 : (X0 + B - D0) % B = X0 - D0 := by
      have : X0 + B - D0 = (X0 - D0) + B := by omega
      rw [this, Nat.add_mod_right, Nat.mod_eq_of_lt (by omega)]
    have e2 : (X1 + B - D1 - 0) % B = X1 - D1 := by
      have : X1 + B - D1 - 0 = (X1 - D1) + B := by omega
      rw [this, Nat.add_mod_right, Nat.mod_eq_of_lt (by omega)]
    rw [e1, e2]
    obtain ⟨c, rfl⟩ : ∃ c, X1 = D1 + c := ⟨X1 - D1, by omega⟩
    have : D1 + c - D1 = c := by omega
    rw [this, Nat.add_mul]
    omega
/-- the words that divWW makes, one by one -/
theorem ww_words {B d X1 X0 : Nat} (h0 : B ≤ 2 * d) (h1 : d < B) (hx1 : X1 < d) (hx0 : X0 < B) :
    (rcp B d * X1 / B + X1 + (rcp B d * X1 % B + X0 + 0) / B) % B = qtry B d X1 X0 ∧ qtry B d X1 X0 < B ∧
    X1 * B + X0 - d * qtry B d X1 X0 = (X1 + B - d * qtry B d X1 X0 / B - (if X0 < d * qtry B d X1 X0 % B + 0 then 1 else 0)) % B * B + (X0 + B - d * qtry B d X1 X0 % B - 0) % B := by
  have hB : 0 < B := by omega
  obtain ⟨t1, t2⟩ := try_spec h0 h1 hx1 hx0
  have hq : qtry B d X1 X0 = rcp B d * X1 / B + X1 + (rcp B d * X1 % B + X0 + 0) / B := by
    unfold qtry
    have e : X1 * rcp B d + X1 * B + X0 = (rcp B d * X1 % B + X0 + 0) + B * (rcp B d * X1 / B + X1) := by
      have := Nat.div_add_mod (rcp B d * X1) B
      rw [Nat.mul_comm X1 (rcp B d), Nat.mul_add, Nat.mul_comm X1 B]
      omega
    rw [e, Nat.add_mul_div_left _ _ hB]
    omega
  have hqB : qtry B d X1 X0 < B := by
    rcases Nat.lt_or_ge (qtry B d X1 X0) B with g | g
    · exact g
    · have a : d * B ≤ d * qtry B d X1 X0 := Nat.mul_le_mul_left _ g
      have b : (X1 + 1) * B ≤ d * B := Nat.mul_le_mul_right _ hx1
      rw [Nat.add_mul, Nat.one_mul] at b
      omega
  refine ⟨by rw [← hq]; exact Nat.mod_eq_of_lt hqB, hqB, ?_⟩
  obtain ⟨q, hqe⟩ : ∃ q, qtry B d X1 X0 = q := ⟨_, rfl⟩
  rw [hqe] at t1 t2 hqB ⊢
  have hd := Nat.div_add_mod (d * q) B
  have hm := Nat.mod_lt (d * q) hB
  have hd1 : d * q / B < B := by
    rw [Nat.div_lt_iff_lt_mul hB]
    have : d * q ≤ d * B := Nat.mul_le_mul_left _ (by omega)
    have : d * B < B * B := Nat.mul_lt_mul_of_pos_right h1 hB
    omega
  have hs := sub_words (B := B) (X1 := X1) (X0 := X0) (D1 := d * q / B) (D0 := d * q % B) hx0 hm (by omega) hd1 (by rw [Nat.mul_comm (d * q / B) B, hd]; exact t1)
  rw [Nat.mul_comm (d * q / B) B, hd] at hs
  rw [Nat.add_zero, Nat.sub_zero]
  exact hs
/-- .. and back behind the shift -/
theorem unshift {A y S : Nat} (hS : 0 < S) : A * S / (y * S) = A / y ∧ A * S % (y * S) / S = A % y := by
  constructor
  · exact Nat.mul_div_mul_right _ _ hS
  · rw [Nat.mul_mod_mul_right, Nat.mul_div_cancel _ hS]
end Go.Proofs.YtghfggfgndgkjaaGreatDoor
