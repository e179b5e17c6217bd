/- Plain arithmetic of words, the long division and the root bit by bit. No program in sight. -/
set_option linter.unusedVariables false
set_option linter.unusedSimpArgs false
namespace Go.Proofs.YtghfggfgndgkjaaGreatDoor
theorem foil (x u y v c : Int) : (x * c + u) * (y * c + v) = x * y * (c * c) + (x * v + u * y) * c + u * v := by
  simp only [Int.mul_add, Int.mul_comm, Int.mul_left_comm]; omega
/-- product of two words, by halves -/
theorem times_halves (a b : Int) :
   a * b = (a / 4294967296) * (b / 4294967296) * 18446744073709551616 + ((a / 4294967296) * (b % 4294967296) + (a % 4294967296) * (b / 4294967296)) * 4294967296 + (a % 4294967296) * (b % 4294967296) := by
  have h1 : (a / 4294967296) * 4294967296 + a % 4294967296 = a := by omega
  have h2 : (b / 4294967296) * 4294967296 + b % 4294967296 = b := by omega
  have h := foil (a / 4294967296) (a % 4294967296) (b / 4294967296) (b % 4294967296) 4294967296
  rw [h1, h2] at h
  exact h
theorem mul_bd {x y n m : Int} (hx : 0 ≤ x) (hx' : x ≤ n) (hy : 0 ≤ y) (hy' : y ≤ m) : 0 ≤ x * y ∧ x * y ≤ n * m :=
  ⟨Int.mul_nonneg hx hy, Int.mul_le_mul hx' hy' hy (by omega)⟩

/-- the two words of a product of two words -/
theorem times_parts (a b : Int) (ha : 0 ≤ a) (ha' : a < 18446744073709551616) (hb : 0 ≤ b) (hb' : b < 18446744073709551616) :
   let p1 := (a % 4294967296) * (b % 4294967296)
   let p2 := (a / 4294967296) * (b % 4294967296)
   let p3 := (a % 4294967296) * (b / 4294967296)
   let p4 := (a / 4294967296) * (b / 4294967296)
   let mid := p2 + p1 / 4294967296
   let next := mid % 4294967296 + p3
   p1 < 18446744073709551616 ∧ p4 + mid / 4294967296 + next / 4294967296 ≤ 18446744073709551615 ∧ mid < 18446744073709551616 ∧ next < 18446744073709551616 ∧ 0 ≤ p1 ∧ 0 ≤ mid ∧ 0 ≤ next ∧ 0 ≤ p2 ∧ 0 ≤ p3 ∧ 0 ≤ p4 ∧ p2 < 18446744073709551616 ∧ p3 < 18446744073709551616 ∧ p4 < 18446744073709551616 ∧
   p4 + mid / 4294967296 + next / 4294967296 = a * b / 18446744073709551616 ∧ (next % 4294967296) * 4294967296 + p1 % 4294967296 = a * b % 18446744073709551616 ∧ 0 ≤ a * b / 18446744073709551616 ∧ a * b / 18446744073709551616 < 18446744073709551616 := by
  intro p1 p2 p3 p4 mid next
  have h1 := mul_bd (x := a % 4294967296) (y := b % 4294967296) (n := 4294967295) (m := 4294967295) (by omega) (by omega) (by omega) (by omega)
  have h2 := mul_bd (x := a / 4294967296) (y := b % 4294967296) (n := 4294967295) (m := 4294967295) (by omega) (by omega) (by omega) (by omega)
  have h3 := mul_bd (x := a % 4294967296) (y := b / 4294967296) (n := 4294967295) (m := 4294967295) (by omega) (by omega) (by omega) (by omega)
  have h4 := mul_bd (x := a / 4294967296) (y := b / 4294967296) (n := 4294967295) (m := 4294967295) (by omega) (by omega) (by omega) (by omega)
  have h := times_halves a b
  have e1 : p1 = (a % 4294967296) * (b % 4294967296) := rfl
  have e2 : p2 = (a / 4294967296) * (b % 4294967296) := rfl
  have e3 : p3 = (a % 4294967296) * (b / 4294967296) := rfl
  have e4 : p4 = (a / 4294967296) * (b / 4294967296) := rfl
  have e5 : mid = p2 + p1 / 4294967296 := rfl
  have e6 : next = mid % 4294967296 + p3 := rfl
  rw [← e1] at h1 h
  rw [← e2] at h2 h
  rw [← e3] at h3 h
  rw [← e4] at h4 h
  clear_value p1 p2 p3 p4 mid next
  clear e1 e2 e3 e4
  generalize a * b = ab at *
  refine ⟨?_, ?_, ?_, ?_, ?_, ?_, ?_, ?_, ?_, ?_, ?_, ?_, ?_, ?_, ?_, ?_, ?_⟩ <;> omega

/-- one step of the long division: the words shifted left by one -/
theorem shl128 (h l : Int) (hl : 0 ≤ l) (hl' : l < 18446744073709551616) :
  ((2 * h) % 18446744073709551616 + l / 9223372036854775808) * 18446744073709551616 + (2 * l) % 18446744073709551616 = (2 * (h * 18446744073709551616 + l)) % 340282366920938463463374607431768211456 := by
  omega
/-! long division, bit by bit -/
def DivInv (N d : Int) (k : Nat) (h l oh ol r : Int) : Prop :=
  (0 ≤ h ∧ h < 18446744073709551616) ∧ (0 ≤ l ∧ l < 18446744073709551616) ∧ (0 ≤ oh ∧ oh < 18446744073709551616) ∧ (0 ≤ ol ∧ ol < 18446744073709551616) ∧ 0 ≤ r ∧ r < d ∧
  ((oh * 18446744073709551616 + ol) * d + r) * 340282366920938463463374607431768211456 + (h * 18446744073709551616 + l) = N * 2 ^ k ∧ oh * 18446744073709551616 + ol < 2 ^ k

theorem divInv_start (N d h l : Int) (hh : 0 ≤ h ∧ h < 18446744073709551616) (hl : 0 ≤ l ∧ l < 18446744073709551616) (hd : 1 ≤ d) (hN : N = h * 18446744073709551616 + l) : DivInv N d 0 h l 0 0 0 := by
  refine ⟨hh, hl, ⟨by decide, by decide⟩, ⟨by decide, by decide⟩, by decide, by omega, ?_, ?_⟩
  · simp [hN]
  · decide

theorem pow_le_127 (k : Nat) (hk : k < 128) : (2 : Int) ^ k ≤ 170141183460469231731687303715884105728 := by
  have h : 2 ^ k ≤ 2 ^ 127 := Nat.pow_le_pow_right (by decide) (by omega)
  have h2 : ((2 ^ k : Nat) : Int) ≤ ((2 ^ 127 : Nat) : Int) := by exact_mod_cast h
  simpa using h2

theorem divInv_step (N d : Int) (k : Nat) (h l oh ol r : Int) (hk : k < 128) (hd : d < 18446744073709551616) (H : DivInv N d k h l oh ol r)
    (h' l' oh' ol' r' : Int)
    (e1 : h' = (2 * h) % 18446744073709551616 + l / 9223372036854775808) (e2 : l' = (2 * l) % 18446744073709551616)
    (e3 : oh' = (2 * oh) % 18446744073709551616 + ol / 9223372036854775808)
    (hc : (2 * r + h / 9223372036854775808 < d ∧ ol' = (2 * ol) % 18446744073709551616 ∧ r' = 2 * r + h / 9223372036854775808) ∨ (d ≤ 2 * r + h / 9223372036854775808 ∧ ol' = (2 * ol) % 18446744073709551616 + 1 ∧ r' = 2 * r + h / 9223372036854775808 - d)) :
    DivInv N d (k + 1) h' l' oh' ol' r' := by
  obtain ⟨⟨a1, a2⟩, ⟨b1, b2⟩, ⟨c1, c2⟩, ⟨d1, d2⟩, r1, r2, he, hb⟩ := H
  have hp := pow_le_127 k hk
  have e : N * 2 ^ (k + 1) = 2 * (N * 2 ^ k) := by rw [Int.pow_succ, Int.mul_comm ((2 : Int) ^ k) 2, Int.mul_left_comm]
  have ep : (2 : Int) ^ (k + 1) = 2 * 2 ^ k := by rw [Int.pow_succ, Int.mul_comm]
  rw [DivInv, e, ep]
  generalize N * 2 ^ k = M at *
  generalize (2 : Int) ^ k = p at *
  rcases hc with ⟨g, f1, f2⟩ | ⟨g, f1, f2⟩
  · have hO : oh' * 18446744073709551616 + ol' = 2 * (oh * 18446744073709551616 + ol) := by omega
    have hm : (oh' * 18446744073709551616 + ol') * d = 2 * ((oh * 18446744073709551616 + ol) * d) := by rw [hO, Int.mul_assoc]
    rw [hm]
    generalize (oh * 18446744073709551616 + ol) * d = Q at *
    refine ⟨⟨?_, ?_⟩, ⟨?_, ?_⟩, ⟨?_, ?_⟩, ⟨?_, ?_⟩, ?_, ?_, ?_, ?_⟩ <;> omega
  · have hO : oh' * 18446744073709551616 + ol' = 2 * (oh * 18446744073709551616 + ol) + 1 := by omega
    have hm : (oh' * 18446744073709551616 + ol') * d = 2 * ((oh * 18446744073709551616 + ol) * d) + d := by rw [hO, Int.add_mul, Int.mul_assoc, Int.one_mul]
    rw [hm]
    generalize (oh * 18446744073709551616 + ol) * d = Q at *
    refine ⟨⟨?_, ?_⟩, ⟨?_, ?_⟩, ⟨?_, ?_⟩, ⟨?_, ?_⟩, ?_, ?_, ?_, ?_⟩ <;> omega

theorem divInv_end (N d h l oh ol r : Int) (hd : 1 ≤ d) (H : DivInv N d 128 h l oh ol r) :
    oh * 18446744073709551616 + ol = N / d ∧ r = N % d ∧ oh = N / d / 18446744073709551616 ∧ ol = N / d % 18446744073709551616 := by
  obtain ⟨⟨a1, a2⟩, ⟨b1, b2⟩, ⟨c1, c2⟩, ⟨d1, d2⟩, r1, r2, he, hb⟩ := H
  have e : (2 : Int) ^ 128 = 340282366920938463463374607431768211456 := by decide
  rw [e] at he
  have hN : (oh * 18446744073709551616 + ol) * d + r = N := by
    generalize (oh * 18446744073709551616 + ol) * d = Q at *
    omega
  have h1 : N / d = oh * 18446744073709551616 + ol := by
    rw [← hN, Int.add_comm, Int.add_mul_ediv_right _ _ (by omega), Int.ediv_eq_zero_of_lt r1 r2]; omega
  have h2 : N % d = r := by
    rw [← hN, Int.add_comm, Int.add_mul_emod_self_right, Int.emod_eq_of_lt r1 r2]
  refine ⟨h1.symm, h2.symm, ?_, ?_⟩ <;> omega

/-! the root, bit by bit -/
def RootInv (N : Int) (i : Nat) (r : Int) : Prop := 0 ≤ r ∧ r + 2 ^ (64 - i) ≤ 18446744073709551616 ∧ r % 2 ^ (64 - i) = 0 ∧ r * r ≤ N ∧ N < (r + 2 ^ (64 - i)) * (r + 2 ^ (64 - i))

theorem rootInv_start (N : Int) (h0 : 0 ≤ N) (h1 : N < 340282366920938463463374607431768211456) : RootInv N 0 0 := by
  refine ⟨by decide, by decide, by decide, by omega, ?_⟩
  have : (0 + (2 : Int) ^ (64 - 0)) * (0 + 2 ^ (64 - 0)) = 340282366920938463463374607431768211456 := by decide
  omega

theorem rootInv_step (N : Int) (i : Nat) (r p : Int) (hi : i < 64) (hp : p = 2 ^ (63 - i)) (H : RootInv N i r) :
    (0 ≤ r ∧ 0 < p ∧ p ≤ 9223372036854775808 ∧ r + 2 * p ≤ 18446744073709551616 ∧ r % (2 * p) = 0) ∧ ((r + p) * (r + p) ≤ N → RootInv N (i + 1) (r + p)) ∧ (N < (r + p) * (r + p) → RootInv N (i + 1) r) := by
  obtain ⟨h1, h2, h3, h4, h5⟩ := H
  have e1 : (2 : Int) ^ (64 - i) = 2 * p := by
    rw [hp, show 64 - i = (63 - i) + 1 by omega, Int.pow_succ, Int.mul_comm]
  have e2 : (2 : Int) ^ (64 - (i + 1)) = p := by rw [hp, show 64 - (i + 1) = 63 - i by omega]
  have hpp : 0 < p := by rw [hp]; exact Int.pow_pos (by decide)
  rw [e1] at h2 h3 h5
  obtain ⟨q, hq⟩ : ∃ q, r = 2 * p * q := ⟨r / (2 * p), by have := Int.mul_ediv_add_emod r (2 * p); omega⟩
  refine ⟨⟨h1, hpp, by omega, h2, h3⟩, fun hle => ?_, fun hlt => ?_⟩
  · refine ⟨by omega, by rw [e2]; omega, ?_, hle, ?_⟩
    · rw [e2, hq]
      have : 2 * p * q + p = p * (2 * q + 1) := by rw [Int.mul_add, Int.mul_one, Int.mul_comm 2 p, Int.mul_assoc]
      rw [this]; exact Int.mul_emod_right _ _
    · rw [e2]; have : r + p + p = r + 2 * p := by omega
      rw [this]; exact h5
  · refine ⟨h1, by rw [e2]; omega, ?_, h4, ?_⟩
    · rw [e2, hq]
      have : 2 * p * q = p * (2 * q) := by rw [Int.mul_comm 2 p, Int.mul_assoc]
      rw [this]; exact Int.mul_emod_right _ _
    · rw [e2]; exact hlt

/-- the root, rounded down -/
def isq : Nat → Nat
  | 0 => 0
  | n + 1 => if (isq n + 1) * (isq n + 1) ≤ n + 1 then isq n + 1 else isq n
theorem isq_spec (n : Nat) : isq n * isq n ≤ n ∧ n < (isq n + 1) * (isq n + 1) := by
  induction n with
  | zero => exact ⟨Nat.le_refl _, by decide⟩
  | succ n ih =>
    rw [isq]
    split
    · rename_i h
      refine ⟨h, ?_⟩
      have h1 := ih.2
      have h2 : (isq n + 1) * (isq n + 1) ≤ (isq n + 1) * (isq n + 1 + 1) := Nat.mul_le_mul_left _ (by omega)
      have h3 : (isq n + 1 + 1) * (isq n + 1 + 1) = (isq n + 1) * (isq n + 1 + 1) + (isq n + 1 + 1) := by rw [Nat.add_mul (isq n + 1) 1, Nat.one_mul]
      omega
    · rename_i h
      exact ⟨by omega, by omega⟩
def rt (N : Int) : Int := (isq N.toNat : Int)
theorem rt_spec (N : Int) (h : 0 ≤ N) : 0 ≤ rt N ∧ rt N * rt N ≤ N ∧ N < (rt N + 1) * (rt N + 1) := by
  have := isq_spec N.toNat
  unfold rt
  generalize isq N.toNat = q at *
  obtain ⟨h1, h2⟩ := this
  refine ⟨by omega, ?_, ?_⟩
  · have : ((q * q : Nat) : Int) ≤ (N.toNat : Int) := by exact_mod_cast h1
    rw [Int.toNat_of_nonneg h] at this
    simpa using this
  · have : (N.toNat : Int) < (((q + 1) * (q + 1) : Nat) : Int) := by exact_mod_cast h2
    rw [Int.toNat_of_nonneg h] at this
    simpa using this
theorem sq_lt {a b : Int} (ha : 0 ≤ a) (hb : 0 ≤ b) (h : a * a < b * b) : a < b := by
  rcases Int.lt_or_le a b with h' | h'
  · exact h'
  · have := Int.mul_le_mul h' h' hb ha; omega
theorem rt_unique (N r : Int) (h0 : 0 ≤ r) (h1 : r * r ≤ N) (h2 : N < (r + 1) * (r + 1)) : rt N = r := by
  have hN : 0 ≤ N := Int.le_trans (Int.mul_nonneg h0 h0) h1
  obtain ⟨a, b, c⟩ := rt_spec N hN
  have x1 : r < rt N + 1 := sq_lt h0 (by omega) (by omega)
  have x2 : rt N < r + 1 := sq_lt a (by omega) (by omega)
  omega
theorem rootInv_end (N r : Int) (H : RootInv N 64 r) : r = rt N := by
  obtain ⟨h1, h2, h3, h4, h5⟩ := H
  exact (rt_unique N r h1 h4 (by simpa using h5)).symm
end Go.Proofs.YtghfggfgndgkjaaGreatDoor
