/- Plain arithmetic of words, the long division and the root bit by bit. No program in sight. Numbers of 128 bits and a sign, as two words and a bool; the small functions' results under names. No program in sight. -/
import Derived.Calls
set_option linter.unusedVariables false
set_option linter.unusedSimpArgs false
namespace Go.Proofs.YtlcjkomfjgddeaaGreatDoor
theorem foil (x u y v c : Int) : (x * c + u) * (y * c + v) = x * y * (c * c) + (x * v + u * y) * c + u * v := by
  simp only [Int.mul_add, Int.mul_comm, Int.mul_left_comm]; omega
/-- product of two words, by halves -/
theorem times_halves (a b : Int) :
   a * b = (a / 4294967296) * (b / 4294967296) * 18446744073709551616 + ((a / 4294967296) * (b % 4294967296) + (a % 4294967296) * (b / 4294967296)) * 4294967296 + (a % 4294967296) * (b % 4294967296) := by
  have h1 : (a / 4294967296) * 4294967296 + a % 4294967296 = a := by omega
  have h2 : (b / 4294967296) * 4294967296 + b % 4294967296 = b := by omega
  have h := foil (a / 4294967296) (a % 4294967296) (b / 4294967296) (b % 4294967296) 4294967296
  rw [h1, h2] at h
  exact h
theorem mul_bd {x y n m : Int} (hx : 0 ≤ x) (hx' : x ≤ n) (hy : 0 ≤ y) (hy' : y ≤ m) : 0 ≤ x * y ∧ x * y ≤ n * m :=
  ⟨Int.mul_nonneg hx hy, Int.mul_le_mul hx' hy' hy (by omega)⟩

/-- the two words of a product of two words -/
theorem times_parts (a b : Int) (ha : 0 ≤ a) (ha' : a < 18446744073709551616) (hb : 0 ≤ b) (hb' : b < 18446744073709551616) :
   let p1 := (a % 4294967296) * (b % 4294967296)
   let p2 := (a / 4294967296) * (b % 4294967296)
   let p3 := (a % 4294967296) * (b / 4294967296)
   let p4 := (a / 4294967296) * (b / 4294967296)
   let mid := p2 + p1 / 4294967296
   let next := mid % 4294967296 + p3
   p1 < 18446744073709551616 ∧ p4 + mid / 4294967296 + next / 4294967296 ≤ 18446744073709551615 ∧ mid < 18446744073709551616 ∧ next < 18446744073709551616 ∧ 0 ≤ p1 ∧ 0 ≤ mid ∧ 0 ≤ next ∧ 0 ≤ p2 ∧ 0 ≤ p3 ∧ 0 ≤ p4 ∧ p2 < 18446744073709551616 ∧ p3 < 18446744073709551616 ∧ p4 < 18446744073709551616 ∧
   p4 + mid / 4294967296 + next / 4294967296 = a * b / 18446744073709551616 ∧ (next % 4294967296) * 4294967296 + p1 % 4294967296 = a * b % 18446744073709551616 ∧ 0 ≤ a * b / 18446744073709551616 ∧ a * b / 18446744073709551616 < 18446744073709551616 := by
  intro p1 p2 p3 p4 mid next
  have h1 := mul_bd (x := a % 4294967296) (y := b % 4294967296) (n := 4294967295) (m := 4294967295) (by omega) (by omega) (by omega) (by omega)
  have h2 := mul_bd (x := a / 4294967296) (y := b % 4294967296) (n := 4294967295) (m := 4294967295) (by omega) (by omega) (by omega) (by omega)
  have h3 := mul_bd (x := a % 4294967296) (y := b / 4294967296) (n := 4294967295) (m := 4294967295) (by omega) (by omega) (by omega) (by omega)
  have h4 := mul_bd (x := a / 4294967296) (y := b / 4294967296) (n := 4294967295) (m := 4294967295) (by omega) (by omega) (by omega) (by omega)
  have h := times_halves a b
  have e1 : p1 = (a % 4294967296) * (b % 4294967296) := rfl
  have e2 : p2 = (a / 4294967296) * (b % 4294967296) := rfl
  have e3 : p3 = (a % 4294967296) * (b / 4294967296) := rfl
  have e4 : p4 = (a / 4294967296) * (b / 4294967296) := rfl
  have e5 : mid = p2 + p1 / 4294967296 := rfl
  have e6 : next = mid % 4294967296 + p3 := rfl
  rw [← e1] at h1 h
  rw [← e2] at h2 h
  rw [← e3] at h3 h
  rw [← e4] at h4 h
  clear_value p1 p2 p3 p4 mid next
  clear e1 e2 e3 e4
  generalize a * b = ab at *
  refine ⟨?_, ?_, ?_, ?_, ?_, ?_, ?_, ?_, ?_, ?_, ?_, ?_, ?_, ?_, ?_, ?_, ?_⟩ <;> omega

/-- one step of the long division: the words shifted left by one -/
theorem shl128 (h l : Int) (hl : 0 ≤ l) (hl' : l < 18446744073709551616) :
  ((2 * h) % 18446744073709551616 + l / 9223372036854775808) * 18446744073709551616 + (2 * l) % 18446744073709551616 = (2 * (h * 18446744073709551616 + l)) % 340282366920938463463374607431768211456 := by
  omega
/-! long division, bit by bit -/
def DivInv (N d : Int) (k : Nat) (h l oh ol r : Int) : Prop :=
  (0 ≤ h ∧ h < 18446744073709551616) ∧ (0 ≤ l ∧ l < 18446744073709551616) ∧ (0 ≤ oh ∧ oh < 18446744073709551616) ∧ (0 ≤ ol ∧ ol < 18446744073709551616) ∧ 0 ≤ r ∧ r < d ∧
  ((oh * 18446744073709551616 + ol) * d + r) * 340282366920938463463374607431768211456 + (h * 18446744073709551616 + l) = N * 2 ^ k ∧ oh * 18446744073709551616 + ol < 2 ^ k

theorem divInv_start (N d h l : Int) (hh : 0 ≤ h ∧ h < 18446744073709551616) (hl : 0 ≤ l ∧ l < 18446744073709551616) (hd : 1 ≤ d) (hN : N = h * 18446744073709551616 + l) : DivInv N d 0 h l 0 0 0 := by
  refine ⟨hh, hl, ⟨by decide, by decide⟩, ⟨by decide, by decide⟩, by decide, by omega, ?_, ?_⟩
  · simp [hN]
  · decide

theorem pow_le_127 (k : Nat) (hk : k < 128) : (2 : Int) ^ k ≤ 170141183460469231731687303715884105728 := by
  have h : 2 ^ k ≤ 2 ^ 127 := Nat.pow_le_pow_right (by decide) (by omega)
  have h2 : ((2 ^ k : Nat) : Int) ≤ ((2 ^ 127 : Nat) : Int) := by exact_mod_cast h
  simpa using h2

theorem divInv_step (N d : Int) (k : Nat) (h l oh ol r : Int) (hk : k < 128) (hd : d < 18446744073709551616) (H : DivInv N d k h l oh ol r)
    (h' l' oh' ol' r' : Int)
    (e1 : h' = (2 * h) % 18446744073709551616 + l / 9223372036854775808) (e2 : l' = (2 * l) % 18446744073709551616)
    (e3 : oh' = (2 * oh) % 18446744073709551616 + ol / 9223372036854775808)
    (hc : (2 * r + h / 9223372036854775808 < d ∧ ol' = (2 * ol) % 18446744073709551616 ∧ r' = 2 * r + h / 9223372036854775808) ∨ (d ≤ 2 * r + h / 9223372036854775808 ∧ ol' = (2 * ol) % 18446744073709551616 + 1 ∧ r' = 2 * r + h / 9223372036854775808 - d)) :
    DivInv N d (k + 1) h' l' oh' ol' r' := by
  obtain ⟨⟨a1, a2⟩, ⟨b1, b2⟩, ⟨c1, c2⟩, ⟨d1, d2⟩, r1, r2, he, hb⟩ := H
  have hp := pow_le_127 k hk
  have e : N * 2 ^ (k + 1) = 2 * (N * 2 ^ k) := by rw [Int.pow_succ, Int.mul_comm ((2 : Int) ^ k) 2, Int.mul_left_comm]
  have ep : (2 : Int) ^ (k + 1) = 2 * 2 ^ k := by rw [Int.pow_succ, Int.mul_comm]
  rw [DivInv, e, ep]
  generalize N * 2 ^ k = M at *
  generalize (2 : Int) ^ k = p at *
  rcases hc with ⟨g, f1, f2⟩ | ⟨g, f1, f2⟩
  · have hO : oh' * 18446744073709551616 + ol' = 2 * (oh * 18446744073709551616 + ol) := by omega
    have hm : (oh' * 18446744073709551616 + ol') * d = 2 * ((oh * 18446744073709551616 + ol) * d) := by rw [hO, Int.mul_assoc]
    rw [hm]
    generalize (oh * 18446744073709551616 + ol) * d = Q at *
    refine ⟨⟨?_, ?_⟩, ⟨?_, ?_⟩, ⟨?_, ?_⟩, ⟨?_, ?_⟩, ?_, ?_, ?_, ?_⟩ <;> omega
  · have hO : oh' * 18446744073709551616 + ol' = 2 * (oh * 18446744073709551616 + ol) + 1 := by omega
    have hm : (oh' * 18446744073709551616 + ol') * d = 2 * ((oh * 18446744073709551616 + ol) * d) + d := by rw [hO, Int.add_mul, Int.mul_assoc, Int.one_mul]
    rw [hm]
    generalize (oh * 18446744073709551616 + ol) * d = Q at *
    refine ⟨⟨?_, ?_⟩, ⟨?_, ?_⟩, ⟨?_, ?_⟩, ⟨?_, ?_⟩, ?_, ?_, ?_, ?_⟩ <;> omega

theorem divInv_end (N d h l oh ol r : Int) (hd : 1 ≤ d) (H : DivInv N d 128 h l oh ol r) :
    oh * 18446744073709551616 + ol = N / d ∧ r = N % d ∧ oh = N / d / 18446744073709551616 ∧ ol = N / d % 18446744073709551616 := by
  obtain ⟨⟨a1, a2⟩, ⟨b1, b2⟩, ⟨c1, c2⟩, ⟨d1, d2⟩, r1, r2, he, hb⟩ := H
  have e : (2 : Int) ^ 128 = 340282366920938463463374607431768211456 := by decide
  rw [e] at he
  have hN : (oh * 18446744073709551616 + ol) * d + r = N := by
    generalize (oh * 18446744073709551616 + ol) * d = Q at *
    omega
  have h1 : N / d = oh * 18446744073709551616 + ol := by
    rw [← hN, Int.add_comm, Int.add_mul_ediv_right _ _ (by omega), Int.ediv_eq_zero_of_lt r1 r2]; omega
  have h2 : N % d = r := by
    rw [← hN, Int.add_comm, Int.add_mul_emod_self_right, Int.emod_eq_of_lt r1 r2]
  refine ⟨h1.symm, h2.symm, ?_, ?_⟩ <;> omega

/-! the root, bit by bit -/
def RootInv (N : Int) (i : Nat) (r : Int) : Prop := 0 ≤ r ∧ r + 2 ^ (64 - i) ≤ 18446744073709551616 ∧ r % 2 ^ (64 - i) = 0 ∧ r * r ≤ N ∧ N < (r + 2 ^ (64 - i)) * (r + 2 ^ (64 - i))

theorem rootInv_start (N : Int) (h0 : 0 ≤ N) (h1 : N < 340282366920938463463374607431768211456) : RootInv N 0 0 := by
  refine ⟨by decide, by decide, by decide, by omega, ?_⟩
  have : (0 + (2 : Int) ^ (64 - 0)) * (0 + 2 ^ (64 - 0)) = 340282366920938463463374607431768211456 := by decide
  omega

theorem rootInv_step (N : Int) (i : Nat) (r p : Int) (hi : i < 64) (hp : p = 2 ^ (63 - i)) (H : RootInv N i r) :
    (0 ≤ r ∧ 0 < p ∧ p ≤ 9223372036854775808 ∧ r + 2 * p ≤ 18446744073709551616 ∧ r % (2 * p) = 0) ∧ ((r + p) * (r + p) ≤ N → RootInv N (i + 1) (r + p)) ∧ (N < (r + p) * (r + p) → RootInv N (i + 1) r) := by
  obtain ⟨h1, h2, h3, h4, h5⟩ := H
  have e1 : (2 : Int) ^ (64 - i) = 2 * p := by
    rw [hp, show 64 - i = (63 - i) + 1 by omega, Int.pow_succ, Int.mul_comm]
  have e2 : (2 : Int) ^ (64 - (i + 1)) = p := by rw [hp, show 64 - (i + 1) = 63 - i by omega]
  have hpp : 0 < p := by rw [hp]; exact Int.pow_pos (by decide)
  rw [e1] at h2 h3 h5
  obtain ⟨q, hq⟩ : ∃ q, r = 2 * p * q := ⟨r / (2 * p), by have := Int.mul_ediv_add_emod r (2 * p); omega⟩
  refine ⟨⟨h1, hpp, by omega, h2, h3⟩, fun hle => ?_, fun hlt => ?_⟩
  · refine ⟨by omega, by rw [e2]; omega, ?_, hle, ?_⟩
    · rw [e2, hq]
      have : 2 * p * q + p = p * (2 * q + 1) := by rw [Int.mul_add, Int.mul_one, Int.mul_comm 2 p, Int.mul_assoc]
      rw [this]; exact Int.mul_emod_right _ _
    · rw [e2]; have : r + p + p = r + 2 * p := by omega
      rw [this]; exact h5
  · refine ⟨h1, by rw [e2]; omega, ?_, h4, ?_⟩
    · rw [e2, hq]
      have : 2 * p * q = p * (2 * q) := by rw [Int.mul_comm 2 p, Int.mul_assoc]
      rw [this]; exact Int.mul_emod_right _ _
    · rw [e2]; exact hlt

/-- the root, rounded down -/
def isq : Nat → Nat
  | 0 => 0
  | n + 1 => if (isq n + 1) * (isq n + 1) ≤ n + 1 then isq n + 1 else isq n
theorem isq_spec (n : Nat) : isq n * isq n ≤ n ∧ n < (isq n + 1) * (isq n + 1) := by
  induction n with
  | zero => exact ⟨Nat.le_refl _, by decide⟩
  | succ n ih =>
    rw [isq]
    split
    · rename_i h
      refine ⟨h, ?_⟩
      have h1 := ih.2
      have h2 : (isq n + 1) * (isq n + 1) ≤ (isq n + 1) * (isq n + 1 + 1) := Nat.mul_le_mul_left _ (by omega)
      have h3 : (isq n + 1 + 1) * (isq n + 1 + 1) = (isq n + 1) * (isq n + 1 + 1) + (isq n + 1 + 1) := by rw [Nat.add_mul (isq n + 1) 1, Nat.one_mul]
      omega
    · rename_i h
      exact ⟨by omega, by omega⟩
def rt (N : Int) : Int := (isq N.toNat : Int)
theorem rt_spec (N : Int) (h : 0 ≤ N) : 0 ≤ rt N ∧ rt N * rt N ≤ N ∧ N < (rt N + 1) * (rt N + 1) := by
  have := isq_spec N.toNat
  unfold rt
  generalize isq N.toNat = q at *
  obtain ⟨h1, h2⟩ := this
  refine ⟨by omega, ?_, ?_⟩
  · have : ((q * q : Nat) : Int) ≤ (N.toNat : Int) := by exact_mod_cast h1
    rw [Int.toNat_of_nonneg h] at this
    simpa using this
  · have : (N.toNat : Int) < (((q + 1) * (q + 1) : Nat) : Int) := by exact_mod_cast h2
    rw [Int.toNat_of_nonneg h] at this
    simpa using this
theorem sq_lt {a b : Int} (ha : 0 ≤ a) (hb : 0 ≤ b) (h : a * a < b * b) : a < b := by
  rcases Int.lt_or_le a b with h' | h'
  · exact h'
  · have := Int.mul_le_mul h' h' hb ha; omega
theorem rt_unique (N r : Int) (h0 : 0 ≤ r) (h1 : r * r ≤ N) (h2 : N < (r + 1) * (r + 1)) : rt N = r := by
  have hN : 0 ≤ N := Int.le_trans (Int.mul_nonneg h0 h0) h1
  obtain ⟨a, b, c⟩ := rt_spec N hN
  have x1 : r < rt N + 1 := sq_lt h0 (by omega) (by omega)
  have x2 : rt N < r + 1 := sq_lt a (by omega) (by omega)
  omega
theorem rootInv_end (N r : Int) (H : RootInv N 64 r) : r = rt N := by
  obtain ⟨h1, h2, h3, h4, h5⟩ := H
  exact (rt_unique N r h1 h4 (by simpa using h5)).symm
end Go.Proofs.YtlcjkomfjgddeaaGreatDoor
namespace Go.Proofs.YtlcjkomfjgddeaaGreatDoor
open Go

def hiw (z : Int) : Int := (z.natAbs : Int) / 18446744073709551616
def low (z : Int) : Int := (z.natAbs : Int) % 18446744073709551616
def ngw (z : Int) : Bool := decide (z < 0)
abbrev W (z : Int) : Value := .agg #[.int .u64 (hiw z), .int .u64 (low z), .bool (ngw z)]

theorem hiw_nonneg (z : Int) : 0 ≤ hiw z := by unfold hiw; omega
theorem low_nonneg (z : Int) : 0 ≤ low z := by unfold low; omega
theorem low_le (z : Int) : low z ≤ 18446744073709551615 := by unfold low; omega
theorem hiw_le (z : Int) (h1 : -340282366920938463463374607431768211456 < z) (h2 : z < 340282366920938463463374607431768211456) : hiw z ≤ 18446744073709551615 := by unfold hiw; omega
theorem hilo (z : Int) : hiw z * 18446744073709551616 + low z = (z.natAbs : Int) := by unfold hiw low; omega
theorem hilo_pos (z : Int) (h : 0 ≤ z) : hiw z * 18446744073709551616 + low z = z := by rw [hilo]; omega
theorem low_small (z : Int) (h1 : -18446744073709551616 < z) (h2 : z < 18446744073709551616) : low z = (z.natAbs : Int) := by unfold low; omega
theorem hiw_small (z : Int) (h1 : -18446744073709551616 < z) (h2 : z < 18446744073709551616) : hiw z = 0 := by unfold hiw; omega
theorem W_mk {h l z : Int} {b : Bool} (hz : h * 18446744073709551616 + l = (z.natAbs : Int)) (h0 : 0 ≤ l) (h1 : l < 18446744073709551616) (hb : b = decide (z < 0)) :
    Value.agg #[.int .u64 h, .int .u64 l, .bool b] = W z := by
  have e1 : h = hiw z := by unfold hiw; omega
  have e2 : l = low z := by unfold low; omega
  rw [e1, e2, hb]; rfl
theorem ret_W {h l z : Int} {b : Bool} (hz : h * 18446744073709551616 + l = (z.natAbs : Int)) (h0 : 0 ≤ l) (h1 : l < 18446744073709551616) (hb : b = decide (z < 0)) :
    Ending.returned (.agg #[.int .u64 h, .int .u64 l, .bool b]) = .returned (W z) := by rw [W_mk hz h0 h1 hb]

/-- the sign that 'made' keeps -/
def nz (n : Bool) (h l : Int) : Bool := n && !(h == 0 && l == 0)
theorem nz_eq (n : Bool) (h l z : Int) (hz : h * 18446744073709551616 + l = (z.natAbs : Int)) (h0 : 0 ≤ l) (h1 : l < 18446744073709551616) (hn : z ≠ 0 → n = decide (z < 0)) : nz n h l = decide (z < 0) := by
  unfold nz
  by_cases e : z = 0
  · subst e
    have : h = 0 ∧ l = 0 := by omega
    simp [this.1, this.2]
  · rw [hn e]
    have : ¬ (h = 0 ∧ l = 0) := by omega
    have h2 : (h == 0 && l == 0) = false := by
      rw [Bool.eq_false_iff]; intro h3; simp at h3; exact this h3
    rw [h2]; simp
theorem ret_made {h l z : Int} {n : Bool} (hz : h * 18446744073709551616 + l = (z.natAbs : Int)) (h0 : 0 ≤ l) (h1 : l < 18446744073709551616) (hn : z ≠ 0 → n = decide (z < 0)) :
    Ending.returned (.agg #[.int .u64 h, .int .u64 l, .bool (nz n h l)]) = .returned (W z) := ret_W hz h0 h1 (nz_eq n h l z hz h0 h1 hn)

theorem made_neg_eq {h l q : Int} (hq : h * 18446744073709551616 + l = q) (h0 : 0 ≤ l) (h1 : l < 18446744073709551616) (q0 : 0 ≤ q) :
    Value.agg #[.int .u64 h, .int .u64 l, .bool (nz true h l)] = W (-q) := by
  rw [nz_eq true h l (-q) (by omega) h0 h1 (fun h => by simp; omega)]
  exact W_mk (by omega) h0 h1 rfl
theorem made_pos_eq {h l q : Int} (hq : h * 18446744073709551616 + l = q) (h0 : 0 ≤ l) (h1 : l < 18446744073709551616) (q0 : 0 ≤ q) :
    Value.agg #[.int .u64 h, .int .u64 l, .bool (nz false h l)] = W q := by
  rw [nz_eq false h l q (by omega) h0 h1 (fun h => by simp; omega)]
  exact W_mk (by omega) h0 h1 rfl
theorem made_sgn_eq {h l q z : Int} {n : Bool} (hq : h * 18446744073709551616 + l = q) (h0 : 0 ≤ l) (h1 : l < 18446744073709551616) (q0 : 0 ≤ q) (hz : (n = false → z = q) ∧ (n = true → z = -q)) :
    Value.agg #[.int .u64 h, .int .u64 l, .bool (nz n h l)] = W z := by
  cases n
  · rw [hz.1 rfl]; exact made_pos_eq hq h0 h1 q0
  · rw [hz.2 rfl]; exact made_neg_eq hq h0 h1 q0

def tmh (a b : Int) : Int := a * b / 18446744073709551616
def tml (a b : Int) : Int := a * b % 18446744073709551616
theorem tm_eq (a b : Int) : tmh a b * 18446744073709551616 + tml a b = a * b := by unfold tmh tml; omega
theorem tml_nonneg (a b : Int) : 0 ≤ tml a b := by unfold tml; omega
theorem tml_le (a b : Int) : tml a b ≤ 18446744073709551615 := by unfold tml; omega
theorem tmh_nonneg (a b : Int) (ha : 0 ≤ a) (hb : 0 ≤ b) : 0 ≤ tmh a b := by unfold tmh; exact Int.ediv_nonneg (Int.mul_nonneg ha hb) (by decide)
theorem tmh_le (a b : Int) (ha : 0 ≤ a) (ha' : a ≤ 18446744073709551615) (hb : 0 ≤ b) (hb' : b ≤ 18446744073709551615) : tmh a b ≤ 18446744073709551615 := by
  have := times_parts a b ha (by omega) hb (by omega)
  dsimp only at this
  unfold tmh; omega

def ltw (h l h' l' : Int) : Bool := decide (h * 18446744073709551616 + l < h' * 18446744073709551616 + l')
def plh (h l h' l' : Int) : Int := (h * 18446744073709551616 + l + (h' * 18446744073709551616 + l')) % 340282366920938463463374607431768211456 / 18446744073709551616
def pll (l l' : Int) : Int := (l + l') % 18446744073709551616
def mih (h l h' l' : Int) : Int := (h * 18446744073709551616 + l - (h' * 18446744073709551616 + l')) % 340282366920938463463374607431768211456 / 18446744073709551616
def mil (l l' : Int) : Int := (l - l') % 18446744073709551616
theorem pll_bd (l l' : Int) : 0 ≤ pll l l' ∧ pll l l' ≤ 18446744073709551615 := by unfold pll; omega
theorem mil_bd (l l' : Int) : 0 ≤ mil l l' ∧ mil l l' ≤ 18446744073709551615 := by unfold mil; omega
theorem pl_eq (h l h' l' : Int) (hl : 0 ≤ h * 18446744073709551616 + l + (h' * 18446744073709551616 + l')) (hu : h * 18446744073709551616 + l + (h' * 18446744073709551616 + l') < 340282366920938463463374607431768211456) :
    plh h l h' l' * 18446744073709551616 + pll l l' = h * 18446744073709551616 + l + (h' * 18446744073709551616 + l') := by unfold plh pll; omega
theorem mi_eq (h l h' l' : Int) (hl : 0 ≤ h * 18446744073709551616 + l - (h' * 18446744073709551616 + l')) (hu : h * 18446744073709551616 + l - (h' * 18446744073709551616 + l') < 340282366920938463463374607431768211456) :
    mih h l h' l' * 18446744073709551616 + mil l l' = h * 18446744073709551616 + l - (h' * 18446744073709551616 + l') := by unfold mih mil; omega

def dvq (h l d : Int) : Int := (h * 18446744073709551616 + l) / d
def dvh (h l d : Int) : Int := dvq h l d / 18446744073709551616
def dvl (h l d : Int) : Int := dvq h l d % 18446744073709551616
def dvr (h l d : Int) : Int := (h * 18446744073709551616 + l) % d
theorem dvl_bd (h l d : Int) : 0 ≤ dvl h l d ∧ dvl h l d ≤ 18446744073709551615 := by unfold dvl; omega
theorem dv_eq (h l d : Int) : dvh h l d * 18446744073709551616 + dvl h l d = (h * 18446744073709551616 + l) / d := by unfold dvh dvl dvq; omega
theorem dvr_bd (h l d : Int) (hd : 0 < d) : 0 ≤ dvr h l d ∧ dvr h l d < d := ⟨Int.emod_nonneg _ (by omega), Int.emod_lt_of_pos _ hd⟩
def rtw (h l : Int) : Int := rt (h * 18446744073709551616 + l)

/-- an int, as it is cut -/
def sat (z : Int) : Int := if z < -9223372036854775808 then -9223372036854775808 else if 9223372036854775807 < z then 9223372036854775807 else z
theorem sat_bd (z : Int) : -9223372036854775808 ≤ sat z ∧ sat z ≤ 9223372036854775807 := by unfold sat; omega
theorem sat_in (z : Int) (h1 : -9223372036854775808 ≤ z) (h2 : z ≤ 9223372036854775807) : sat z = z := by unfold sat; omega
theorem sat_mono (x y : Int) (h : x ≤ y) : sat x ≤ sat y := by unfold sat; omega

/-- the quotient, rounded down; and its remainder -/
def fl (a b : Int) : Int := if 0 < b then a / b else (-a) / (-b)
def fr (a b : Int) : Int := if 0 < b then a % b else (-a) % (-b)
theorem fl_spec (a b : Int) (hb : b ≠ 0) : (0 < b → fl a b * b + fr a b = a) ∧ (b < 0 → fl a b * (-b) + fr a b = -a) ∧ 0 ≤ fr a b ∧ fr a b < (b.natAbs : Int) := by
  unfold fl fr
  by_cases h : 0 < b
  · rw [if_pos h, if_pos h]
    have h1 := Int.mul_ediv_add_emod a b
    have h2 := Int.emod_nonneg a hb
    have h3 := Int.emod_lt_of_pos a h
    refine ⟨fun _ => by rw [Int.mul_comm]; exact h1, fun h' => by omega, h2, by omega⟩
  · rw [if_neg h, if_neg h]
    have h1 := Int.mul_ediv_add_emod (-a) (-b)
    have h2 := Int.emod_nonneg (-a) (b := -b) (by omega)
    have h3 := Int.emod_lt_of_pos (-a) (b := -b) (by omega)
    refine ⟨fun h' => by omega, fun _ => by rw [Int.mul_comm]; exact h1, h2, by omega⟩
theorem div_unique {a b q r : Int} (h : q * b + r = a) (h0 : 0 ≤ r) (h1 : r < b) : a / b = q ∧ a % b = r := by
  have hb : 0 < b := by omega
  subst h
  constructor
  · rw [Int.add_comm, Int.add_mul_ediv_right _ _ (by omega), Int.ediv_eq_zero_of_lt h0 h1]; omega
  · rw [Int.add_comm, Int.add_mul_emod_self_right, Int.emod_eq_of_lt h0 h1]
theorem fl_unique {a b q r : Int} (hb : b ≠ 0) (hp : 0 < b → q * b + r = a) (hn : b < 0 → q * (-b) + r = -a) (h0 : 0 ≤ r) (h1 : r < (b.natAbs : Int)) : fl a b = q ∧ fr a b = r := by
  unfold fl fr
  by_cases h : 0 < b
  · rw [if_pos h, if_pos h]; exact div_unique (hp h) h0 (by omega)
  · rw [if_neg h, if_neg h]; exact div_unique (hn (by omega)) h0 (by omega)
theorem fl_nat (a b : Int) (hb : b ≠ 0) :
    (((0 ≤ a ∧ 0 < b) ∨ (a ≤ 0 ∧ b < 0)) → fl a b = (a.natAbs : Int) / (b.natAbs : Int) ∧ fr a b = (a.natAbs : Int) % (b.natAbs : Int)) ∧
    (((0 ≤ a ∧ b < 0) ∨ (a ≤ 0 ∧ 0 < b)) → (a.natAbs : Int) % (b.natAbs : Int) = 0 → fl a b = -((a.natAbs : Int) / (b.natAbs : Int)) ∧ fr a b = 0) ∧
    (((0 ≤ a ∧ b < 0) ∨ (a ≤ 0 ∧ 0 < b)) → (a.natAbs : Int) % (b.natAbs : Int) ≠ 0 → fl a b = -((a.natAbs : Int) / (b.natAbs : Int) + 1) ∧ fr a b = (b.natAbs : Int) - (a.natAbs : Int) % (b.natAbs : Int)) := by
  have h1 := Int.mul_ediv_add_emod (a.natAbs : Int) (b.natAbs : Int)
  have h2 := Int.emod_nonneg (a.natAbs : Int) (b := (b.natAbs : Int)) (by omega)
  have h3 := Int.emod_lt_of_pos (a.natAbs : Int) (b := (b.natAbs : Int)) (by omega)
  generalize (a.natAbs : Int) / (b.natAbs : Int) = q at *
  generalize (a.natAbs : Int) % (b.natAbs : Int) = r at *
  rw [Int.mul_comm] at h1
  refine ⟨fun hs => fl_unique hb (fun hp => ?_) (fun hn => ?_) h2 h3, fun hs hr => fl_unique hb (fun hp => ?_) (fun hn => ?_) (by omega) (by omega), fun hs hr => fl_unique hb (fun hp => ?_) (fun hn => ?_) (by omega) (by omega)⟩
  · rw [show (b.natAbs : Int) = b by omega] at h1; omega
  · rw [show (b.natAbs : Int) = -b by omega] at h1; omega
  · rw [show (b.natAbs : Int) = b by omega] at h1; rw [Int.neg_mul]; omega
  · rw [show (b.natAbs : Int) = -b by omega] at h1; rw [Int.neg_mul]; omega
  · rw [show (b.natAbs : Int) = b by omega] at h1 ⊢; rw [Int.neg_mul, Int.add_mul, Int.one_mul]; omega
  · rw [show (b.natAbs : Int) = -b by omega] at h1 ⊢; rw [Int.neg_mul, Int.add_mul, Int.one_mul]; omega
end Go.Proofs.YtlcjkomfjgddeaaGreatDoor
