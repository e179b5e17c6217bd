/- Bits of numbers and of bytes: what a Writer packs and a Reader reads; plain. -/
import Derived.Below
import Derived.Laws.BitsAllLaws
set_option linter.unusedVariables false
set_option linter.unusedSimpArgs false
namespace Go.Proofs.YtghfggfgndgkjaaGreatDoor
open Go

/-- bit j of a list of bits -/
def bt (l : List Int) (j : Nat) : Int := l.getD j 0
/-- byte i of a list of bits -/
def byteOf (l : List Int) (i : Nat) : Int := 128 * bt l (8 * i) + 64 * bt l (8 * i + 1) + 32 * bt l (8 * i + 2) + 16 * bt l (8 * i + 3) + 8 * bt l (8 * i + 4) + 4 * bt l (8 * i + 5) + 2 * bt l (8 * i + 6) + bt l (8 * i + 7)
def pack (l : List Int) : List Int := (List.range ((l.length + 7) / 8)).map (byteOf l)
def IsBits (l : List Int) : Prop := ∀ j, bt l j = 0 ∨ bt l j = 1
/-- the k bits of a number, the greatest first -/
def bitsOf (n : Int) (k : Nat) : List Int := (List.range k).map fun i => n / 2 ^ (k - 1 - i) % 2
/-- the number of bits at and behind a place -/
def numAt (l : List Int) (at_ : Nat) : Nat → Int
  | 0 => 0
  | k + 1 => 2 * numAt l at_ k + bt l (at_ + k)

theorem pack_length (l : List Int) : (pack l).length = (l.length + 7) / 8 := by simp [pack]
theorem pack_getD (l : List Int) (i : Nat) (h : i < (l.length + 7) / 8) : (pack l).getD i 0 = byteOf l i := by
  simp [pack, List.getD, h]
theorem bt_append (l : List Int) (v : Int) (j : Nat) : bt (l ++ [v]) j = if j < l.length then bt l j else if j = l.length then v else 0 := by
  unfold bt
  by_cases h : j < l.length
  · rw [if_pos h, List.getD, List.getD, List.getElem?_append_left h]
  · rw [if_neg h]
    by_cases h2 : j = l.length
    · subst h2; simp [List.getD]
    · rw [if_neg h2]
      simp [List.getD, show (l ++ [v])[j]? = none from List.getElem?_eq_none (by simp; omega)]
theorem bt_out (l : List Int) (j : Nat) (h : l.length ≤ j) : bt l j = 0 := by
  simp [bt, List.getD, List.getElem?_eq_none h]
theorem isBits_append {l : List Int} {v : Int} (h : IsBits l) (hv : v = 0 ∨ v = 1) : IsBits (l ++ [v]) := fun j => by
  rw [bt_append]
  split
  · exact h j
  · split
    · exact hv
    · exact .inl rfl
theorem IsBits.bd {l : List Int} (h : IsBits l) (j : Nat) : 0 ≤ bt l j ∧ bt l j ≤ 1 := by rcases h j with h | h <;> omega
theorem isBits_nil : IsBits [] := fun j => .inl (by simp [bt])
theorem byteOf_bd {l : List Int} (h : IsBits l) (i : Nat) : 0 ≤ byteOf l i ∧ byteOf l i ≤ 255 := by
  unfold byteOf
  have h0 := h (8 * i); have h1 := h (8 * i + 1); have h2 := h (8 * i + 2); have h3 := h (8 * i + 3)
  have h4 := h (8 * i + 4); have h5 := h (8 * i + 5); have h6 := h (8 * i + 6); have h7 := h (8 * i + 7)
  omega
theorem byteOf_other (l : List Int) (v : Int) (i : Nat) (h : i ≠ l.length / 8) : byteOf (l ++ [v]) i = byteOf l i := by
  have e : ∀ j, j < 8 → bt (l ++ [v]) (8 * i + j) = bt l (8 * i + j) := fun j hj => by
    rw [bt_append]
    split
    · rfl
    · rename_i hn
      rw [if_neg (by omega), bt_out l _ (by omega)]
  unfold byteOf
  rw [e 1 (by omega), e 2 (by omega), e 3 (by omega), e 4 (by omega), e 5 (by omega), e 6 (by omega), e 7 (by omega)]
  have := e 0 (by omega)
  rw [Nat.add_zero] at this
  rw [this]
theorem byteOf_here (l : List Int) (v : Int) : byteOf (l ++ [v]) (l.length / 8) = byteOf l (l.length / 8) + v * 2 ^ (7 - l.length % 8) := by
  have e : ∀ j, j < 8 → bt (l ++ [v]) (8 * (l.length / 8) + j) = bt l (8 * (l.length / 8) + j) + (if j = l.length % 8 then v else 0) := fun j hj => by
    rw [bt_append]
    split
    · rw [if_neg (by omega)]; omega
    · split
      · rw [if_pos (by omega), bt_out l _ (by omega)]; omega
      · rw [if_neg (by omega), bt_out l _ (by omega)]; omega
  have e0 := e 0 (by omega)
  rw [Nat.add_zero] at e0
  unfold byteOf
  rw [e0, e 1 (by omega), e 2 (by omega), e 3 (by omega), e 4 (by omega), e 5 (by omega), e 6 (by omega), e 7 (by omega)]
  have hr : l.length % 8 < 8 := Nat.mod_lt _ (by omega)
  generalize l.length % 8 = r at *
  rcases (by omega : r = 0 ∨ r = 1 ∨ r = 2 ∨ r = 3 ∨ r = 4 ∨ r = 5 ∨ r = 6 ∨ r = 7) with rfl | rfl | rfl | rfl | rfl | rfl | rfl | rfl <;> simp <;> omega
/-- the last byte has no bits behind those that were written -/
theorem byteOf_low {l : List Int} (h : IsBits l) : byteOf l (l.length / 8) % 2 ^ (8 - l.length % 8) = 0 := by
  have e : ∀ j, l.length % 8 ≤ j → bt l (8 * (l.length / 8) + j) = 0 := fun j hj => bt_out l _ (by omega)
  have e0 := e 0
  rw [Nat.add_zero] at e0
  have e1 := e 1; have e2 := e 2; have e3 := e 3; have e4 := e 4; have e5 := e 5; have e6 := e 6; have e7 := e 7
  unfold byteOf
  have hr : l.length % 8 < 8 := Nat.mod_lt _ (by omega)
  generalize l.length % 8 = r at *
  rcases (by omega : r = 0 ∨ r = 1 ∨ r = 2 ∨ r = 3 ∨ r = 4 ∨ r = 5 ∨ r = 6 ∨ r = 7) with rfl | rfl | rfl | rfl | rfl | rfl | rfl | rfl <;> simp at * <;> omega
theorem byteOf_or {l : List Int} (h : IsBits l) {v : Int} (hv : v = 0 ∨ v = 1) : bits .or .u8 (byteOf l (l.length / 8)) (v * 2 ^ (7 - l.length % 8)) = byteOf (l ++ [v]) (l.length / 8) := by
  have hb := byteOf_bd h (l.length / 8)
  have hl := byteOf_low h
  have hr : l.length % 8 < 8 := Nat.mod_lt _ (by omega)
  rw [byteOf_here]
  generalize byteOf l (l.length / 8) = x at *
  generalize l.length % 8 = r at *
  have hp : (2 : Int) ^ (7 - r) ≤ 128 ∧ 0 < (2 : Int) ^ (7 - r) := by
    rcases (by omega : r = 0 ∨ r = 1 ∨ r = 2 ∨ r = 3 ∨ r = 4 ∨ r = 5 ∨ r = 6 ∨ r = 7) with rfl | rfl | rfl | rfl | rfl | rfl | rfl | rfl <;> decide
  have hy : 0 ≤ v * 2 ^ (7 - r) ∧ v * 2 ^ (7 - r) ≤ 2 ^ (7 - r) := by
    rcases hv with rfl | rfl
    · rw [Int.zero_mul]; omega
    · rw [Int.one_mul]; omega
  rw [u8_or _ _ hb.1 (by omega) hy.1 (by omega), nat_join (8 - r) x.toNat]
  · omega
  · have e : ((2 ^ (8 - r) : Nat) : Int) = (2 : Int) ^ (8 - r) := by simp
    have e2 : ((x.toNat % 2 ^ (8 - r) : Nat) : Int) = x % 2 ^ (8 - r) := by
      rw [Int.natCast_emod, e, show ((x.toNat : Nat) : Int) = x by omega]
    rw [hl] at e2
    omega
  · have e : (2 : Nat) ^ (8 - r) = 2 * 2 ^ (7 - r) := by rw [show 8 - r = (7 - r) + 1 by omega, Nat.pow_succ]; omega
    have e3 : ((2 ^ (7 - r) : Nat) : Int) = (2 : Int) ^ (7 - r) := by simp
    omega
theorem pack_same (l : List Int) (v : Int) (h : l.length % 8 ≠ 0) : (pack l).set (l.length / 8) (byteOf (l ++ [v]) (l.length / 8)) = pack (l ++ [v]) := by
  apply List.ext_getElem?
  intro i
  by_cases hi : i < (l.length + 7) / 8
  · by_cases hj : i = l.length / 8
    · subst hj
      rw [List.getElem?_set_self (by rw [pack_length]; exact hi)]
      simp [pack, show l.length / 8 < (l.length + 1 + 7) / 8 by omega]
    · rw [List.getElem?_set_ne (Ne.symm hj)]
      simp [pack, hi, show i < (l.length + 1 + 7) / 8 by omega, byteOf_other l v i hj]
  · rw [List.getElem?_eq_none (by rw [List.length_set, pack_length]; omega), List.getElem?_eq_none (by rw [pack_length]; simp; omega)]
theorem pack_more (l : List Int) (v : Int) (h : l.length % 8 = 0) : (pack l ++ [0]).set (l.length / 8) (byteOf (l ++ [v]) (l.length / 8)) = pack (l ++ [v]) := by
  apply List.ext_getElem?
  intro i
  by_cases hi : i < l.length / 8
  · rw [List.getElem?_set_ne (by omega), List.getElem?_append_left (by rw [pack_length]; omega)]
    simp [pack, show i < (l.length + 7) / 8 by omega, show i < (l.length + 1 + 7) / 8 by omega, byteOf_other l v i (by omega)]
  · by_cases hj : i = l.length / 8
    · subst hj
      rw [List.getElem?_set_self (by rw [List.length_append, pack_length]; simp; omega)]
      simp [pack, show l.length / 8 < (l.length + 1 + 7) / 8 by omega]
    · rw [List.getElem?_eq_none (by rw [List.length_set, List.length_append, pack_length]; simp; omega), List.getElem?_eq_none (by rw [pack_length]; simp; omega)]
theorem byteOf_new (l : List Int) (h : l.length % 8 = 0) : byteOf l (l.length / 8) = 0 := by
  have e : ∀ j, bt l (8 * (l.length / 8) + j) = 0 := fun j => bt_out l _ (by omega)
  have e0 := e 0
  rw [Nat.add_zero] at e0
  unfold byteOf
  rw [e0, e 1, e 2, e 3, e 4, e 5, e 6, e 7]; rfl
/-- a bit out of its byte -/
theorem bt_byte {l : List Int} (h : IsBits l) (j : Nat) : byteOf l (j / 8) / 2 ^ (7 - j % 8) % 2 = bt l j := by
  have e : ∀ r, r = j % 8 → bt l (8 * (j / 8) + r) = bt l j := fun r hr => by rw [show 8 * (j / 8) + r = j by omega]
  have h0 := h.bd (8 * (j / 8)); have h1 := h.bd (8 * (j / 8) + 1); have h2 := h.bd (8 * (j / 8) + 2); have h3 := h.bd (8 * (j / 8) + 3)
  have h4 := h.bd (8 * (j / 8) + 4); have h5 := h.bd (8 * (j / 8) + 5); have h6 := h.bd (8 * (j / 8) + 6); have h7 := h.bd (8 * (j / 8) + 7)
  have hr : j % 8 < 8 := Nat.mod_lt _ (by omega)
  have e0 := e 0; have e1 := e 1; have e2 := e 2; have e3 := e 3; have e4 := e 4; have e5 := e 5; have e6 := e 6; have e7 := e 7
  rw [Nat.add_zero] at e0
  unfold byteOf
  clear e h
  generalize bt l (8 * (j / 8)) = x0 at *
  generalize bt l (8 * (j / 8) + 1) = x1 at *
  generalize bt l (8 * (j / 8) + 2) = x2 at *
  generalize bt l (8 * (j / 8) + 3) = x3 at *
  generalize bt l (8 * (j / 8) + 4) = x4 at *
  generalize bt l (8 * (j / 8) + 5) = x5 at *
  generalize bt l (8 * (j / 8) + 6) = x6 at *
  generalize bt l (8 * (j / 8) + 7) = x7 at *
  generalize bt l j = y at *
  generalize j % 8 = r at *
  rcases (by omega : r = 0 ∨ r = 1 ∨ r = 2 ∨ r = 3 ∨ r = 4 ∨ r = 5 ∨ r = 6 ∨ r = 7) with rfl | rfl | rfl | rfl | rfl | rfl | rfl | rfl
  · have := e0 rfl; show (_ : Int) / 128 % 2 = _; omega
  · have := e1 rfl; show (_ : Int) / 64 % 2 = _; omega
  · have := e2 rfl; show (_ : Int) / 32 % 2 = _; omega
  · have := e3 rfl; show (_ : Int) / 16 % 2 = _; omega
  · have := e4 rfl; show (_ : Int) / 8 % 2 = _; omega
  · have := e5 rfl; show (_ : Int) / 4 % 2 = _; omega
  · have := e6 rfl; show (_ : Int) / 2 % 2 = _; omega
  · have := e7 rfl; show (_ : Int) / 1 % 2 = _; omega
/-- the bits written so far of a number -/
theorem bitsOf_length (n : Int) (k : Nat) : (bitsOf n k).length = k := by simp [bitsOf]
def upTo (n : Int) (k i : Nat) : List Int := (bitsOf n k).take i
theorem upTo_zero (n : Int) (k : Nat) : upTo n k 0 = [] := by simp [upTo]
theorem upTo_all (n : Int) (k : Nat) : upTo n k k = bitsOf n k := by unfold upTo; rw [List.take_of_length_le (by rw [bitsOf_length]; omega)]
theorem upTo_length (n : Int) (k i : Nat) (h : i ≤ k) : (upTo n k i).length = i := by unfold upTo; rw [List.length_take, bitsOf_length]; omega
theorem upTo_succ (n : Int) (k i : Nat) (h : i < k) : upTo n k (i + 1) = upTo n k i ++ [n / 2 ^ (k - 1 - i) % 2] := by
  unfold upTo
  rw [List.take_add_one]
  congr 1
  simp [bitsOf, h]
theorem isBits_upTo {l : List Int} (h : IsBits l) (n : Int) (k : Nat) : ∀ i, i ≤ k → IsBits (l ++ upTo n k i)
  | 0, _ => by rw [upTo_zero, List.append_nil]; exact h
  | i + 1, hi => by
    rw [upTo_succ n k i (by omega), ← List.append_assoc]
    exact isBits_append (isBits_upTo h n k i (by omega)) (by omega)
theorem bt_bits (l : List Int) (n : Int) (k i : Nat) (h : i < k) (m : List Int) : bt (l ++ bitsOf n k ++ m) (l.length + i) = n / 2 ^ (k - 1 - i) % 2 := by
  unfold bt
  rw [List.getD, List.getElem?_append_left (by simp [bitsOf_length]; omega), List.getElem?_append_right (by omega)]
  simp [bitsOf, h]
theorem numAt_bits (l m : List Int) (n : Int) (k : Nat) (h0 : 0 ≤ n) : ∀ i, i ≤ k → numAt (l ++ bitsOf n k ++ m) l.length i = n / 2 ^ (k - i) % 2 ^ i
  | 0, _ => by simp [numAt, Int.emod_one]
  | i + 1, hi => by
    rw [numAt, numAt_bits l m n k h0 i (by omega), bt_bits l n k i (by omega) m, show k - 1 - i = k - (i + 1) by omega]
    have e : (2 : Int) ^ (k - i) = 2 ^ (k - (i + 1)) * 2 := by rw [show k - i = (k - (i + 1)) + 1 by omega, Int.pow_succ]
    rw [e, ← Int.ediv_ediv_of_nonneg (Int.le_of_lt (Int.pow_pos (by decide)))]
    generalize n / 2 ^ (k - (i + 1)) = x
    rw [Int.pow_succ, Int.mul_comm (2 ^ i) 2]
    have hp : (0 : Int) < 2 ^ i := Int.pow_pos (by decide)
    generalize (2 : Int) ^ i = p at *
    have h1 := Int.mul_ediv_add_emod x 2
    have h2 := Int.mul_ediv_add_emod (x / 2) p
    have h3 := Int.emod_nonneg (x / 2) (show p ≠ 0 by omega)
    have h4 := Int.emod_lt_of_pos (x / 2) hp
    have h5 : x = 2 * p * (x / 2 / p) + (2 * (x / 2 % p) + x % 2) := by rw [Int.mul_assoc]; omega
    generalize x / 2 / p = q at *
    generalize x / 2 % p = r at *
    have h6 : 0 ≤ x % 2 ∧ x % 2 ≤ 1 := by omega
    generalize x % 2 = s at *
    rw [h5, Int.add_comm (2 * p * q), Int.add_mul_emod_self_left, Int.emod_eq_of_lt (by omega) (by omega)]
theorem numAt_all (l m : List Int) (n : Int) (k : Nat) (h0 : 0 ≤ n) (h1 : n < 2 ^ k) : numAt (l ++ bitsOf n k ++ m) l.length k = n := by
  rw [numAt_bits l m n k h0 k (Nat.le_refl _), Nat.sub_self, Int.pow_zero, Int.ediv_one, Int.emod_eq_of_lt h0 h1]
theorem numAt_bd {l : List Int} (h : IsBits l) (at_ : Nat) : ∀ k, 0 ≤ numAt l at_ k ∧ numAt l at_ k < 2 ^ k
  | 0 => by simp [numAt]
  | k + 1 => by
    have := numAt_bd h at_ k
    have hb := h (at_ + k)
    rw [numAt, Int.pow_succ]
    omega
end Go.Proofs.YtghfggfgndgkjaaGreatDoor
