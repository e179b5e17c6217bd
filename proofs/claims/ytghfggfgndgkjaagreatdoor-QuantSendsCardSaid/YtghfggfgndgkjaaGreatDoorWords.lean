/- Numbers of 128 bits and a sign, as two words and a bool; the small functions' results under names. No program in sight. -/
import Derived.Calls
import Derived.Test.YtghfggfgndgkjaaGreatDoorPlain
set_option linter.unusedVariables false
set_option linter.unusedSimpArgs false
namespace Go.Proofs.YtghfggfgndgkjaaGreatDoor
open Go

def hiw (z : Int) : Int := (z.natAbs : Int) / 18446744073709551616
def low (z : Int) : Int := (z.natAbs : Int) % 18446744073709551616
def ngw (z : Int) : Bool := decide (z < 0)
abbrev W (z : Int) : Value := .agg #[.int .u64 (hiw z), .int .u64 (low z), .bool (ngw z)]

theorem hiw_nonneg (z : Int) : 0 ≤ hiw z := by unfold hiw; omega
theorem low_nonneg (z : Int) : 0 ≤ low z := by unfold low; omega
theorem low_le (z : Int) : low z ≤ 18446744073709551615 := by unfold low; omega
theorem hiw_le (z : Int) (h1 : -340282366920938463463374607431768211456 < z) (h2 : z < 340282366920938463463374607431768211456) : hiw z ≤ 18446744073709551615 := by unfold hiw; omega
theorem hilo (z : Int) : hiw z * 18446744073709551616 + low z = (z.natAbs : Int) := by unfold hiw low; omega
theorem hilo_pos (z : Int) (h : 0 ≤ z) : hiw z * 18446744073709551616 + low z = z := by rw [hilo]; omega
theorem low_small (z : Int) (h1 : -18446744073709551616 < z) (h2 : z < 18446744073709551616) : low z = (z.natAbs : Int) := by unfold low; omega
theorem hiw_small (z : Int) (h1 : -18446744073709551616 < z) (h2 : z < 18446744073709551616) : hiw z = 0 := by unfold hiw; omega
theorem W_mk {h l z : Int} {b : Bool} (hz : h * 18446744073709551616 + l = (z.natAbs : Int)) (h0 : 0 ≤ l) (h1 : l < 18446744073709551616) (hb : b = decide (z < 0)) :
    Value.agg #[.int .u64 h, .int .u64 l, .bool b] = W z := by
  have e1 : h = hiw z := by unfold hiw; omega
  have e2 : l = low z := by unfold low; omega
  rw [e1, e2, hb]; rfl
theorem ret_W {h l z : Int} {b : Bool} (hz : h * 18446744073709551616 + l = (z.natAbs : Int)) (h0 : 0 ≤ l) (h1 : l < 18446744073709551616) (hb : b = decide (z < 0)) :
    Ending.returned (.agg #[.int .u64 h, .int .u64 l, .bool b]) = .returned (W z) := by rw [W_mk hz h0 h1 hb]

/-- the sign that 'made' keeps -/
def nz (n : Bool) (h l : Int) : Bool := n && !(h == 0 && l == 0)
theorem nz_eq (n : Bool) (h l z : Int) (hz : h * 18446744073709551616 + l = (z.natAbs : Int)) (h0 : 0 ≤ l) (h1 : l < 18446744073709551616) (hn : z ≠ 0 → n = decide (z < 0)) : nz n h l = decide (z < 0) := by
  unfold nz
  by_cases e : z = 0
  · subst e
    have : h = 0 ∧ l = 0 := by omega
    simp [this.1, this.2]
  · rw [hn e]
    have : ¬ (h = 0 ∧ l = 0) := by omega
    have h2 : (h == 0 && l == 0) = false := by
      rw [Bool.eq_false_iff]; intro h3; simp at h3; exact this h3
    rw [h2]; simp
theorem ret_made {h l z : Int} {n : Bool} (hz : h * 18446744073709551616 + l = (z.natAbs : Int)) (h0 : 0 ≤ l) (h1 : l < 18446744073709551616) (hn : z ≠ 0 → n = decide (z < 0)) :
    Ending.returned (.agg #[.int .u64 h, .int .u64 l, .bool (nz n h l)]) = .returned (W z) := ret_W hz h0 h1 (nz_eq n h l z hz h0 h1 hn)

theorem made_neg_eq {h l q : Int} (hq : h * 18446744073709551616 + l = q) (h0 : 0 ≤ l) (h1 : l < 18446744073709551616) (q0 : 0 ≤ q) :
    Value.agg #[.int .u64 h, .int .u64 l, .bool (nz true h l)] = W (-q) := by
  rw [nz_eq true h l (-q) (by omega) h0 h1 (fun h => by simp; omega)]
  exact W_mk (by omega) h0 h1 rfl
theorem made_pos_eq {h l q : Int} (hq : h * 18446744073709551616 + l = q) (h0 : 0 ≤ l) (h1 : l < 18446744073709551616) (q0 : 0 ≤ q) :
    Value.agg #[.int .u64 h, .int .u64 l, .bool (nz false h l)] = W q := by
  rw [nz_eq false h l q (by omega) h0 h1 (fun h => by simp; omega)]
  exact W_mk (by omega) h0 h1 rfl
theorem made_sgn_eq {h l q z : Int} {n : Bool} (hq : h * 18446744073709551616 + l = q) (h0 : 0 ≤ l) (h1 : l < 18446744073709551616) (q0 : 0 ≤ q) (hz : (n = false → z = q) ∧ (n = true → z = -q)) :
    Value.agg #[.int .u64 h, .int .u64 l, .bool (nz n h l)] = W z := by
  cases n
  · rw [hz.1 rfl]; exact made_pos_eq hq h0 h1 q0
  · rw [hz.2 rfl]; exact made_neg_eq hq h0 h1 q0

def tmh (a b : Int) : Int := a * b / 18446744073709551616
def tml (a b : Int) : Int := a * b % 18446744073709551616
theorem tm_eq (a b : Int) : tmh a b * 18446744073709551616 + tml a b = a * b := by unfold tmh tml; omega
theorem tml_nonneg (a b : Int) : 0 ≤ tml a b := by unfold tml; omega
theorem tml_le (a b : Int) : tml a b ≤ 18446744073709551615 := by unfold tml; omega
theorem tmh_nonneg (a b : Int) (ha : 0 ≤ a) (hb : 0 ≤ b) : 0 ≤ tmh a b := by unfold tmh; exact Int.ediv_nonneg (Int.mul_nonneg ha hb) (by decide)
theorem tmh_le (a b : Int) (ha : 0 ≤ a) (ha' : a ≤ 18446744073709551615) (hb : 0 ≤ b) (hb' : b ≤ 18446744073709551615) : tmh a b ≤ 18446744073709551615 := by
  have := times_parts a b ha (by omega) hb (by omega)
  dsimp only at this
  unfold tmh; omega

def ltw (h l h' l' : Int) : Bool := decide (h * 18446744073709551616 + l < h' * 18446744073709551616 + l')
def plh (h l h' l' : Int) : Int := (h * 18446744073709551616 + l + (h' * 18446744073709551616 + l')) % 340282366920938463463374607431768211456 / 18446744073709551616
def pll (l l' : Int) : Int := (l + l') % 18446744073709551616
def mih (h l h' l' : Int) : Int := (h * 18446744073709551616 + l - (h' * 18446744073709551616 + l')) % 340282366920938463463374607431768211456 / 18446744073709551616
def mil (l l' : Int) : Int := (l - l') % 18446744073709551616
theorem pll_bd (l l' : Int) : 0 ≤ pll l l' ∧ pll l l' ≤ 18446744073709551615 := by unfold pll; omega
theorem mil_bd (l l' : Int) : 0 ≤ mil l l' ∧ mil l l' ≤ 18446744073709551615 := by unfold mil; omega
theorem pl_eq (h l h' l' : Int) (hl : 0 ≤ h * 18446744073709551616 + l + (h' * 18446744073709551616 + l')) (hu : h * 18446744073709551616 + l + (h' * 18446744073709551616 + l') < 340282366920938463463374607431768211456) :
    plh h l h' l' * 18446744073709551616 + pll l l' = h * 18446744073709551616 + l + (h' * 18446744073709551616 + l') := by unfold plh pll; omega
theorem mi_eq (h l h' l' : Int) (hl : 0 ≤ h * 18446744073709551616 + l - (h' * 18446744073709551616 + l')) (hu : h * 18446744073709551616 + l - (h' * 18446744073709551616 + l') < 340282366920938463463374607431768211456) :
    mih h l h' l' * 18446744073709551616 + mil l l' = h * 18446744073709551616 + l - (h' * 18446744073709551616 + l') := by unfold mih mil; omega

def dvq (h l d : Int) : Int := (h * 18446744073709551616 + l) / d
def dvh (h l d : Int) : Int := dvq h l d / 18446744073709551616
def dvl (h l d : Int) : Int := dvq h l d % 18446744073709551616
def dvr (h l d : Int) : Int := (h * 18446744073709551616 + l) % d
theorem dvl_bd (h l d : Int) : 0 ≤ dvl h l d ∧ dvl h l d ≤ 18446744073709551615 := by unfold dvl; omega
theorem dv_eq (h l d : Int) : dvh h l d * 18446744073709551616 + dvl h l d = (h * 18446744073709551616 + l) / d := by unfold dvh dvl dvq; omega
theorem dvr_bd (h l d : Int) (hd : 0 < d) : 0 ≤ dvr h l d ∧ dvr h l d < d := ⟨Int.emod_nonneg _ (by omega), Int.emod_lt_of_pos _ hd⟩
def rtw (h l : Int) : Int := rt (h * 18446744073709551616 + l)

/-- an int, as it is cut -/
def sat (z : Int) : Int := if z < -9223372036854775808 then -9223372036854775808 else if 9223372036854775807 < z then 9223372036854775807 else z
theorem sat_bd (z : Int) : -9223372036854775808 ≤ sat z ∧ sat z ≤ 9223372036854775807 := by unfold sat; omega
theorem sat_in (z : Int) (h1 : -9223372036854775808 ≤ z) (h2 : z ≤ 9223372036854775807) : sat z = z := by unfold sat; omega
theorem sat_mono (x y : Int) (h : x ≤ y) : sat x ≤ sat y := by unfold sat; omega

/-- the quotient, rounded down; and its remainder -/
def fl (a b : Int) : Int := if 0 < b then a / b else (-a) / (-b)
def fr (a b : Int) : Int := if 0 < b then a % b else (-a) % (-b)
theorem fl_spec (a b : Int) (hb : b ≠ 0) : (0 < b → fl a b * b + fr a b = a) ∧ (b < 0 → fl a b * (-b) + fr a b = -a) ∧ 0 ≤ fr a b ∧ fr a b < (b.natAbs : Int) := by
  unfold fl fr
  by_cases h : 0 < b
  · rw [if_pos h, if_pos h]
    have h1 := Int.mul_ediv_add_emod a b
    have h2 := Int.emod_nonneg a hb
    have h3 := Int.emod_lt_of_pos a h
    refine ⟨fun _ => by rw [Int.mul_comm]; exact h1, fun h' => by omega, h2, by omega⟩
  · rw [if_neg h, if_neg h]
    have h1 := Int.mul_ediv_add_emod (-a) (-b)
    have h2 := Int.emod_nonneg (-a) (b := -b) (by omega)
    have h3 := Int.emod_lt_of_pos (-a) (b := -b) (by omega)
    refine ⟨fun h' => by omega, fun _ => by rw [Int.mul_comm]; exact h1, h2, by omega⟩
theorem div_unique {a b q r : Int} (h : q * b + r = a) (h0 : 0 ≤ r) (h1 : r < b) : a / b = q ∧ a % b = r := by
  have hb : 0 < b := by omega
  subst h
  constructor
  · rw [Int.add_comm, Int.add_mul_ediv_right _ _ (by omega), Int.ediv_eq_zero_of_lt h0 h1]; omega
  · rw [Int.add_comm, Int.add_mul_emod_self_right, Int.emod_eq_of_lt h0 h1]
theorem fl_unique {a b q r : Int} (hb : b ≠ 0) (hp : 0 < b → q * b + r = a) (hn : b < 0 → q * (-b) + r = -a) (h0 : 0 ≤ r) (h1 : r < (b.natAbs : Int)) : fl a b = q ∧ fr a b = r := by
  unfold fl fr
  by_cases h : 0 < b
  · rw [if_pos h, if_pos h]; exact div_unique (hp h) h0 (by omega)
  · rw [if_neg h, if_neg h]; exact div_unique (hn (by omega)) h0 (by omega)
theorem fl_nat (a b : Int) (hb : b ≠ 0) :
    (((0 ≤ a ∧ 0 < b) ∨ (a ≤ 0 ∧ b < 0)) → fl a b = (a.natAbs : Int) / (b.natAbs : Int) ∧ fr a b = (a.natAbs : Int) % (b.natAbs : Int)) ∧
    (((0 ≤ a ∧ b < 0) ∨ (a ≤ 0 ∧ 0 < b)) → (a.natAbs : Int) % (b.natAbs : Int) = 0 → fl a b = -((a.natAbs : Int) / (b.natAbs : Int)) ∧ fr a b = 0) ∧
    (((0 ≤ a ∧ b < 0) ∨ (a ≤ 0 ∧ 0 < b)) → (a.natAbs : Int) % (b.natAbs : Int) ≠ 0 → fl a b = -((a.natAbs : Int) / (b.natAbs : Int) + 1) ∧ fr a b = (b.natAbs : Int) - (a.natAbs : Int) % (b.natAbs : Int)) := by
  have h1 := Int.mul_ediv_add_emod (a.natAbs : Int) (b.natAbs : Int)
  have h2 := Int.emod_nonneg (a.natAbs : Int) (b := (b.natAbs : Int)) (by omega)
  have h3 := Int.emod_lt_of_pos (a.natAbs : Int) (b := (b.natAbs : Int)) (by omega)
  generalize (a.natAbs : Int) / (b.natAbs : Int) = q at *
  generalize (a.natAbs : Int) % (b.natAbs : Int) = r at *
  rw [Int.mul_comm] at h1
  refine ⟨fun hs => fl_unique hb (fun hp => ?_) (fun hn => ?_) h2 h3, fun hs hr => fl_unique hb (fun hp => ?_) (fun hn => ?_) (by omega) (by omega), fun hs hr => fl_unique hb (fun hp => ?_) (fun hn => ?_) (by omega) (by omega)⟩
  · rw [show (b.natAbs : Int) = b by omega] at h1; omega
  · rw [show (b.natAbs : Int) = -b by omega] at h1; omega
  · rw [show (b.natAbs : Int) = b by omega] at h1; rw [Int.neg_mul]; omega
  · rw [show (b.natAbs : Int) = -b by omega] at h1; rw [Int.neg_mul]; omega
  · rw [show (b.natAbs : Int) = b by omega] at h1 ⊢; rw [Int.neg_mul, Int.add_mul, Int.one_mul]; omega
  · rw [show (b.natAbs : Int) = -b by omega] at h1 ⊢; rw [Int.neg_mul, Int.add_mul, Int.one_mul]; omega
end Go.Proofs.YtghfggfgndgkjaaGreatDoor
