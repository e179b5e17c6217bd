/- The walk of package wide: the root bit by bit. -/
import Derived.Test.YtghfggfgndgkjaaGreatDoorWide2
set_option linter.unusedVariables false
set_option linter.unusedSimpArgs false
namespace Go.Proofs.YtghfggfgndgkjaaGreatDoor
open Go.RowKit

theorem or_bit (r p : Int) (i : Nat) (hi : i < 64) (hp : p = 2 ^ (63 - i)) (h0 : 0 ≤ r) (h1 : r + 2 * p ≤ 18446744073709551616) (h2 : r % (2 * p) = 0) (hpp : 0 < p) : bits .or .u64 r p = r + p := by
  have h := u64_or r p h0 (by omega) (by omega) (by omega)
  have hpn : p.toNat = 2 ^ (63 - i) := by
    rw [hp]
    have : ((2 : Int) ^ (63 - i)) = ((2 ^ (63 - i) : Nat) : Int) := by simp
    rw [this, Int.toNat_natCast]
  rw [h, nat_join (63 - i + 1) _ _ ?_ ?_]
  · omega
  · have e : (2 : Nat) ^ (63 - i + 1) = (2 * p).toNat := by rw [Nat.pow_succ]; omega
    rw [e]
    have : ((r.toNat % (2 * p).toNat : Nat) : Int) = r % (2 * p) := by rw [Int.natCast_emod, Int.toNat_of_nonneg h0, Int.toNat_of_nonneg (by omega)]
    omega
  · rw [hpn]; exact Nat.pow_lt_pow_right (by decide) (by omega)

theorem below_after {w V W w1 : World} (h : Below w.heap.size w V) (h0 : Below V.heap.size V W) (hb : Below W.heap.size W w1) : Below w.heap.size w w1 :=
  (h.trans (h0.mono h.size)).trans (hb.mono (Nat.le_trans h.size h0.size))
theorem below_two {w w1 w2 : World} (h : Below w.heap.size w w1) (hb : Below w1.heap.size w1 w2) : Below w.heap.size w w2 := h.trans (hb.mono h.size)

end Go.Proofs.YtghfggfgndgkjaaGreatDoor
