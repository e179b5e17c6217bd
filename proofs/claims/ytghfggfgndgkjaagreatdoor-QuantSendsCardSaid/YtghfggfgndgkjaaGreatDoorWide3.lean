/- The walks of package wide: the long division bit by bit, and what is made of it. -/
import Derived.Test.YtghfggfgndgkjaaGreatDoorWide1
set_option linter.unusedVariables false
set_option linter.unusedSimpArgs false
namespace Go.Proofs.YtghfggfgndgkjaaGreatDoor
open Go.RowKit

/-- a word shifted left by one, the other's top bit behind it -/
def sh1 (x y : Int) : Int := 2 * x % 18446744073709551616 + y / 9223372036854775808
def sh0 (x : Int) : Int := 2 * x % 18446744073709551616
theorem or1 (x y : Int) (h0 : 0 ≤ y) (h1 : y ≤ 18446744073709551615) : bits .or .u64 (IntKind.u64.wrap (x * 2)) (y / 9223372036854775808) = sh1 x y := by
  have h := u64_or (IntKind.u64.wrap (x * 2)) (y / 9223372036854775808) (by rw [IntKind.wrap_u64]; omega) (by rw [IntKind.wrap_u64]; omega) (by omega) (by omega)
  rw [h, nat_join 1 _ _ (by rw [IntKind.wrap_u64]; omega) (by omega)]
  unfold sh1; rw [IntKind.wrap_u64]; omega
theorem wr1 (x : Int) : IntKind.u64.wrap (x * 2) = sh0 x := by unfold sh0; rw [IntKind.wrap_u64]; omega
theorem or1b (x : Int) : bits .or .u64 (sh0 x) 1 = sh0 x + 1 := by
  have h := u64_or (sh0 x) 1 (by unfold sh0; omega) (by unfold sh0; omega) (by omega) (by omega)
  rw [h, nat_join 1 _ _ (by unfold sh0; omega) (by decide)]
  unfold sh0; omega

/-- the three blocks of the division: the number, the quotient so far, the result's -/
def DivCells (b : Nat) (wr : World) (hh ll oh ol : Int) : Prop :=
  (wr.cell? ⟨b, 0, none⟩ = some (.int .u64 hh) ∧ wr.cell? ⟨b, 1, none⟩ = some (.int .u64 ll) ∧ wr.cell? ⟨b + 1 + 1, 0, none⟩ = some (.int .u64 oh) ∧ wr.cell? ⟨b + 1 + 1, 1, none⟩ = some (.int .u64 ol) ∧
      wr.cell? ⟨b + 1, 0, none⟩ = some (.int .u64 0) ∧ wr.cell? ⟨b + 1, 1, none⟩ = some (.int .u64 0)) ∧
      wr.frozen? ⟨b, 0, none⟩ = false ∧ wr.frozen? ⟨b, 1, none⟩ = false ∧ wr.frozen? ⟨b + 1 + 1, 0, none⟩ = false ∧ wr.frozen? ⟨b + 1 + 1, 1, none⟩ = false ∧ wr.frozen? ⟨b + 1, 0, none⟩ = false ∧ wr.frozen? ⟨b + 1, 1, none⟩ = false
theorem divCells_step (b : Nat) (wr : World) (hh ll oh ol h' l' oh' ol' : Int) (H : DivCells b wr hh ll oh ol) :
    DivCells b ((((wr.setCell ⟨b, 0, none⟩ (.int .u64 h')).setCell ⟨b, 1, none⟩ (.int .u64 l')).setCell ⟨b + 1 + 1, 0, none⟩ (.int .u64 oh')).setCell ⟨b + 1 + 1, 1, none⟩ (.int .u64 ol')) h' l' oh' ol' := by
  obtain ⟨⟨c1, c2, c3, c4, c5, c6⟩, f1, f2, f3, f4, f5, f6⟩ := H
  refine ⟨⟨?_, ?_, ?_, ?_, ?_, ?_⟩, ?_, ?_, ?_, ?_, ?_, ?_⟩
  all_goals simp [go_sem, c1, c2, c3, c4, c5, c6, f1, f2, f3, f4, f5, f6]
theorem divCells_last (b : Nat) (wr : World) (hh ll oh ol ol' : Int) (H : DivCells b wr hh ll oh ol) : DivCells b (wr.setCell ⟨b + 1 + 1, 1, none⟩ (.int .u64 ol')) hh ll oh ol' := by
  obtain ⟨⟨c1, c2, c3, c4, c5, c6⟩, f1, f2, f3, f4, f5, f6⟩ := H
  refine ⟨⟨?_, ?_, ?_, ?_, ?_, ?_⟩, ?_, ?_, ?_, ?_, ?_, ?_⟩
  all_goals simp [go_sem, c1, c2, c3, c4, c5, c6, f1, f2, f3, f4, f5, f6]

set_option maxRecDepth 100000 in
set_option maxHeartbeats 1000000 in
theorem divide_any (h l d : Int) (h0 : 0 ≤ h) (h1 : h ≤ 18446744073709551615) (l0 : 0 ≤ l) (l1 : l ≤ 18446744073709551615) (d0 : 0 < d) (d1 : d ≤ 18446744073709551615) (w : World) :
    Calls Tryz.prog 107 #[.agg #[.int .u64 h, .int .u64 l], .int .u64 d] w fun e w' => e = .returned (.tuple #[.agg #[.int .u64 (dvh h l d), .int .u64 (dvl h l d)], .int .u64 (dvr h l d)]) ∧ Below w.heap.size w w' := by
  have hst := divInv_start (h * 18446744073709551616 + l) d h l ⟨h0, by omega⟩ ⟨l0, by omega⟩ (by omega) rfl
  go_enter Tryz.func107, Tryz.ntmps107
  go_wp2
  go_loopw [7, 9] (fun v7 v9 wr => ∃ (k : Nat) (hh ll oh ol r : Int), k ≤ 128 ∧ v9 = .int .i64 k ∧ v7 = .int .u64 r ∧ DivInv (h * 18446744073709551616 + l) d k hh ll oh ol r ∧ DivCells w.heap.size wr hh ll oh ol ∧ Below w.heap.size w wr) (fun _ v9 _ => 128 - (intOf v9).toNat)
  case atStart =>
    exact ⟨0, h, l, 0, 0, 0, by omega, rfl, rfl, hst, by unfold DivCells; simp [go_sem], by go_grown⟩
  case round =>
    obtain ⟨k, hh, ll, oh, ol, r, hk, rfl, rfl, hI, hC, hB⟩ := hrel
    have hI2 := hI
    obtain ⟨⟨a1, a2⟩, ⟨b1, b2⟩, ⟨p1, p2⟩, ⟨q1, q2⟩, r1, r2, -⟩ := hI2
    have HI := Lib.hid hI
    clear hI hst
    have hC2 := hC
    obtain ⟨⟨c1, c2, c3, c4, c5, c6⟩, f1, f2, f3, f4, f5, f6⟩ := hC2
    have HC := Lib.hid hC
    clear hC
    have ea := or1 r hh a1 (by omega)
    have eb := or1 hh ll b1 (by omega)
    have ec := or1 oh ol q1 (by omega)
    have ed := wr1 ll
    have ee := wr1 ol
    have ef := or1b ol
    by_cases hlt : k < 128
    · by_cases g1 : (r / 9223372036854775808 == 1) = true
      · have g2 : r / 9223372036854775808 = 1 := by simpa using g1
        have hs : IntKind.u64.wrap (sh1 r hh - d) = 2 * r + hh / 9223372036854775808 - d := by unfold sh1; rw [IntKind.wrap_u64]; omega
        have HS := Lib.hid hs
        have G2 := Lib.hid g2
        clear hs g2
        go_wp2
        go_roundw
        case rel => exact ⟨k + 1, sh1 hh ll, sh0 ll, sh1 oh ol, sh0 ol + 1, IntKind.u64.wrap (sh1 r hh - d), by omega, by go_num, rfl, divInv_step _ d k hh ll oh ol r hlt (by omega) HI.out _ _ _ _ _ rfl rfl rfl (.inr ⟨by have := G2.out; omega, rfl, HS.out⟩), divCells_last _ _ _ _ _ _ _ (divCells_step _ _ _ _ _ _ _ _ _ _ HC.out), by go_grown⟩
        case measure => simp [intOf]; omega
      · have g2 : (r / 9223372036854775808 == 1) = false := by simpa using g1
        have g3 : ¬ r / 9223372036854775808 = 1 := by simpa using g1
        have hs : sh1 r hh = 2 * r + hh / 9223372036854775808 := by unfold sh1; omega
        have hs0 : 0 ≤ sh1 r hh := by omega
        have hs1 : sh1 r hh ≤ 18446744073709551615 := by omega
        have HS := Lib.hid hs
        clear hs g1 g3
        by_cases g4 : d ≤ sh1 r hh
        · have hs2 : sh1 r hh - d ≤ 18446744073709551615 := by omega
          go_wp2
          go_roundw
          case rel => exact ⟨k + 1, sh1 hh ll, sh0 ll, sh1 oh ol, sh0 ol + 1, sh1 r hh - d, by omega, by go_num, rfl, divInv_step _ d k hh ll oh ol r hlt (by omega) HI.out _ _ _ _ _ rfl rfl rfl (.inr ⟨by have := HS.out; omega, rfl, by have := HS.out; omega⟩), divCells_last _ _ _ _ _ _ _ (divCells_step _ _ _ _ _ _ _ _ _ _ HC.out), by go_grown⟩
          case measure => simp [intOf]; omega
        · have g5 : sh1 r hh < d := by omega
          go_wp2
          go_roundw
          case rel => exact ⟨k + 1, sh1 hh ll, sh0 ll, sh1 oh ol, sh0 ol, sh1 r hh, by omega, by go_num, rfl, divInv_step _ d k hh ll oh ol r hlt (by omega) HI.out _ _ _ _ _ rfl rfl rfl (.inl ⟨by have := HS.out; omega, rfl, HS.out⟩), divCells_step _ _ _ _ _ _ _ _ _ _ HC.out, by go_grown⟩
          case measure => simp [intOf]; omega
    · have hk' : k = 128 := by omega
      subst hk'
      go_wp2
      have hE := divInv_end _ d hh ll oh ol r (by omega) HI.out
      refine bodyPost_ret (v := .tuple #[.agg #[.int .u64 oh, .int .u64 ol], .int .u64 r]) (by simp [results, Tryz.results107, go_sem, c5, c6]; try rfl) rfl ?_
      obtain ⟨-, e1, e2, e3⟩ := hE
      exact ⟨by rw [e1, e2, e3]; rfl, by go_grown⟩
end Go.Proofs.YtghfggfgndgkjaaGreatDoor
