/- math/big: words of a natural number: make, setWord, norm, mulAddVWW. -/
import Derived.Test.YtghfggfgndgkjaaGreatDoorBigW2
import Derived.Test.YtghfggfgndgkjaaGreatDoorReg3
import Derived.Test.YtghfggfgndgkjaaGreatDoorBlk
import Derived.LoopN
set_option linter.unusedVariables false
set_option linter.unusedSimpArgs false
namespace Go.Proofs.YtghfggfgndgkjaaGreatDoor
open Go.RowKit
set_option maxRecDepth 100000
attribute [local go_sem] opLow opUpon opLow2 opUpon2

/-- the block of words of a natural number: two words and a rest -/
abbrev W6 (a b c d e f : Nat) : Array Value := #[.int .u64 a, .int .u64 b, .int .u64 c, .int .u64 d, .int .u64 e, .int .u64 f]
theorem run_make1 : ∀ w : World, (Instr.makeSlice 144 (.int .i64 1) (.int .i64 1)).run Tryz.prog w = .ok (.slice (some ⟨w.heap.size, 0, none⟩) 1 1) (w.alloc (.cells #[.int .u64 0] 171)) := by
  intro w
  kernel_rfl
theorem run_make2 : ∀ w : World, (Instr.makeSlice 144 (.int .i64 2) (.int .i64 6)).run Tryz.prog w = .ok (.slice (some ⟨w.heap.size, 0, none⟩) 2 6) (w.alloc (.cells (W6 0 0 0 0 0 0) 171)) := by
  intro w
  kernel_rfl
theorem make_one (w : World) :
    Calls Tryz.prog 132 #[.slice none 0 0, .int .i64 1] w fun e w' => e = .returned (.slice (some ⟨w.heap.size, 0, none⟩) 1 1) ∧ Bk w' w.heap.size #[.int .u64 0] 171 ∧ Below w.heap.size w w' := by
  have hm := run_make1
  go_enter Tryz.func132, Tryz.ntmps132
  go_wp2
  go_returns
  exact ⟨rfl, Bk.made _ _ _, by go_grown⟩
theorem make_two (w : World) :
    Calls Tryz.prog 132 #[.slice none 0 0, .int .i64 2] w fun e w' => e = .returned (.slice (some ⟨w.heap.size, 0, none⟩) 2 6) ∧ Bk w' w.heap.size (W6 0 0 0 0 0 0) 171 ∧ Below w.heap.size w w' := by
  have hm := run_make2
  go_enter Tryz.func132, Tryz.ntmps132
  go_wp2
  go_returns
  exact ⟨rfl, Bk.made _ _ _, by go_grown⟩
theorem make_re (b n k c : Nat) (hk : k ≤ c) (hc : c ≤ 6) (w : World) :
    Calls Tryz.prog 132 #[.slice (some ⟨b, 0, none⟩) n c, .int .i64 k] w fun e w' => e = .returned (.slice (some ⟨b, 0, none⟩) k c) ∧ Below w.heap.size w w' := by
  have d1 : decide ((k : Int) ≤ (c : Int)) = true := decide_eq_true (by omega)
  go_enter Tryz.func132, Tryz.ntmps132
  go_wp2
  go_returns
  exact ⟨rfl, by go_grown⟩
/-- how many words are left without the noughts at the end -/
def nrm (L : Nat → Nat) : Nat → Nat
  | 0 => 0
  | k + 1 => if L k = 0 then nrm L k else k + 1
theorem nrm_le (L : Nat → Nat) : ∀ k, nrm L k ≤ k
  | 0 => Nat.le_refl _
  | k + 1 => by
    unfold nrm
    split
    · have := nrm_le L k; omega
    · omega
set_option maxHeartbeats 4000000 in
theorem norm_any (b k c : Nat) (L : Nat → Nat) (hk : k ≤ c) (hc : c ≤ 100) (w : World) (h : ∀ j, j < k → w.cell? ⟨b, j, none⟩ = some (.int .u64 (L j))) :
    Calls Tryz.prog 135 #[.slice (some ⟨b, 0, none⟩) k c] w fun e w' => e = .returned (.slice (some ⟨b, 0, none⟩) (nrm L k) c) ∧ Below w.heap.size w w' := by
  obtain ⟨n, hn⟩ : ∃ n, nrm L k = n := ⟨_, rfl⟩
  have HN := Lib.hid hn
  have HC := Lib.hid h
  have hnk : n ≤ k := by rw [← hn]; exact nrm_le L k
  rw [hn]
  clear hn h
  go_enter Tryz.func135, Tryz.ntmps135
  go_wp2
  go_loopw [3] (fun v3 wr => ∃ i : Nat, i ≤ k ∧ v3 = .int .i64 i ∧ Hid (nrm L i = n) ∧ w = wr) (fun v3 _ => (intOf v3).toNat)
  case atStart => exact ⟨k, Nat.le_refl _, rfl, HN, rfl⟩
  case round =>
    obtain ⟨i, hi, rfl, HI, rfl⟩ := hrel
    cases i with
    | zero =>
      have h0 : 0 = n := HI.out
      subst h0
      go_wp2
      go_returns
      exact ⟨rfl, Below.refl _ _⟩
    | succ i =>
      have hcell := HC.out i (by omega)
      have hnr := HI.out
      unfold nrm at hnr
      obtain ⟨x, hx⟩ : ∃ x, L i = x := ⟨_, rfl⟩
      rw [hx] at hcell hnr
      have z1 : ((i + 1 : Nat) : Int) = (i : Int) + 1 := by omega
      have z2 : decide ((0 : Int) < (i : Int) + 1) = true := decide_eq_true (by omega)
      have z3 : IntKind.i64.wrap ((i : Int) + 1 - 1) = (i : Int) := by rw [IntKind.wrap_i64]; omega
      have z4 : (0 : Int) ≤ (i : Int) := by omega
      have z5 : (i : Int) < (k : Int) := by omega
      have z6 : i < k := by omega
      by_cases h0 : x = 0
      · subst h0
        rw [if_pos rfl] at hnr
        have HI2 := Lib.hid hnr
        clear hnr hx
        go_wp2
        go_roundw
        case rel => exact ⟨i, by omega, by first | rfl | trivial | simp, HI2, by first | rfl | trivial⟩
        case measure => simp [intOf]
      · rw [if_neg h0] at hnr
        subst hnr
        have h1 : (x == 0) = false := by simpa using h0
        have h2 : ((x : Int) == 0) = false := by simpa using h0
        clear hx
        go_wp2
        go_returns
        exact ⟨rfl, Below.refl _ _⟩
theorem muladdW (x y c : Nat) (hx : x < 18446744073709551616) (hy : y < 18446744073709551616) (hc : c < 18446744073709551616) (w : World) :
    Calls Tryz.prog 167 #[.int .u64 x, .int .u64 y, .int .u64 c] w fun e w' => e = .returned (.tuple #[.int .u64 ((x * y + c) / 18446744073709551616 : Nat), .int .u64 ((x * y + c) % 18446744073709551616 : Nat)]) ∧ w' = w := by
  have HM := Lib.hid (fun V => big_Mul x y hx hy V)
  have hp : x * y ≤ 18446744073709551615 * 18446744073709551615 := Nat.mul_le_mul (by omega) (by omega)
  obtain ⟨p, hpe⟩ : ∃ k, x * y = k := ⟨_, rfl⟩
  rw [hpe] at hp HM ⊢
  obtain ⟨H, hH⟩ : ∃ k, p / 18446744073709551616 = k := ⟨_, rfl⟩
  obtain ⟨L, hL⟩ : ∃ k, p % 18446744073709551616 = k := ⟨_, rfl⟩
  rw [hH, hL] at HM
  have HA := Lib.hid (fun V => big_Add L c 0 (by omega) V)
  have e1 : (L + c + 0) % 18446744073709551616 = (p + c) % 18446744073709551616 := by omega
  have e2 : H + (L + c + 0) / 18446744073709551616 = (p + c) / 18446744073709551616 := by omega
  obtain ⟨R, hR⟩ : ∃ k, (p + c) % 18446744073709551616 = k := ⟨_, rfl⟩
  obtain ⟨Q, hQ⟩ : ∃ k, (p + c) / 18446744073709551616 = k := ⟨_, rfl⟩
  obtain ⟨K, hK⟩ : ∃ k, (L + c + 0) / 18446744073709551616 = k := ⟨_, rfl⟩
  rw [e1, hR, hK, show ((0 : Nat) : Int) = 0 from rfl] at HA
  rw [hR, hQ]
  rw [hK, hQ] at e2
  have w1 : IntKind.u64.wrap ((H : Int) + (K : Int)) = (Q : Int) := by rw [IntKind.wrap_u64]; omega
  clear hp hpe hH hL e1 e2 hR hQ hK hx hy hc
  go_enter Tryz.func167, Tryz.ntmps167
  go_wp2_with fail
  refine (HM.out _).mono ?_
  rintro e V1 ⟨rfl, rfl⟩
  go_wp2_with fail
  refine (HA.out _).mono ?_
  rintro e V2 ⟨rfl, rfl⟩
  go_wp2
  go_returns
  exact ⟨rfl, rfl⟩
theorem W6.put0 {w : World} {g a b c d e f : Nat} (h : Bk w g (W6 a b c d e f) 171) (x : Nat) : Bk (w.setCell ⟨g, 0, none⟩ (.int .u64 x)) g (W6 x b c d e f) 171 := h.put 0 _
theorem W6.put1 {w : World} {g a b c d e f : Nat} (h : Bk w g (W6 a b c d e f) 171) (x : Nat) : Bk (w.setCell ⟨g, 1, none⟩ (.int .u64 x)) g (W6 a x c d e f) 171 := h.put 1 _
theorem W6.put2 {w : World} {g a b c d e f : Nat} (h : Bk w g (W6 a b c d e f) 171) (x : Nat) : Bk (w.setCell ⟨g, 2, none⟩ (.int .u64 x)) g (W6 a b x d e f) 171 := h.put 2 _
theorem Mut.put {U : Nat → Prop} {w v : World} (h : Mut U w v) {p : Addr} (hp : U p.block ∨ w.heap.size ≤ p.block) (u : Value) : Mut U w (v.setCell p u) := by
  refine ⟨h.os, h.tape, h.output, by simpa using h.size, fun b hb hU => ?_⟩
  rw [Below.heap_setCell v p u b (by rintro rfl; rcases hp with h | h; exact hU h; omega)]
  exact h.block b hb hU
theorem mut_set (w : World) (g i : Nat) (v : Value) : Mut (fun b => b = g) w (w.setCell ⟨g, i, none⟩ v) := (Mut.refl (fun b => b = g) w).put (p := ⟨g, i, none⟩) (.inl rfl) v
set_option maxHeartbeats 4000000 in
theorem vww1 (bz bx c2 x y r a b c d e f : Nat) (hx : x < 18446744073709551616) (hy : y < 18446744073709551616) (hr : r < 18446744073709551616) (w : World) (hz : Bk w bz (W6 a b c d e f) 171) (hc : w.cell? ⟨bx, 0, none⟩ = some (.int .u64 x)) :
    Calls Tryz.prog 118 #[.slice (some ⟨bz, 0, none⟩) 1 6, .slice (some ⟨bx, 0, none⟩) 1 c2, .int .u64 y, .int .u64 r] w fun e' w' => e' = .returned (.int .u64 ((x * y + r) / 18446744073709551616 : Nat)) ∧ Bk w' bz (W6 ((x * y + r) % 18446744073709551616) b c d e f) 171 ∧ Mut (fun b => b = bz) w w' := by
  have HM := Lib.hid (fun V => muladdW x y r hx hy hr V)
  obtain ⟨Q, hQ⟩ : ∃ k, (x * y + r) / 18446744073709551616 = k := ⟨_, rfl⟩
  obtain ⟨R, hR⟩ : ∃ k, (x * y + r) % 18446744073709551616 = k := ⟨_, rfl⟩
  rw [hQ, hR] at HM ⊢
  clear hQ hR hx hy hr
  have k0 := hz.cell (v := .int .u64 a) 0 rfl
  have kf := hz.free 0
  have kl := hz.lt
  have HX := Lib.hid (And.intro (W6.put0 hz R) (mut_set w bz 0 (.int .u64 R)))
  clear hz
  go_enter Tryz.func118, Tryz.ntmps118
  go_wp2
  refine wp_loop_rounds 2 ?_
  rw [rounds_succ]
  go_wp2_with fail
  refine (HM.out _).mono ?_
  rintro e' V1 ⟨rfl, rfl⟩
  go_wp2
  rw [rounds_succ]
  go_wp2
  go_returns
  exact ⟨rfl, HX.out.1, HX.out.2⟩
set_option maxHeartbeats 4000000 in
theorem vww2 (bz y r a b c d e f : Nat) (ha : a < 18446744073709551616) (hb : b < 18446744073709551616) (hy : y < 18446744073709551616) (hr : r < 18446744073709551616) (w : World) (hz : Bk w bz (W6 a b c d e f) 171) :
    Calls Tryz.prog 118 #[.slice (some ⟨bz, 0, none⟩) 2 6, .slice (some ⟨bz, 0, none⟩) 2 6, .int .u64 y, .int .u64 r] w fun e' w' => e' = .returned (.int .u64 ((b * y + (a * y + r) / 18446744073709551616) / 18446744073709551616 : Nat)) ∧ Bk w' bz (W6 ((a * y + r) % 18446744073709551616) ((b * y + (a * y + r) / 18446744073709551616) % 18446744073709551616) c d e f) 171 ∧ Mut (fun b => b = bz) w w' := by
  have HM := Lib.hid (fun V => muladdW a y r ha hy hr V)
  have hq : (a * y + r) / 18446744073709551616 < 18446744073709551616 := by
    have hp : a * y ≤ 18446744073709551615 * 18446744073709551615 := Nat.mul_le_mul (by omega) (by omega)
    obtain ⟨p, hpe⟩ : ∃ k, a * y = k := ⟨_, rfl⟩
    rw [hpe] at hp ⊢
    omega
  obtain ⟨Q, hQ⟩ : ∃ k, (a * y + r) / 18446744073709551616 = k := ⟨_, rfl⟩
  obtain ⟨R, hR⟩ : ∃ k, (a * y + r) % 18446744073709551616 = k := ⟨_, rfl⟩
  rw [hQ] at hq
  rw [hQ, hR] at HM ⊢
  have HM2 := Lib.hid (fun V => muladdW b y Q hb hy hq V)
  obtain ⟨Q2, hQ2⟩ : ∃ k, (b * y + Q) / 18446744073709551616 = k := ⟨_, rfl⟩
  obtain ⟨R2, hR2⟩ : ∃ k, (b * y + Q) % 18446744073709551616 = k := ⟨_, rfl⟩
  rw [hQ2, hR2] at HM2 ⊢
  clear hQ hR hQ2 hR2 ha hb hy hr hq
  have k0 := hz.cell (v := .int .u64 a) 0 rfl
  have k1 := hz.cell (v := .int .u64 b) 1 rfl
  have kf := hz.free 0
  have kf1 := hz.free 1
  have kl := hz.lt
  have HX := Lib.hid (And.intro (W6.put1 (W6.put0 hz R) R2) ((mut_set w bz 0 (.int .u64 R)).trans (mut_set _ bz 1 (.int .u64 R2)) (fun _ _ h => h)))
  clear hz
  go_enter Tryz.func118, Tryz.ntmps118
  go_wp2
  refine wp_loop_rounds 3 ?_
  rw [rounds_succ]
  go_wp2_with fail
  refine (HM.out _).mono ?_
  rintro e' V1 ⟨rfl, rfl⟩
  go_wp2
  rw [rounds_succ]
  go_wp2_with fail
  refine (HM2.out _).mono ?_
  rintro e' V2 ⟨rfl, rfl⟩
  go_wp2
  rw [rounds_succ]
  go_wp2
  go_returns
  exact ⟨rfl, HX.out.1, HX.out.2⟩
end Go.Proofs.YtghfggfgndgkjaaGreatDoor
