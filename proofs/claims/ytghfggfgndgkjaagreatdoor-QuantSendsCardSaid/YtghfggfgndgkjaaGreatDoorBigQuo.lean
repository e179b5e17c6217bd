/- math/big: a number of one or two words by a word. -/
import Derived.Test.YtghfggfgndgkjaaGreatDoorBigAdd4
set_option linter.unusedVariables false
set_option linter.unusedSimpArgs false
namespace Go.Proofs.YtghfggfgndgkjaaGreatDoor
open Go.RowKit
set_option maxRecDepth 100000
attribute [local go_sem] opLow opUpon opLow2 opUpon2 opLow3

theorem below_of_eq {w w' : World} (h : w' = w) : Below w.heap.size w w' := by rw [h]; exact Below.refl _ _
set_option maxHeartbeats 4000000 in
theorem divwvw1 (bz bx cx x y : Nat) (hx : x < 18446744073709551616) (hy0 : 0 < y) (hy : y < 18446744073709551616) (w : World) (hz : Bk w bz #[.int .u64 0] 171) (hc : w.cell? ⟨bx, 0, none⟩ = some (.int .u64 x)) :
    Calls Tryz.prog 177 #[.slice (some ⟨bz, 0, none⟩) 1 1, .int .u64 0, .slice (some ⟨bx, 0, none⟩) 1 cx, .int .u64 y] w fun e' w' => e' = .returned (.int .u64 (x % y : Nat)) ∧ Bk w' bz #[.int .u64 (x / y : Nat)] 171 ∧ Mut (fun k => k = bz) w w' := by
  have DV := Lib.hid (fun V => big_Div_low x y hx hy0 hy V)
  obtain ⟨Q, hQ⟩ : ∃ k, x / y = k := ⟨_, rfl⟩
  obtain ⟨R, hR⟩ : ∃ k, x % y = k := ⟨_, rfl⟩
  rw [hQ, hR] at DV ⊢
  have HZ := Lib.hid hz
  clear hQ hR hx hy0 hy hz
  go_enter Tryz.func177, Tryz.ntmps177
  go_wp2_with fail
  refine (DV.out _).mono ?_
  rintro e' V ⟨rfl, hb⟩
  have hz2 := HZ.out.below hb
  have k0 := hz2.cell (v := .int .u64 0) 0 rfl
  have kf := hz2.free 0
  have kl := hz2.lt
  have HX := Lib.hid (And.intro (show Bk (V.setCell ⟨bz, 0, none⟩ (.int .u64 Q)) bz #[.int .u64 Q] 171 from hz2.put 0 _) (((Mut.of_below (U := fun k => k = bz) hb).trans (mut_set V bz 0 (.int .u64 Q)) (fun _ _ h => h))))
  clear hb hz2 HZ DV hc
  go_wp2
  go_returns
  exact ⟨rfl, HX.out.1, HX.out.2⟩
set_option maxHeartbeats 4000000 in
theorem divwvw2 (bz bx cx x0 x1 y : Nat) (hx0 : x0 < 18446744073709551616) (hx1 : x1 < 18446744073709551616) (hy0 : 0 < y) (hy : y < 9223372036854775808) (hne : bx ≠ bz) (w : World) (hz : Bk w bz (W6 0 0 0 0 0 0) 171) (cs : Array Value) (hxb : Bk w bx cs 171) (hc0 : cs[0]? = some (.int .u64 x0)) (hc1 : cs[1]? = some (.int .u64 x1)) :
    Calls Tryz.prog 177 #[.slice (some ⟨bz, 0, none⟩) 2 6, .int .u64 0, .slice (some ⟨bx, 0, none⟩) 2 cx, .int .u64 y] w fun e' w' => e' = .returned (.int .u64 ((x1 % y * 18446744073709551616 + x0) % y : Nat)) ∧ Bk w' bz (W6 ((x1 % y * 18446744073709551616 + x0) / y) (x1 / y) 0 0 0 0) 171 ∧ Mut (fun k => k = bz) w w' := by
  have RC := Lib.hid (fun V => big_recip y hy0 hy V)
  have D1 := Lib.hid (fun V => big_divWW 0 x1 y hy0 hx1 hy0 hy V)
  rw [Nat.zero_mul, Nat.zero_add, show ((0 : Nat) : Int) = 0 from rfl] at D1
  have D2 := Lib.hid (fun V => big_divWW (x1 % y) x0 y (Nat.mod_lt _ hy0) hx0 hy0 hy V)
  obtain ⟨m, hm⟩ : ∃ k, rcp 18446744073709551616 (y * 2 ^ nlzN y) = k := ⟨_, rfl⟩
  rw [hm] at RC D1 D2
  obtain ⟨Q1, hQ1⟩ : ∃ k, x1 / y = k := ⟨_, rfl⟩
  obtain ⟨R1, hR1⟩ : ∃ k, x1 % y = k := ⟨_, rfl⟩
  rw [hQ1, hR1] at D1
  rw [hR1] at D2
  rw [hQ1, hR1]
  obtain ⟨Q0, hQ0⟩ : ∃ k, (R1 * 18446744073709551616 + x0) / y = k := ⟨_, rfl⟩
  obtain ⟨R0, hR0⟩ : ∃ k, (R1 * 18446744073709551616 + x0) % y = k := ⟨_, rfl⟩
  rw [hQ0, hR0] at D2 ⊢
  have HZ := Lib.hid (And.intro hz hxb)
  have HC := Lib.hid (And.intro hc0 hc1)
  clear hm hQ1 hR1 hQ0 hR0 hx0 hx1 hy0 hy hz hc0 hc1 hxb
  go_enter Tryz.func177, Tryz.ntmps177
  go_wp2_with fail
  refine (RC.out _).mono ?_
  rintro e' V1 ⟨rfl, hb⟩
  have HZ1 := Lib.hid (And.intro (HZ.out.1.below hb) (HZ.out.2.below hb))
  have HM1 := Lib.hid (Mut.of_below (U := fun k => k = bz) hb)
  clear hb HZ RC
  have k1 := HZ1.out.2.cell 1 HC.out.2
  go_wp2
  refine wp_loop_rounds 3 ?_
  rw [rounds_succ]
  go_wp2_with fail
  refine (D1.out _).mono ?_
  rintro e' V2 ⟨rfl, hb⟩
  have hz2 := HZ1.out.1.below hb
  have q1 := hz2.cell (v := .int .u64 0) 1 rfl
  have qf := hz2.free 1
  have ql := hz2.lt
  have HX := Lib.hid (And.intro (W6.put1 hz2 Q1) (And.intro ((HM1.out.trans (Mut.of_below (U := fun k => k = bz) hb) (fun _ _ h => h)).trans (mut_set V2 bz 1 (.int .u64 Q1)) (fun _ _ h => h)) ((HZ1.out.2.below hb).far (p := ⟨bz, 1, none⟩) hne (.int .u64 Q1))))
  clear hb hz2 HZ1 HM1 k1 D1
  go_upto_region 9 with fail
  refine wp_name (fun X => Bk X bz (W6 0 Q1 0 0 0 0) 171 ∧ Mut (fun k => k = bz) w X ∧ Bk X bx cs 171) HX.out ?_
  clear HX q1 qf ql
  rintro V3 ⟨hz, hm, hxb⟩
  have k0 := hxb.cell 0 HC.out.1
  clear hxb
  have HZ := Lib.hid (And.intro hz hm)
  clear hz hm
  go_wp2
  rw [rounds_succ]
  go_wp2_with fail
  refine (D2.out _).mono ?_
  rintro e' V4 ⟨rfl, hb⟩
  have hz2 := HZ.out.1.below hb
  have q1 := hz2.cell (v := .int .u64 0) 0 rfl
  have qf := hz2.free 0
  have ql := hz2.lt
  have HX := Lib.hid (And.intro (W6.put0 hz2 Q0) ((HZ.out.2.trans (Mut.of_below (U := fun k => k = bz) hb) (fun _ _ h => h)).trans (mut_set V4 bz 0 (.int .u64 Q0)) (fun _ _ h => h)))
  clear hb hz2 HZ k0 D2
  go_wp2
  rw [rounds_succ]
  go_wp2
  go_returns
  exact ⟨rfl, HX.out.1, HX.out.2⟩
end Go.Proofs.YtghfggfgndgkjaaGreatDoor
