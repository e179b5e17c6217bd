/- math/big: sums of numbers of at most two words. -/
import Derived.Test.YtghfggfgndgkjaaGreatDoorBigInt2
set_option linter.unusedVariables false
set_option linter.unusedSimpArgs false
namespace Go.Proofs.YtghfggfgndgkjaaGreatDoor
open Go.RowKit
set_option maxRecDepth 100000
attribute [local go_sem] opLow opUpon opLow2 opUpon2 opLow3

theorem Mut.drewD {U : Nat → Prop} {w v : World} (h : Mut U w v) : Mut U w v.drew := ⟨h.os, h.tape, h.output, h.size, h.block⟩
theorem big_AddB (x y c : Nat) (hc : c ≤ 1) (w : World) :
    Calls Tryz.prog 136 #[.int .u64 x, .int .u64 y, .int .u64 c] w fun e w' => e = .returned (.tuple #[.int .u64 ((x + y + c) % 18446744073709551616 : Nat), .int .u64 ((x + y + c) / 18446744073709551616 : Nat)]) ∧ Below w.heap.size w w' :=
  (big_Add x y c hc w).mono fun e w' ⟨h1, h2⟩ => ⟨h1, by rw [h2]; exact Below.refl _ _⟩
set_option maxHeartbeats 4000000 in
theorem addvv1 (bz bx gy cx cy x y a b c d e f : Nat) (w : World) (hz : Bk w bz (W6 a b c d e f) 171) (hx : w.cell? ⟨bx, 0, none⟩ = some (.int .u64 x)) (hy : w.cell? ⟨gy, 0, none⟩ = some (.int .u64 y)) :
    Calls Tryz.prog 114 #[.slice (some ⟨bz, 0, none⟩) 1 6, .slice (some ⟨bx, 0, none⟩) 1 cx, .slice (some ⟨gy, 0, none⟩) 1 cy] w fun e' w' => e' = .returned (.int .u64 ((x + y) / 18446744073709551616 : Nat)) ∧ Bk w' bz (W6 ((x + y) % 18446744073709551616) b c d e f) 171 ∧ Mut (fun k => k = bz) w w' := by
  have GA := fun V => big_AddB x y 0 (by omega) V
  rw [Nat.add_zero, show ((0 : Nat) : Int) = 0 from rfl] at GA
  obtain ⟨Q, hQ⟩ : ∃ k, (x + y) / 18446744073709551616 = k := ⟨_, rfl⟩
  obtain ⟨R, hR⟩ : ∃ k, (x + y) % 18446744073709551616 = k := ⟨_, rfl⟩
  rw [hQ, hR] at GA ⊢
  have HG := Lib.hid GA
  clear hQ hR GA
  go_enter Tryz.func114, Tryz.ntmps114
  go_wp2
  refine wp_loop_rounds 2 ?_
  rw [rounds_succ]
  go_wp2
  have hx2 := cell_regrown hx
  have hy2 := cell_regrown hy
  refine wp_region_low2 noPosts 14 (by kernel_rfl) (by kernel_rfl) ?_
  simp only [List.take, List.drop]
  iterate 14 (refine low2_step (fun K hK => ?_); go_simp; first | (refine hK _ ?_; clear hK K) | (apply Exists.intro; refine ⟨fun p => ?_, hK _ ?_⟩; (exact ⟨rfl, HG.out _⟩); clear hK K))
  refine low2_nil ?_
  intro V hC
  have hz2 := hz.below hC.1
  have k0 := hz2.cell (v := .int .u64 a) 0 rfl
  have kf := hz2.free 0
  have kl := hz2.lt
  have HX := Lib.hid (And.intro (W6.put0 hz2 R) (((Mut.of_below (U := fun k => k = bz) hC.1).trans (mut_set V bz 0 (.int .u64 R)) (fun _ _ h => h))))
  clear hz hz2 hC hx2 hy2 hx hy HG
  go_wp2
  rw [rounds_succ]
  go_wp2
  go_returns
  exact ⟨rfl, HX.out.1, HX.out.2⟩
theorem neq_ptr_same (w : World) (a : Addr) : (binOp .neq 190 (.pointer (some a)) (.pointer (some a))).run Tryz.prog w = .ok (.bool false) w := by
  have hs : (Tryz.prog.info? 171).isSome = true := by kernel_rfl
  obtain ⟨j, hj⟩ := Option.isSome_iff_exists.1 hs
  have hp : Tryz.prog.underlying 190 = some (.pointer 171) := by kernel_rfl
  have h : ∀ d : Nat, (Op.equalIn (d + 1) 190 (.pointer (some a)) (.pointer (some a))).run Tryz.prog w = .ok true w := fun d => by
    simp [Op.equalIn, run_underlying hp, sizeOf, typeInfo, hj, run_sameAddr_same]
  simp only [binOp]
  simp [Op.equal, Op.maxDepth, h 9999]
set_option maxHeartbeats 4000000 in
theorem addvw1 (b a x y c d e f : Nat) (hxy : x + y < 18446744073709551616) (w : World) (hz : Bk w b (W6 a x c d e f) 171) :
    Calls Tryz.prog 134 #[.slice (some ⟨b, 1, none⟩) 1 5, .slice (some ⟨b, 1, none⟩) 1 5, .int .u64 y] w fun e' w' => e' = .returned (.int .u64 0) ∧ Bk w' b (W6 a (x + y) c d e f) 171 ∧ Mut (fun k => k = b) w w' := by
  have HG := Lib.hid (fun V => big_Add x y 0 (by omega) V)
  rw [Nat.add_zero, show ((0 : Nat) : Int) = 0 from rfl, Nat.mod_eq_of_lt hxy, Nat.div_eq_of_lt hxy, show ((0 : Nat) : Int) = 0 from rfl] at HG
  obtain ⟨R, hR⟩ : ∃ k, x + y = k := ⟨_, rfl⟩
  rw [hR] at HG ⊢
  clear hR hxy
  have hpn := fun V => neq_ptr_same V ⟨b, 1, none⟩
  have k1 := hz.cell (v := .int .u64 x) 1 rfl
  have kf := hz.free 1
  have kl := hz.lt
  have HX := Lib.hid (And.intro (W6.put1 hz R) (mut_set w b 1 (.int .u64 R)))
  clear hz
  go_enter Tryz.func134, Tryz.ntmps134
  go_wp2_with fail
  refine (HG.out _).mono ?_
  rintro e' V1 ⟨rfl, rfl⟩
  go_upto_region 7 with fail
  refine wp_name (fun X => Bk X b (W6 a R c d e f) 171 ∧ Mut (fun k => k = b) V1 X) HX.out ?_
  clear HX k1 kf kl HG
  rintro V2 ⟨hB, hm⟩
  have HX := Lib.hid (And.intro hB hm)
  have k1 := cell_regrown (hB.cell (v := .int .u64 R) 1 rfl)
  clear hB hm
  go_wp2
  go_region
  go_wp2
  go_returns
  exact ⟨rfl, HX.out.1, Mut.drewD HX.out.2⟩
end Go.Proofs.YtghfggfgndgkjaaGreatDoor
