/- marchesref21.Fit. -/
import Derived.Test.YtghfggfgndgkjaaGreatDoorRef21
set_option linter.unusedVariables false
set_option linter.unusedSimpArgs false
namespace Go.Proofs.YtghfggfgndgkjaaGreatDoor
open Go.RowKit
set_option maxRecDepth 100000
attribute [local go_sem] opLow opUpon opLow2 opUpon2 opLow3

set_option maxHeartbeats 1000000 in
theorem rfit_no (lo hi most : Int) (h : ¬ GV lo hi 1 ∨ most < 0) (w : World) :
    Calls Tryz.prog 7 #[.int .i64 lo, .int .i64 hi, .int .i64 most] w fun e w' => e = .returned (.tuple #[G 0 0 0, .int .i64 2]) ∧ Below w.heap.size w w' := by
  by_cases hg : GV lo hi 1
  · have hm : most < 0 := h.resolve_left (fun e => e hg)
    have HG := Lib.hid hg
    clear h hg
    go_enter Tryz.func7, Tryz.ntmps7
    go_wp2_with fail
    have B0 := Bk.made w #[.int .i64 0, .int .i64 0, .int .i64 0] 27
    have b0 : Below w.heap.size w (w.alloc (.cells #[.int .i64 0, .int .i64 0, .int .i64 0] 27)) := by go_grown
    refine (rvalid_yes _ _ _ HG.out _).mono ?_
    rintro e V ⟨rfl, hb⟩
    have HB := Lib.hid (B0.below hb)
    have HV := Lib.hid (b0.trans (hb.mono b0.size))
    have k0 := HB.out.cell (v := .int .i64 0) 0 rfl
    have k1 := HB.out.cell (v := .int .i64 0) 1 rfl
    have k2 := HB.out.cell (v := .int .i64 0) 2 rfl
    have f0 := HB.out.free 0
    have f1 := HB.out.free 1
    have f2 := HB.out.free 2
    have kl := HB.out.lt
    clear B0 b0 hb HG
    go_wp2
    refine bodyPost_ret (v := .tuple #[G 0 0 0, .int .i64 2]) (by simp [results, Tryz.results7, go_sem, k0, k1, k2, kl, f0, f1, f2]; try rfl) rfl ?_
    exact ⟨rfl, HV.out.trans (by go_grown)⟩
  · have HG := Lib.hid hg
    clear h hg
    go_enter Tryz.func7, Tryz.ntmps7
    go_wp2_with fail
    have B0 := Bk.made w #[.int .i64 0, .int .i64 0, .int .i64 0] 27
    have b0 : Below w.heap.size w (w.alloc (.cells #[.int .i64 0, .int .i64 0, .int .i64 0] 27)) := by go_grown
    refine (rvalid_no _ _ _ HG.out _).mono ?_
    rintro e V ⟨rfl, hb⟩
    have HB := Lib.hid (B0.below hb)
    have HV := Lib.hid (b0.trans (hb.mono b0.size))
    have k0 := HB.out.cell (v := .int .i64 0) 0 rfl
    have k1 := HB.out.cell (v := .int .i64 0) 1 rfl
    have k2 := HB.out.cell (v := .int .i64 0) 2 rfl
    have f0 := HB.out.free 0
    have f1 := HB.out.free 1
    have f2 := HB.out.free 2
    have kl := HB.out.lt
    clear B0 b0 hb HG
    go_wp2
    refine bodyPost_ret (v := .tuple #[G 0 0 0, .int .i64 2]) (by simp [results, Tryz.results7, go_sem, k0, k1, k2, kl, f0, f1, f2]; try rfl) rfl ?_
    exact ⟨rfl, HV.out.trans (by go_grown)⟩
set_option maxHeartbeats 1000000 in
theorem rfit_any (lo hi most : Int) (h1 : -1099511627776 ≤ lo) (h2 : lo < hi) (h3 : hi ≤ 1099511627776) (h4 : 0 ≤ most) (w : World) :
    Calls Tryz.prog 7 #[.int .i64 lo, .int .i64 hi, .int .i64 most] w fun e w' => e = .returned (fitV lo hi (fk lo hi most)) ∧ Below w.heap.size w w' := by
  have HG := Lib.hid (show GV lo hi 1 from ⟨h1, h2, h3, by omega, by omega⟩)
  go_enter Tryz.func7, Tryz.ntmps7
  go_wp2_with fail
  have B0 := Bk.made w #[.int .i64 0, .int .i64 0, .int .i64 0] 27
  have b0 : Below w.heap.size w (w.alloc (.cells #[.int .i64 0, .int .i64 0, .int .i64 0] 27)) := by go_grown
  refine (rvalid_yes _ _ _ HG.out _).mono ?_
  rintro e V ⟨rfl, hb⟩
  have HB := Lib.hid (B0.below hb)
  have HV := Lib.hid (b0.trans (hb.mono b0.size))
  clear B0 b0 hb HG
  go_wp2
  go_loopw [8] (fun v8 wr => ∃ k : Nat, v8 = .int .i64 ((k : Int) + 1) ∧ k ≤ 32 ∧ Hid (∀ i, i < k → fits lo hi most i = false) ∧ Hid (Below w.heap.size w wr) ∧ Hid (Bk wr w.heap.size #[.int .i64 0, .int .i64 0, .int .i64 0] 27)) (fun v8 _ => 33 - (intOf v8).toNat)
  case atStart => exact ⟨0, rfl, by omega, Lib.hid (fun i h => absurd h (Nat.not_lt_zero i)), HV, HB⟩
  case round =>
    obtain ⟨k, rfl, hk, HF, HW, HC⟩ := hrel
    have k0 := HC.out.cell (v := .int .i64 0) 0 rfl
    have k1 := HC.out.cell (v := .int .i64 0) 1 rfl
    have k2 := HC.out.cell (v := .int .i64 0) 2 rfl
    have f0 := HC.out.free 0
    have f1 := HC.out.free 1
    have f2 := HC.out.free 2
    have kl := HC.out.lt
    by_cases hk2 : k < 32
    · have e1 : decide ((k : Int) + 1 ≤ 32) = true := decide_eq_true (by omega)
      have hwk : IntKind.i64.wrap ((k : Int) + 1 + 1) = (k : Int) + 1 + 1 := by rw [IntKind.wrap_i64]; omega
      have ER := Lib.hid (fun V => rerror_any lo hi ((k : Int) + 1) ⟨h1, h2, h3, by omega, by omega⟩ V)
      obtain ⟨q, hq⟩ : ∃ q, qe lo hi ((k : Int) + 1) = q := ⟨_, rfl⟩
      rw [hq] at ER
      have HQ := Lib.hid hq
      have HK := Lib.hid hk2
      clear k0 k1 k2 f0 f1 f2 kl hq hk2 hk
      by_cases hf : q ≤ most
      · go_wp2_with fail
        refine (ER.out _).mono ?_
        rintro e V2 ⟨rfl, hb⟩
        have HC2 := Lib.hid (HC.out.below hb)
        have HW2 := Lib.hid (HW.out.trans (hb.mono HW.out.size))
        have k0 := HC2.out.cell (v := .int .i64 0) 0 rfl
        have k1 := HC2.out.cell (v := .int .i64 0) 1 rfl
        have k2 := HC2.out.cell (v := .int .i64 0) 2 rfl
        have f0 := HC2.out.free 0
        have f1 := HC2.out.free 1
        have f2 := HC2.out.free 2
        have kl := HC2.out.lt
        clear hb ER HC HW
        go_wp2
        refine bodyPost_ret (v := .tuple #[G lo hi ((k : Int) + 1), .int .i64 0]) (by simp [results, Tryz.results7, go_sem, k0, k1, k2, kl, f0, f1, f2]; try rfl) rfl ?_
        refine ⟨?_, HW2.out.trans (by go_grown)⟩
        have hfk : k = fk lo hi most := fk_unique lo hi most h2 k (by have := HK.out; omega) (fun _ => by unfold fits; rw [HQ.out]; exact decide_eq_true hf) (fun h => HF.out _ (by omega))
        rw [← hfk]
        unfold fitV
        rw [if_neg (by have := HK.out; omega)]
      · have hf' : most < q := by omega
        clear hf
        go_wp2_with fail
        refine (ER.out _).mono ?_
        rintro e V2 ⟨rfl, hb⟩
        have HC2 := Lib.hid (HC.out.below hb)
        have HW2 := Lib.hid (HW.out.trans (hb.mono HW.out.size))
        clear hb ER HC HW
        go_wp2
        go_roundw
        case rel => exact ⟨k + 1, by go_num, by have := HK.out; omega, Lib.hid (fun i hi' => by
          rcases Nat.lt_succ_iff_lt_or_eq.1 hi' with h | rfl
          · exact HF.out i h
          · unfold fits; rw [HQ.out]; exact decide_eq_false (by omega)), HW2, HC2⟩
        case measure => simp [intOf]; have := HK.out; omega
    · obtain rfl : k = 32 := by omega
      go_wp2
      refine bodyPost_ret (v := .tuple #[G 0 0 0, .int .i64 6]) (by simp [results, Tryz.results7, go_sem, k0, k1, k2, kl, f0, f1, f2]; try rfl) rfl ?_
      refine ⟨?_, HW.out.trans (by go_grown)⟩
      have hfk : 32 = fk lo hi most := fk_unique lo hi most h2 32 (by omega) (fun h => absurd h (by omega)) (fun h => HF.out _ (by omega))
      rw [← hfk]
      unfold fitV
      rw [if_pos rfl]
end Go.Proofs.YtghfggfgndgkjaaGreatDoor
