/- QuantTells: the walk. -/
import Derived.Test.YtghfggfgndgkjaaGreatDoorTells
import Derived.Test.YtghfggfgndgkjaaGreatDoorAwake21
set_option linter.unusedVariables false
set_option linter.unusedSimpArgs false
namespace Go.Proofs.YtghfggfgndgkjaaGreatDoor
open Go.RowKit
set_option maxRecDepth 100000
attribute [local go_sem] opLow opUpon opLow2 opUpon2 opLow3

theorem tfit_no1 (lo hi most : Int) (h : lo < -1099511627776 ∨ hi ≤ lo ∨ 1099511627776 < hi) (w : World) :
    Calls Tryz.prog 6 #[.int .i64 lo, .int .i64 hi, .int .i64 most] w fun e w' => e = .returned (.tuple #[G 0 0 0, .int .i64 2]) ∧ Below w.heap.size w w' := by
  have HG := Lib.hid h
  clear h
  go_enter Tryz.func6, Tryz.ntmps6
  go_wp2_with fail
  with_reducible refine (ranged_no _ _ HG.out _).mono ?_
  rintro e w1 ⟨rfl, hb1⟩
  have B1 := Bk.below (g := w.heap.size + 1 + 1 + 1) (cs := #[.int .i64 0, .int .i64 0, .int .i64 0]) (t := 23) (Bk.at_ (by simp)) hb1
  have c0 := B1.cell (v := .int .i64 0) 0 rfl
  have c1 := B1.cell (v := .int .i64 0) 1 rfl
  have c2 := B1.cell (v := .int .i64 0) 2 rfl
  have f0 := B1.free 0
  have f1 := B1.free 1
  have f2 := B1.free 2
  obtain ⟨hg1, hs1⟩ := below_c (w := w) hb1 (by go_grown)
  clear hb1
  go_wp2
  refine bodyPost_ret (v := .tuple #[G 0 0 0, .int .i64 2]) (by simp [results, Tryz.results6, go_sem, c0, c1, c2]; try rfl) rfl ⟨rfl, by go_grown⟩
theorem tfit_no2 (lo hi most : Int) (h1 : -1099511627776 ≤ lo) (h2 : lo < hi) (h3 : hi ≤ 1099511627776) (hm : most < 0) (w : World) :
    Calls Tryz.prog 6 #[.int .i64 lo, .int .i64 hi, .int .i64 most] w fun e w' => e = .returned (.tuple #[G 0 0 0, .int .i64 2]) ∧ Below w.heap.size w w' := by
  go_enter Tryz.func6, Tryz.ntmps6
  go_wp2_with fail
  with_reducible refine (ranged_yes _ _ h1 h2 h3 _).mono ?_
  rintro e w1 ⟨rfl, hb1⟩
  have M1 := cell_later (a := ⟨w.heap.size + 1 + 1, 0, none⟩) (v := .int .i64 most) hb1 (by simp [go_sem])
  have B1 := Bk.below (g := w.heap.size + 1 + 1 + 1) (cs := #[.int .i64 0, .int .i64 0, .int .i64 0]) (t := 23) (Bk.at_ (by simp)) hb1
  have c0 := B1.cell (v := .int .i64 0) 0 rfl
  have c1 := B1.cell (v := .int .i64 0) 1 rfl
  have c2 := B1.cell (v := .int .i64 0) 2 rfl
  have f0 := B1.free 0
  have f1 := B1.free 1
  have f2 := B1.free 2
  obtain ⟨hg1, hs1⟩ := below_c (w := w) hb1 (by go_grown)
  clear hb1
  go_wp2
  refine bodyPost_ret (v := .tuple #[G 0 0 0, .int .i64 2]) (by simp [results, Tryz.results6, go_sem, c0, c1, c2]; try rfl) rfl ⟨rfl, by go_grown⟩
theorem fits_same (lo hi most : Int) : ∃ r1 r2 r3 er : Int, (∀ V, Calls Tryz.prog 6 #[.int .i64 lo, .int .i64 hi, .int .i64 most] V fun e w' => e = .returned (.tuple #[G r1 r2 r3, .int .i64 er]) ∧ Below V.heap.size V w') ∧
    (∀ V, Calls Tryz.prog 7 #[.int .i64 lo, .int .i64 hi, .int .i64 most] V fun e w' => e = .returned (.tuple #[G r1 r2 r3, .int .i64 er]) ∧ Below V.heap.size V w') := by
  by_cases hr : lo < -1099511627776 ∨ hi ≤ lo ∨ 1099511627776 < hi
  · exact ⟨0, 0, 0, 2, tfit_no1 lo hi most hr, rfit_no lo hi most (.inl (fun h => by unfold GV at h; omega))⟩
  by_cases hm : most < 0
  · exact ⟨0, 0, 0, 2, tfit_no2 lo hi most (by omega) (by omega) (by omega) hm, rfit_no lo hi most (.inr hm)⟩
  have a := fit_any lo hi most (by omega) (by omega) (by omega) (by omega)
  have b := rfit_any lo hi most (by omega) (by omega) (by omega) (by omega)
  by_cases hk : fk lo hi most = 32
  · have e : fitV lo hi (fk lo hi most) = .tuple #[G 0 0 0, .int .i64 6] := by unfold fitV; rw [if_pos hk]
    rw [e] at a b
    exact ⟨0, 0, 0, 6, a, b⟩
  · have e : fitV lo hi (fk lo hi most) = .tuple #[G lo hi ((fk lo hi most : Int) + 1), .int .i64 0] := by unfold fitV; rw [if_neg hk]
    rw [e] at a b
    exact ⟨lo, hi, (fk lo hi most : Int) + 1, 0, a, b⟩
set_option maxHeartbeats 1000000 in
theorem walk_QuantTells (lo hi b x most : Int) (w : World) :
    Calls Tryz.prog 3 #[G lo hi b, .int .i64 x, .int .i64 most] w fun e w' => e = .returned (.bool true) ∧ Below w.heap.size w w' := by
  obtain ⟨r1, r2, r3, er, F1, F2⟩ := fits_same lo hi most
  have HF1 := Lib.hid F1
  have HF2 := Lib.hid F2
  clear F1 F2
  go_enter Tryz.func3, Tryz.ntmps3
  go_wp2_with fail
  have B0 := Bk.made w #[.int .i64 lo, .int .i64 hi, .int .i64 b] 23
  have b0 : Below w.heap.size w (w.alloc (.cells #[.int .i64 lo, .int .i64 hi, .int .i64 b] 23)) := by go_grown
  refine (HF1.out _).mono ?_
  rintro e V1 ⟨rfl, hb⟩
  have T1 := Lib.hid (And.intro (B0.below hb) (b0.trans (hb.mono b0.size)))
  have k0 := T1.out.1.cell (v := .int .i64 lo) 0 rfl
  have k1 := T1.out.1.cell (v := .int .i64 hi) 1 rfl
  have k2 := T1.out.1.cell (v := .int .i64 b) 2 rfl
  have kl := T1.out.1.lt
  clear hb B0 b0
  go_wp2_with fail
  have A0 := Bk.made V1 #[.int .i64 r1, .int .i64 r2, .int .i64 r3] 23
  have b0 : Below V1.heap.size V1 (V1.alloc (.cells #[.int .i64 r1, .int .i64 r2, .int .i64 r3] 23)) := by go_grown
  refine (HF2.out _).mono ?_
  rintro e V2 ⟨rfl, hb⟩
  have b1 := b0.trans (hb.mono b0.size)
  have T2 := Lib.hid (And.intro (T1.out.1.below b1) (And.intro (A0.below hb) (T1.out.2.trans (b1.mono T1.out.2.size))))
  clear k0 k1 k2 kl T1
  have k0 := T2.out.1.cell (v := .int .i64 lo) 0 rfl
  have k1 := T2.out.1.cell (v := .int .i64 hi) 1 rfl
  have k2 := T2.out.1.cell (v := .int .i64 b) 2 rfl
  have kl := T2.out.1.lt
  clear hb A0 b0 b1
  go_wp2_with fail
  have A0 := Bk.made V2 #[.int .i64 r1, .int .i64 r2, .int .i64 r3] 27
  have b0 : Below V2.heap.size V2 (V2.alloc (.cells #[.int .i64 r1, .int .i64 r2, .int .i64 r3] 27)) := by go_grown
  refine (tells_any lo hi b x _).mono ?_
  rintro e V3 ⟨rfl, hb⟩
  have b1 := b0.trans (hb.mono b0.size)
  have T3 := Lib.hid (And.intro (T2.out.2.1.below b1) (And.intro (A0.below hb) (T2.out.2.2.trans (b1.mono T2.out.2.2.size))))
  clear k0 k1 k2 kl T2
  have k0 := T3.out.1.cell (v := .int .i64 r1) 0 rfl
  have k1 := T3.out.1.cell (v := .int .i64 r2) 1 rfl
  have k2 := T3.out.1.cell (v := .int .i64 r3) 2 rfl
  have kl := T3.out.1.lt
  have j0 := T3.out.2.1.cell (v := .int .i64 r1) 0 rfl
  have j1 := T3.out.2.1.cell (v := .int .i64 r2) 1 rfl
  have j2 := T3.out.2.1.cell (v := .int .i64 r3) 2 rfl
  have jl := T3.out.2.1.lt
  clear hb A0 b0 b1
  go_wp2_with fail
  refine (awake21 _).mono ?_
  rintro e V4 ⟨rfl, hb⟩
  have T4 := Lib.hid (T3.out.2.2.trans (hb.mono T3.out.2.2.size))
  clear hb T3 k0 k1 k2 kl j0 j1 j2 jl
  go_wp2
  go_returns
  exact ⟨rfl, T4.out⟩
end Go.Proofs.YtghfggfgndgkjaaGreatDoor
