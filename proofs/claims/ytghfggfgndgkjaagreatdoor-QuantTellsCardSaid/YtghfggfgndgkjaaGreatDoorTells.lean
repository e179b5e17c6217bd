/- marcheslaw21.tells. -/
import Derived.Test.YtghfggfgndgkjaaGreatDoorRefFit
set_option linter.unusedVariables false
set_option linter.unusedSimpArgs false
namespace Go.Proofs.YtghfggfgndgkjaaGreatDoor
open Go.RowKit
set_option maxRecDepth 100000
attribute [local go_sem] opLow opUpon opLow2 opUpon2 opLow3

/-- the two grids of tells -/
def GT (w : World) (lo hi b : Int) (V : World) : Prop := Bk V w.heap.size #[.int .i64 lo, .int .i64 hi, .int .i64 b] 23 ∧ Bk V (w.heap.size + 1) #[.int .i64 lo, .int .i64 hi, .int .i64 b] 27 ∧ Below w.heap.size w V
theorem GT.below {w : World} {lo hi b : Int} {V V' : World} (h : GT w lo hi b V) (hb : Below V.heap.size V V') : GT w lo hi b V' := ⟨h.1.below hb, h.2.1.below hb, h.2.2.trans (hb.mono h.2.2.size)⟩
theorem gt_made (w : World) (lo hi b : Int) : GT w lo hi b ((w.alloc (.cells #[.int .i64 lo, .int .i64 hi, .int .i64 b] 23)).alloc (.cells #[.int .i64 lo, .int .i64 hi, .int .i64 b] 27)) := 
  ⟨(Bk.made w #[.int .i64 lo, .int .i64 hi, .int .i64 b] 23).alloc _, Bk.at_ (by simp), by go_grown⟩
set_option maxHeartbeats 1000000 in
theorem tells_no (lo hi b x : Int) (hg : ¬ GV lo hi b) (w : World) :
    Calls Tryz.prog 8 #[G lo hi b, .int .i64 x] w fun e w' => e = .returned (.bool true) ∧ Below w.heap.size w w' := by
  have HG := Lib.hid hg
  clear hg
  go_enter Tryz.func8, Tryz.ntmps8
  go_wp2_with fail
  have T0 := Lib.hid (gt_made w lo hi b)
  refine (index_no lo hi b x HG.out _).mono ?_
  rintro e V1 ⟨rfl, hb⟩
  have T1 := Lib.hid (GT.below T0.out hb)
  clear hb T0
  have a0 := T1.out.1.cell (v := .int .i64 lo) 0 rfl
  have a1 := T1.out.1.cell (v := .int .i64 hi) 1 rfl
  have a2 := T1.out.1.cell (v := .int .i64 b) 2 rfl
  have al := T1.out.1.lt
  have c0 := T1.out.2.1.cell (v := .int .i64 lo) 0 rfl
  have c1 := T1.out.2.1.cell (v := .int .i64 hi) 1 rfl
  have c2 := T1.out.2.1.cell (v := .int .i64 b) 2 rfl
  have cl := T1.out.2.1.lt
  go_wp2_with fail
  refine (point_no lo hi b x HG.out _).mono ?_
  rintro e V2 ⟨rfl, hb⟩
  have T2 := Lib.hid (GT.below T1.out hb)
  clear hb T1 a0 a1 a2 al c0 c1 c2 cl
  have a0 := T2.out.1.cell (v := .int .i64 lo) 0 rfl
  have a1 := T2.out.1.cell (v := .int .i64 hi) 1 rfl
  have a2 := T2.out.1.cell (v := .int .i64 b) 2 rfl
  have al := T2.out.1.lt
  have c0 := T2.out.2.1.cell (v := .int .i64 lo) 0 rfl
  have c1 := T2.out.2.1.cell (v := .int .i64 hi) 1 rfl
  have c2 := T2.out.2.1.cell (v := .int .i64 b) 2 rfl
  have cl := T2.out.2.1.lt
  go_wp2_with fail
  refine (gnear_no lo hi b x HG.out _).mono ?_
  rintro e V3 ⟨rfl, hb⟩
  have T3 := Lib.hid (GT.below T2.out hb)
  clear hb T2 a0 a1 a2 al c0 c1 c2 cl
  have a0 := T3.out.1.cell (v := .int .i64 lo) 0 rfl
  have a1 := T3.out.1.cell (v := .int .i64 hi) 1 rfl
  have a2 := T3.out.1.cell (v := .int .i64 b) 2 rfl
  have al := T3.out.1.lt
  have c0 := T3.out.2.1.cell (v := .int .i64 lo) 0 rfl
  have c1 := T3.out.2.1.cell (v := .int .i64 hi) 1 rfl
  have c2 := T3.out.2.1.cell (v := .int .i64 b) 2 rfl
  have cl := T3.out.2.1.lt
  go_wp2_with fail
  refine (error_no lo hi b HG.out _).mono ?_
  rintro e V4 ⟨rfl, hb⟩
  have T4 := Lib.hid (GT.below T3.out hb)
  clear hb T3 a0 a1 a2 al c0 c1 c2 cl
  have a0 := T4.out.1.cell (v := .int .i64 lo) 0 rfl
  have a1 := T4.out.1.cell (v := .int .i64 hi) 1 rfl
  have a2 := T4.out.1.cell (v := .int .i64 b) 2 rfl
  have al := T4.out.1.lt
  have c0 := T4.out.2.1.cell (v := .int .i64 lo) 0 rfl
  have c1 := T4.out.2.1.cell (v := .int .i64 hi) 1 rfl
  have c2 := T4.out.2.1.cell (v := .int .i64 b) 2 rfl
  have cl := T4.out.2.1.lt
  go_upto_region 6 with fail
  replace a0 := cell_regrown a0
  replace a1 := cell_regrown a1
  replace a2 := cell_regrown a2
  replace c0 := cell_regrown c0
  replace c1 := cell_regrown c1
  replace c2 := cell_regrown c2
  refine wp_region_low2 noPosts 4 (by kernel_rfl) (by kernel_rfl) ?_
  simp only [List.take, List.drop]
  iterate 1 (refine low2_step (fun K hK => ?_); go_simp; first | (refine hK _ ?_; clear hK K) | (apply Exists.intro; refine ⟨fun p => ?_, hK _ ?_⟩; clear hK K))
  refine low2_reads 49 #[G lo hi b] (.bool false) (by rfl) (fun w => by go_simp) rfl (by kernel_rfl) (fun V _ _ => valid_no lo hi b HG.out V) ?_
  iterate 1 (refine low2_step (fun K hK => ?_); go_simp; first | (refine hK _ ?_; clear hK K) | (apply Exists.intro; refine ⟨fun p => ?_, hK _ ?_⟩; clear hK K))
  refine low2_reads 31 #[G lo hi b] (.bool false) (by rfl) (fun w => by go_simp) rfl (by kernel_rfl) (fun V _ _ => rvalid_no lo hi b HG.out V) ?_
  refine low2_nil ?_
  intro V5 hC
  have T5 := Lib.hid (GT.below T4.out hC.1)
  clear hC T4 a0 a1 a2 al c0 c1 c2 cl
  have a0 := T5.out.1.cell (v := .int .i64 lo) 0 rfl
  have a1 := T5.out.1.cell (v := .int .i64 hi) 1 rfl
  have a2 := T5.out.1.cell (v := .int .i64 b) 2 rfl
  have al := T5.out.1.lt
  have c0 := T5.out.2.1.cell (v := .int .i64 lo) 0 rfl
  have c1 := T5.out.2.1.cell (v := .int .i64 hi) 1 rfl
  have c2 := T5.out.2.1.cell (v := .int .i64 b) 2 rfl
  have cl := T5.out.2.1.lt
  go_wp2_with fail
  refine (valid_no lo hi b HG.out _).mono ?_
  rintro e V6 ⟨rfl, hb⟩
  have T6 := Lib.hid (GT.below T5.out hb)
  clear hb T5 a0 a1 a2 al c0 c1 c2 cl
  have a0 := T6.out.1.cell (v := .int .i64 lo) 0 rfl
  have a1 := T6.out.1.cell (v := .int .i64 hi) 1 rfl
  have a2 := T6.out.1.cell (v := .int .i64 b) 2 rfl
  have al := T6.out.1.lt
  have c0 := T6.out.2.1.cell (v := .int .i64 lo) 0 rfl
  have c1 := T6.out.2.1.cell (v := .int .i64 hi) 1 rfl
  have c2 := T6.out.2.1.cell (v := .int .i64 b) 2 rfl
  have cl := T6.out.2.1.lt
  skip
  go_wp2
  go_returns
  exact ⟨ret_bool (by first | rfl | (simp; omega) | simp), T6.out.2.2⟩
set_option maxHeartbeats 1000000 in
theorem tells_in (lo hi b x : Int) (hg : GV lo hi b) (hx : 0 ≤ x ∧ x ≤ gn b) (w : World) :
    Calls Tryz.prog 8 #[G lo hi b, .int .i64 x] w fun e w' => e = .returned (.bool true) ∧ Below w.heap.size w w' := by
  have HG := Lib.hid hg
  have HQ := Lib.hid (qi_bd lo hi b x hg)
  obtain ⟨h1, h2, h3, h4, h5⟩ := hg
  obtain ⟨g1, g2, g3⟩ := gn_bd b h4 h5
  clear h1 h2 h3
  have HX := Lib.hid hx
  have x1 : 0 ≤ x := hx.1
  have x2 : x < gn b + 1 := by omega
  clear hx
  go_enter Tryz.func8, Tryz.ntmps8
  go_wp2_with fail
  have T0 := Lib.hid (gt_made w lo hi b)
  refine (index_any lo hi b x HG.out _).mono ?_
  rintro e V1 ⟨rfl, hb⟩
  have T1 := Lib.hid (GT.below T0.out hb)
  clear hb T0
  have a0 := T1.out.1.cell (v := .int .i64 lo) 0 rfl
  have a1 := T1.out.1.cell (v := .int .i64 hi) 1 rfl
  have a2 := T1.out.1.cell (v := .int .i64 b) 2 rfl
  have al := T1.out.1.lt
  have c0 := T1.out.2.1.cell (v := .int .i64 lo) 0 rfl
  have c1 := T1.out.2.1.cell (v := .int .i64 hi) 1 rfl
  have c2 := T1.out.2.1.cell (v := .int .i64 b) 2 rfl
  have cl := T1.out.2.1.lt
  go_wp2_with fail
  refine (point_any lo hi b x HG.out HX.out.1 HX.out.2 _).mono ?_
  rintro e V2 ⟨rfl, hb⟩
  have T2 := Lib.hid (GT.below T1.out hb)
  clear hb T1 a0 a1 a2 al c0 c1 c2 cl
  have a0 := T2.out.1.cell (v := .int .i64 lo) 0 rfl
  have a1 := T2.out.1.cell (v := .int .i64 hi) 1 rfl
  have a2 := T2.out.1.cell (v := .int .i64 b) 2 rfl
  have al := T2.out.1.lt
  have c0 := T2.out.2.1.cell (v := .int .i64 lo) 0 rfl
  have c1 := T2.out.2.1.cell (v := .int .i64 hi) 1 rfl
  have c2 := T2.out.2.1.cell (v := .int .i64 b) 2 rfl
  have cl := T2.out.2.1.lt
  go_wp2_with fail
  refine (gnear_any lo hi b x HG.out _).mono ?_
  rintro e V3 ⟨rfl, hb⟩
  have T3 := Lib.hid (GT.below T2.out hb)
  clear hb T2 a0 a1 a2 al c0 c1 c2 cl
  have a0 := T3.out.1.cell (v := .int .i64 lo) 0 rfl
  have a1 := T3.out.1.cell (v := .int .i64 hi) 1 rfl
  have a2 := T3.out.1.cell (v := .int .i64 b) 2 rfl
  have al := T3.out.1.lt
  have c0 := T3.out.2.1.cell (v := .int .i64 lo) 0 rfl
  have c1 := T3.out.2.1.cell (v := .int .i64 hi) 1 rfl
  have c2 := T3.out.2.1.cell (v := .int .i64 b) 2 rfl
  have cl := T3.out.2.1.lt
  go_wp2_with fail
  refine (error_any lo hi b HG.out _).mono ?_
  rintro e V4 ⟨rfl, hb⟩
  have T4 := Lib.hid (GT.below T3.out hb)
  clear hb T3 a0 a1 a2 al c0 c1 c2 cl
  have a0 := T4.out.1.cell (v := .int .i64 lo) 0 rfl
  have a1 := T4.out.1.cell (v := .int .i64 hi) 1 rfl
  have a2 := T4.out.1.cell (v := .int .i64 b) 2 rfl
  have al := T4.out.1.lt
  have c0 := T4.out.2.1.cell (v := .int .i64 lo) 0 rfl
  have c1 := T4.out.2.1.cell (v := .int .i64 hi) 1 rfl
  have c2 := T4.out.2.1.cell (v := .int .i64 b) 2 rfl
  have cl := T4.out.2.1.lt
  go_upto_region 6 with fail
  replace a0 := cell_regrown a0
  replace a1 := cell_regrown a1
  replace a2 := cell_regrown a2
  replace c0 := cell_regrown c0
  replace c1 := cell_regrown c1
  replace c2 := cell_regrown c2
  refine wp_region_low2 noPosts 4 (by kernel_rfl) (by kernel_rfl) ?_
  simp only [List.take, List.drop]
  iterate 1 (refine low2_step (fun K hK => ?_); go_simp; first | (refine hK _ ?_; clear hK K) | (apply Exists.intro; refine ⟨fun p => ?_, hK _ ?_⟩; clear hK K))
  refine low2_reads 49 #[G lo hi b] (.bool true) (by rfl) (fun w => by go_simp) rfl (by kernel_rfl) (fun V _ _ => valid_yes lo hi b HG.out V) ?_
  iterate 1 (refine low2_step (fun K hK => ?_); go_simp; first | (refine hK _ ?_; clear hK K) | (apply Exists.intro; refine ⟨fun p => ?_, hK _ ?_⟩; clear hK K))
  refine low2_reads 31 #[G lo hi b] (.bool true) (by rfl) (fun w => by go_simp) rfl (by kernel_rfl) (fun V _ _ => rvalid_yes lo hi b HG.out V) ?_
  refine low2_nil ?_
  intro V5 hC
  have T5 := Lib.hid (GT.below T4.out hC.1)
  clear hC T4 a0 a1 a2 al c0 c1 c2 cl
  have a0 := T5.out.1.cell (v := .int .i64 lo) 0 rfl
  have a1 := T5.out.1.cell (v := .int .i64 hi) 1 rfl
  have a2 := T5.out.1.cell (v := .int .i64 b) 2 rfl
  have al := T5.out.1.lt
  have c0 := T5.out.2.1.cell (v := .int .i64 lo) 0 rfl
  have c1 := T5.out.2.1.cell (v := .int .i64 hi) 1 rfl
  have c2 := T5.out.2.1.cell (v := .int .i64 b) 2 rfl
  have cl := T5.out.2.1.lt
  go_wp2_with fail
  refine (valid_yes lo hi b HG.out _).mono ?_
  rintro e V6 ⟨rfl, hb⟩
  have T6 := Lib.hid (GT.below T5.out hb)
  clear hb T5 a0 a1 a2 al c0 c1 c2 cl
  have a0 := T6.out.1.cell (v := .int .i64 lo) 0 rfl
  have a1 := T6.out.1.cell (v := .int .i64 hi) 1 rfl
  have a2 := T6.out.1.cell (v := .int .i64 b) 2 rfl
  have al := T6.out.1.lt
  have c0 := T6.out.2.1.cell (v := .int .i64 lo) 0 rfl
  have c1 := T6.out.2.1.cell (v := .int .i64 hi) 1 rfl
  have c2 := T6.out.2.1.cell (v := .int .i64 b) 2 rfl
  have cl := T6.out.2.1.lt
  go_wp2_with fail
  refine (rindex_any lo hi b x HG.out _).mono ?_
  rintro e V7 ⟨rfl, hb⟩
  have T7 := Lib.hid (GT.below T6.out hb)
  clear hb T6 a0 a1 a2 al c0 c1 c2 cl
  have a0 := T7.out.1.cell (v := .int .i64 lo) 0 rfl
  have a1 := T7.out.1.cell (v := .int .i64 hi) 1 rfl
  have a2 := T7.out.1.cell (v := .int .i64 b) 2 rfl
  have al := T7.out.1.lt
  have c0 := T7.out.2.1.cell (v := .int .i64 lo) 0 rfl
  have c1 := T7.out.2.1.cell (v := .int .i64 hi) 1 rfl
  have c2 := T7.out.2.1.cell (v := .int .i64 b) 2 rfl
  have cl := T7.out.2.1.lt
  go_wp2_with fail
  refine (rpoint_any lo hi b (qi lo hi b x) HG.out HQ.out.1 HQ.out.2 _).mono ?_
  rintro e V8 ⟨rfl, hb⟩
  have T8 := Lib.hid (GT.below T7.out hb)
  clear hb T7 a0 a1 a2 al c0 c1 c2 cl
  have a0 := T8.out.1.cell (v := .int .i64 lo) 0 rfl
  have a1 := T8.out.1.cell (v := .int .i64 hi) 1 rfl
  have a2 := T8.out.1.cell (v := .int .i64 b) 2 rfl
  have al := T8.out.1.lt
  have c0 := T8.out.2.1.cell (v := .int .i64 lo) 0 rfl
  have c1 := T8.out.2.1.cell (v := .int .i64 hi) 1 rfl
  have c2 := T8.out.2.1.cell (v := .int .i64 b) 2 rfl
  have cl := T8.out.2.1.lt
  go_wp2_with fail
  refine (rerror_any lo hi b HG.out _).mono ?_
  rintro e V9 ⟨rfl, hb⟩
  have T9 := Lib.hid (GT.below T8.out hb)
  clear hb T8 a0 a1 a2 al c0 c1 c2 cl
  have a0 := T9.out.1.cell (v := .int .i64 lo) 0 rfl
  have a1 := T9.out.1.cell (v := .int .i64 hi) 1 rfl
  have a2 := T9.out.1.cell (v := .int .i64 b) 2 rfl
  have al := T9.out.1.lt
  have c0 := T9.out.2.1.cell (v := .int .i64 lo) 0 rfl
  have c1 := T9.out.2.1.cell (v := .int .i64 hi) 1 rfl
  have c2 := T9.out.2.1.cell (v := .int .i64 b) 2 rfl
  have cl := T9.out.2.1.lt
  go_wp2_with fail
  refine (rpoint_any lo hi b x HG.out HX.out.1 HX.out.2 _).mono ?_
  rintro e V10 ⟨rfl, hb⟩
  have T10 := Lib.hid (GT.below T9.out hb)
  clear hb T9 a0 a1 a2 al c0 c1 c2 cl
  have a0 := T10.out.1.cell (v := .int .i64 lo) 0 rfl
  have a1 := T10.out.1.cell (v := .int .i64 hi) 1 rfl
  have a2 := T10.out.1.cell (v := .int .i64 b) 2 rfl
  have al := T10.out.1.lt
  have c0 := T10.out.2.1.cell (v := .int .i64 lo) 0 rfl
  have c1 := T10.out.2.1.cell (v := .int .i64 hi) 1 rfl
  have c2 := T10.out.2.1.cell (v := .int .i64 b) 2 rfl
  have cl := T10.out.2.1.lt
  skip
  go_wp2
  go_returns
  exact ⟨ret_bool (by first | rfl | (simp; omega) | simp), T10.out.2.2⟩
set_option maxHeartbeats 1000000 in
theorem tells_low (lo hi b x : Int) (hg : GV lo hi b) (hx : x < 0) (w : World) :
    Calls Tryz.prog 8 #[G lo hi b, .int .i64 x] w fun e w' => e = .returned (.bool true) ∧ Below w.heap.size w w' := by
  have HG := Lib.hid hg
  have HQ := Lib.hid (qi_bd lo hi b x hg)
  obtain ⟨h1, h2, h3, h4, h5⟩ := hg
  obtain ⟨g1, g2, g3⟩ := gn_bd b h4 h5
  clear h1 h2 h3
  have HX := Lib.hid (show x < 0 ∨ gn b < x from .inl hx)
  go_enter Tryz.func8, Tryz.ntmps8
  go_wp2_with fail
  have T0 := Lib.hid (gt_made w lo hi b)
  refine (index_any lo hi b x HG.out _).mono ?_
  rintro e V1 ⟨rfl, hb⟩
  have T1 := Lib.hid (GT.below T0.out hb)
  clear hb T0
  have a0 := T1.out.1.cell (v := .int .i64 lo) 0 rfl
  have a1 := T1.out.1.cell (v := .int .i64 hi) 1 rfl
  have a2 := T1.out.1.cell (v := .int .i64 b) 2 rfl
  have al := T1.out.1.lt
  have c0 := T1.out.2.1.cell (v := .int .i64 lo) 0 rfl
  have c1 := T1.out.2.1.cell (v := .int .i64 hi) 1 rfl
  have c2 := T1.out.2.1.cell (v := .int .i64 b) 2 rfl
  have cl := T1.out.2.1.lt
  go_wp2_with fail
  refine (point_bad lo hi b x HG.out HX.out _).mono ?_
  rintro e V2 ⟨rfl, hb⟩
  have T2 := Lib.hid (GT.below T1.out hb)
  clear hb T1 a0 a1 a2 al c0 c1 c2 cl
  have a0 := T2.out.1.cell (v := .int .i64 lo) 0 rfl
  have a1 := T2.out.1.cell (v := .int .i64 hi) 1 rfl
  have a2 := T2.out.1.cell (v := .int .i64 b) 2 rfl
  have al := T2.out.1.lt
  have c0 := T2.out.2.1.cell (v := .int .i64 lo) 0 rfl
  have c1 := T2.out.2.1.cell (v := .int .i64 hi) 1 rfl
  have c2 := T2.out.2.1.cell (v := .int .i64 b) 2 rfl
  have cl := T2.out.2.1.lt
  go_wp2_with fail
  refine (gnear_any lo hi b x HG.out _).mono ?_
  rintro e V3 ⟨rfl, hb⟩
  have T3 := Lib.hid (GT.below T2.out hb)
  clear hb T2 a0 a1 a2 al c0 c1 c2 cl
  have a0 := T3.out.1.cell (v := .int .i64 lo) 0 rfl
  have a1 := T3.out.1.cell (v := .int .i64 hi) 1 rfl
  have a2 := T3.out.1.cell (v := .int .i64 b) 2 rfl
  have al := T3.out.1.lt
  have c0 := T3.out.2.1.cell (v := .int .i64 lo) 0 rfl
  have c1 := T3.out.2.1.cell (v := .int .i64 hi) 1 rfl
  have c2 := T3.out.2.1.cell (v := .int .i64 b) 2 rfl
  have cl := T3.out.2.1.lt
  go_wp2_with fail
  refine (error_any lo hi b HG.out _).mono ?_
  rintro e V4 ⟨rfl, hb⟩
  have T4 := Lib.hid (GT.below T3.out hb)
  clear hb T3 a0 a1 a2 al c0 c1 c2 cl
  have a0 := T4.out.1.cell (v := .int .i64 lo) 0 rfl
  have a1 := T4.out.1.cell (v := .int .i64 hi) 1 rfl
  have a2 := T4.out.1.cell (v := .int .i64 b) 2 rfl
  have al := T4.out.1.lt
  have c0 := T4.out.2.1.cell (v := .int .i64 lo) 0 rfl
  have c1 := T4.out.2.1.cell (v := .int .i64 hi) 1 rfl
  have c2 := T4.out.2.1.cell (v := .int .i64 b) 2 rfl
  have cl := T4.out.2.1.lt
  go_upto_region 6 with fail
  replace a0 := cell_regrown a0
  replace a1 := cell_regrown a1
  replace a2 := cell_regrown a2
  replace c0 := cell_regrown c0
  replace c1 := cell_regrown c1
  replace c2 := cell_regrown c2
  refine wp_region_low2 noPosts 4 (by kernel_rfl) (by kernel_rfl) ?_
  simp only [List.take, List.drop]
  iterate 1 (refine low2_step (fun K hK => ?_); go_simp; first | (refine hK _ ?_; clear hK K) | (apply Exists.intro; refine ⟨fun p => ?_, hK _ ?_⟩; clear hK K))
  refine low2_reads 49 #[G lo hi b] (.bool true) (by rfl) (fun w => by go_simp) rfl (by kernel_rfl) (fun V _ _ => valid_yes lo hi b HG.out V) ?_
  iterate 1 (refine low2_step (fun K hK => ?_); go_simp; first | (refine hK _ ?_; clear hK K) | (apply Exists.intro; refine ⟨fun p => ?_, hK _ ?_⟩; clear hK K))
  refine low2_reads 31 #[G lo hi b] (.bool true) (by rfl) (fun w => by go_simp) rfl (by kernel_rfl) (fun V _ _ => rvalid_yes lo hi b HG.out V) ?_
  refine low2_nil ?_
  intro V5 hC
  have T5 := Lib.hid (GT.below T4.out hC.1)
  clear hC T4 a0 a1 a2 al c0 c1 c2 cl
  have a0 := T5.out.1.cell (v := .int .i64 lo) 0 rfl
  have a1 := T5.out.1.cell (v := .int .i64 hi) 1 rfl
  have a2 := T5.out.1.cell (v := .int .i64 b) 2 rfl
  have al := T5.out.1.lt
  have c0 := T5.out.2.1.cell (v := .int .i64 lo) 0 rfl
  have c1 := T5.out.2.1.cell (v := .int .i64 hi) 1 rfl
  have c2 := T5.out.2.1.cell (v := .int .i64 b) 2 rfl
  have cl := T5.out.2.1.lt
  go_wp2_with fail
  refine (valid_yes lo hi b HG.out _).mono ?_
  rintro e V6 ⟨rfl, hb⟩
  have T6 := Lib.hid (GT.below T5.out hb)
  clear hb T5 a0 a1 a2 al c0 c1 c2 cl
  have a0 := T6.out.1.cell (v := .int .i64 lo) 0 rfl
  have a1 := T6.out.1.cell (v := .int .i64 hi) 1 rfl
  have a2 := T6.out.1.cell (v := .int .i64 b) 2 rfl
  have al := T6.out.1.lt
  have c0 := T6.out.2.1.cell (v := .int .i64 lo) 0 rfl
  have c1 := T6.out.2.1.cell (v := .int .i64 hi) 1 rfl
  have c2 := T6.out.2.1.cell (v := .int .i64 b) 2 rfl
  have cl := T6.out.2.1.lt
  go_wp2_with fail
  refine (rindex_any lo hi b x HG.out _).mono ?_
  rintro e V7 ⟨rfl, hb⟩
  have T7 := Lib.hid (GT.below T6.out hb)
  clear hb T6 a0 a1 a2 al c0 c1 c2 cl
  have a0 := T7.out.1.cell (v := .int .i64 lo) 0 rfl
  have a1 := T7.out.1.cell (v := .int .i64 hi) 1 rfl
  have a2 := T7.out.1.cell (v := .int .i64 b) 2 rfl
  have al := T7.out.1.lt
  have c0 := T7.out.2.1.cell (v := .int .i64 lo) 0 rfl
  have c1 := T7.out.2.1.cell (v := .int .i64 hi) 1 rfl
  have c2 := T7.out.2.1.cell (v := .int .i64 b) 2 rfl
  have cl := T7.out.2.1.lt
  go_wp2_with fail
  refine (rpoint_any lo hi b (qi lo hi b x) HG.out HQ.out.1 HQ.out.2 _).mono ?_
  rintro e V8 ⟨rfl, hb⟩
  have T8 := Lib.hid (GT.below T7.out hb)
  clear hb T7 a0 a1 a2 al c0 c1 c2 cl
  have a0 := T8.out.1.cell (v := .int .i64 lo) 0 rfl
  have a1 := T8.out.1.cell (v := .int .i64 hi) 1 rfl
  have a2 := T8.out.1.cell (v := .int .i64 b) 2 rfl
  have al := T8.out.1.lt
  have c0 := T8.out.2.1.cell (v := .int .i64 lo) 0 rfl
  have c1 := T8.out.2.1.cell (v := .int .i64 hi) 1 rfl
  have c2 := T8.out.2.1.cell (v := .int .i64 b) 2 rfl
  have cl := T8.out.2.1.lt
  go_wp2_with fail
  refine (rerror_any lo hi b HG.out _).mono ?_
  rintro e V9 ⟨rfl, hb⟩
  have T9 := Lib.hid (GT.below T8.out hb)
  clear hb T8 a0 a1 a2 al c0 c1 c2 cl
  have a0 := T9.out.1.cell (v := .int .i64 lo) 0 rfl
  have a1 := T9.out.1.cell (v := .int .i64 hi) 1 rfl
  have a2 := T9.out.1.cell (v := .int .i64 b) 2 rfl
  have al := T9.out.1.lt
  have c0 := T9.out.2.1.cell (v := .int .i64 lo) 0 rfl
  have c1 := T9.out.2.1.cell (v := .int .i64 hi) 1 rfl
  have c2 := T9.out.2.1.cell (v := .int .i64 b) 2 rfl
  have cl := T9.out.2.1.lt
  skip
  go_wp2
  go_returns
  exact ⟨ret_bool (by first | rfl | (simp; omega) | simp), T9.out.2.2⟩
set_option maxHeartbeats 1000000 in
theorem tells_high (lo hi b x : Int) (hg : GV lo hi b) (hx : gn b < x) (w : World) :
    Calls Tryz.prog 8 #[G lo hi b, .int .i64 x] w fun e w' => e = .returned (.bool true) ∧ Below w.heap.size w w' := by
  have HG := Lib.hid hg
  have HQ := Lib.hid (qi_bd lo hi b x hg)
  obtain ⟨h1, h2, h3, h4, h5⟩ := hg
  obtain ⟨g1, g2, g3⟩ := gn_bd b h4 h5
  clear h1 h2 h3
  have HX := Lib.hid (show x < 0 ∨ gn b < x from .inr hx)
  have x1 : 0 ≤ x := by omega
  have x2 : gn b + 1 ≤ x := by omega
  clear hx
  go_enter Tryz.func8, Tryz.ntmps8
  go_wp2_with fail
  have T0 := Lib.hid (gt_made w lo hi b)
  refine (index_any lo hi b x HG.out _).mono ?_
  rintro e V1 ⟨rfl, hb⟩
  have T1 := Lib.hid (GT.below T0.out hb)
  clear hb T0
  have a0 := T1.out.1.cell (v := .int .i64 lo) 0 rfl
  have a1 := T1.out.1.cell (v := .int .i64 hi) 1 rfl
  have a2 := T1.out.1.cell (v := .int .i64 b) 2 rfl
  have al := T1.out.1.lt
  have c0 := T1.out.2.1.cell (v := .int .i64 lo) 0 rfl
  have c1 := T1.out.2.1.cell (v := .int .i64 hi) 1 rfl
  have c2 := T1.out.2.1.cell (v := .int .i64 b) 2 rfl
  have cl := T1.out.2.1.lt
  go_wp2_with fail
  refine (point_bad lo hi b x HG.out HX.out _).mono ?_
  rintro e V2 ⟨rfl, hb⟩
  have T2 := Lib.hid (GT.below T1.out hb)
  clear hb T1 a0 a1 a2 al c0 c1 c2 cl
  have a0 := T2.out.1.cell (v := .int .i64 lo) 0 rfl
  have a1 := T2.out.1.cell (v := .int .i64 hi) 1 rfl
  have a2 := T2.out.1.cell (v := .int .i64 b) 2 rfl
  have al := T2.out.1.lt
  have c0 := T2.out.2.1.cell (v := .int .i64 lo) 0 rfl
  have c1 := T2.out.2.1.cell (v := .int .i64 hi) 1 rfl
  have c2 := T2.out.2.1.cell (v := .int .i64 b) 2 rfl
  have cl := T2.out.2.1.lt
  go_wp2_with fail
  refine (gnear_any lo hi b x HG.out _).mono ?_
  rintro e V3 ⟨rfl, hb⟩
  have T3 := Lib.hid (GT.below T2.out hb)
  clear hb T2 a0 a1 a2 al c0 c1 c2 cl
  have a0 := T3.out.1.cell (v := .int .i64 lo) 0 rfl
  have a1 := T3.out.1.cell (v := .int .i64 hi) 1 rfl
  have a2 := T3.out.1.cell (v := .int .i64 b) 2 rfl
  have al := T3.out.1.lt
  have c0 := T3.out.2.1.cell (v := .int .i64 lo) 0 rfl
  have c1 := T3.out.2.1.cell (v := .int .i64 hi) 1 rfl
  have c2 := T3.out.2.1.cell (v := .int .i64 b) 2 rfl
  have cl := T3.out.2.1.lt
  go_wp2_with fail
  refine (error_any lo hi b HG.out _).mono ?_
  rintro e V4 ⟨rfl, hb⟩
  have T4 := Lib.hid (GT.below T3.out hb)
  clear hb T3 a0 a1 a2 al c0 c1 c2 cl
  have a0 := T4.out.1.cell (v := .int .i64 lo) 0 rfl
  have a1 := T4.out.1.cell (v := .int .i64 hi) 1 rfl
  have a2 := T4.out.1.cell (v := .int .i64 b) 2 rfl
  have al := T4.out.1.lt
  have c0 := T4.out.2.1.cell (v := .int .i64 lo) 0 rfl
  have c1 := T4.out.2.1.cell (v := .int .i64 hi) 1 rfl
  have c2 := T4.out.2.1.cell (v := .int .i64 b) 2 rfl
  have cl := T4.out.2.1.lt
  go_upto_region 6 with fail
  replace a0 := cell_regrown a0
  replace a1 := cell_regrown a1
  replace a2 := cell_regrown a2
  replace c0 := cell_regrown c0
  replace c1 := cell_regrown c1
  replace c2 := cell_regrown c2
  refine wp_region_low2 noPosts 4 (by kernel_rfl) (by kernel_rfl) ?_
  simp only [List.take, List.drop]
  iterate 1 (refine low2_step (fun K hK => ?_); go_simp; first | (refine hK _ ?_; clear hK K) | (apply Exists.intro; refine ⟨fun p => ?_, hK _ ?_⟩; clear hK K))
  refine low2_reads 49 #[G lo hi b] (.bool true) (by rfl) (fun w => by go_simp) rfl (by kernel_rfl) (fun V _ _ => valid_yes lo hi b HG.out V) ?_
  iterate 1 (refine low2_step (fun K hK => ?_); go_simp; first | (refine hK _ ?_; clear hK K) | (apply Exists.intro; refine ⟨fun p => ?_, hK _ ?_⟩; clear hK K))
  refine low2_reads 31 #[G lo hi b] (.bool true) (by rfl) (fun w => by go_simp) rfl (by kernel_rfl) (fun V _ _ => rvalid_yes lo hi b HG.out V) ?_
  refine low2_nil ?_
  intro V5 hC
  have T5 := Lib.hid (GT.below T4.out hC.1)
  clear hC T4 a0 a1 a2 al c0 c1 c2 cl
  have a0 := T5.out.1.cell (v := .int .i64 lo) 0 rfl
  have a1 := T5.out.1.cell (v := .int .i64 hi) 1 rfl
  have a2 := T5.out.1.cell (v := .int .i64 b) 2 rfl
  have al := T5.out.1.lt
  have c0 := T5.out.2.1.cell (v := .int .i64 lo) 0 rfl
  have c1 := T5.out.2.1.cell (v := .int .i64 hi) 1 rfl
  have c2 := T5.out.2.1.cell (v := .int .i64 b) 2 rfl
  have cl := T5.out.2.1.lt
  go_wp2_with fail
  refine (valid_yes lo hi b HG.out _).mono ?_
  rintro e V6 ⟨rfl, hb⟩
  have T6 := Lib.hid (GT.below T5.out hb)
  clear hb T5 a0 a1 a2 al c0 c1 c2 cl
  have a0 := T6.out.1.cell (v := .int .i64 lo) 0 rfl
  have a1 := T6.out.1.cell (v := .int .i64 hi) 1 rfl
  have a2 := T6.out.1.cell (v := .int .i64 b) 2 rfl
  have al := T6.out.1.lt
  have c0 := T6.out.2.1.cell (v := .int .i64 lo) 0 rfl
  have c1 := T6.out.2.1.cell (v := .int .i64 hi) 1 rfl
  have c2 := T6.out.2.1.cell (v := .int .i64 b) 2 rfl
  have cl := T6.out.2.1.lt
  go_wp2_with fail
  refine (rindex_any lo hi b x HG.out _).mono ?_
  rintro e V7 ⟨rfl, hb⟩
  have T7 := Lib.hid (GT.below T6.out hb)
  clear hb T6 a0 a1 a2 al c0 c1 c2 cl
  have a0 := T7.out.1.cell (v := .int .i64 lo) 0 rfl
  have a1 := T7.out.1.cell (v := .int .i64 hi) 1 rfl
  have a2 := T7.out.1.cell (v := .int .i64 b) 2 rfl
  have al := T7.out.1.lt
  have c0 := T7.out.2.1.cell (v := .int .i64 lo) 0 rfl
  have c1 := T7.out.2.1.cell (v := .int .i64 hi) 1 rfl
  have c2 := T7.out.2.1.cell (v := .int .i64 b) 2 rfl
  have cl := T7.out.2.1.lt
  go_wp2_with fail
  refine (rpoint_any lo hi b (qi lo hi b x) HG.out HQ.out.1 HQ.out.2 _).mono ?_
  rintro e V8 ⟨rfl, hb⟩
  have T8 := Lib.hid (GT.below T7.out hb)
  clear hb T7 a0 a1 a2 al c0 c1 c2 cl
  have a0 := T8.out.1.cell (v := .int .i64 lo) 0 rfl
  have a1 := T8.out.1.cell (v := .int .i64 hi) 1 rfl
  have a2 := T8.out.1.cell (v := .int .i64 b) 2 rfl
  have al := T8.out.1.lt
  have c0 := T8.out.2.1.cell (v := .int .i64 lo) 0 rfl
  have c1 := T8.out.2.1.cell (v := .int .i64 hi) 1 rfl
  have c2 := T8.out.2.1.cell (v := .int .i64 b) 2 rfl
  have cl := T8.out.2.1.lt
  go_wp2_with fail
  refine (rerror_any lo hi b HG.out _).mono ?_
  rintro e V9 ⟨rfl, hb⟩
  have T9 := Lib.hid (GT.below T8.out hb)
  clear hb T8 a0 a1 a2 al c0 c1 c2 cl
  have a0 := T9.out.1.cell (v := .int .i64 lo) 0 rfl
  have a1 := T9.out.1.cell (v := .int .i64 hi) 1 rfl
  have a2 := T9.out.1.cell (v := .int .i64 b) 2 rfl
  have al := T9.out.1.lt
  have c0 := T9.out.2.1.cell (v := .int .i64 lo) 0 rfl
  have c1 := T9.out.2.1.cell (v := .int .i64 hi) 1 rfl
  have c2 := T9.out.2.1.cell (v := .int .i64 b) 2 rfl
  have cl := T9.out.2.1.lt
  skip
  go_wp2
  go_returns
  exact ⟨ret_bool (by first | rfl | (simp; omega) | simp), T9.out.2.2⟩
theorem tells_any (lo hi b x : Int) (w : World) :
    Calls Tryz.prog 8 #[G lo hi b, .int .i64 x] w fun e w' => e = .returned (.bool true) ∧ Below w.heap.size w w' := by
  by_cases hg : GV lo hi b
  · by_cases h1 : x < 0
    · exact tells_low lo hi b x hg h1 w
    · by_cases h2 : gn b < x
      · exact tells_high lo hi b x hg h2 w
      · exact tells_in lo hi b x hg ⟨by omega, by omega⟩ w
  · exact tells_no lo hi b x hg w
end Go.Proofs.YtghfggfgndgkjaaGreatDoor
