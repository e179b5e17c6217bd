/- step.shifted. (mover).at. sort.Search with the closure of step.least. step.least over the closure of (mover).blocked. The closure of (mover).blocked. -/
import Derived.Test.YtlcjkomfjgddeaaGreatDoorM14
set_option linter.unusedVariables false
set_option linter.unusedSimpArgs false
namespace Go.Proofs.YtlcjkomfjgddeaaGreatDoor
open Go Go.RowKit Go.Sort
set_option maxRecDepth 100000

/-- a body shifted along an axis -/
def shI (b : Bdy) (ax n : Int) : Bdy := if ax = 0 then { b with x := b.x + n } else { b with y := b.y + n }
set_option maxHeartbeats 4000000 in
theorem shifted0 (b : Bdy) (n : Int) (hb : -4611686018427387904 ≤ b.x + n ∧ b.x + n ≤ 4611686018427387904) (w : World) : Calls Tryz.prog 121 #[Bv b, .int .i64 0, .int .i64 n] w fun e w' => e = .returned (Bv (shI b 0 n)) ∧ Below w.heap.size w w' := by
  obtain ⟨z, hz⟩ : ∃ z, b.x + n = z := ⟨_, rfl⟩
  have hr : shI b 0 n = { b with x := z } := by rw [← hz]; rfl
  rw [hr]
  rw [hz] at hb
  obtain ⟨h1, h2⟩ := hb
  clear hr
  unfold Bv
  simp only
  have hi : ∀ (g : Nat) (w : World), (Instr.index 139 (.agg #[.pointer (some ⟨g, 1, none⟩), .pointer (some ⟨g, 1 + 1, none⟩)]) (.int .i64 0)).run Tryz.prog w = .ok (.pointer (some ⟨g, 1, none⟩)) w := fun g w => by kernel_rfl
  go_enter Tryz.func121, Tryz.ntmps121
  go_wp2_with fail
  refine Calls.mono (axes_any w.heap.size 1 _) ?_
  rintro e W1 ⟨rfl, hb1⟩
  have B1 : Bk W1 w.heap.size #[.int .i64 b.id, .int .i64 b.x, .int .i64 b.y, .int .i64 b.vx, .int .i64 b.vy, .int .i64 b.w, .int .i64 b.h, .bool b.round, .bool b.fixed] 133 := Bk.below ((Bk.made _ _ _).alloc _) hb1
  have B6 : Bk W1 (w.heap.size + 1) #[.int .i64 0, .int .i64 0, .int .i64 0, .int .i64 0, .int .i64 0, .int .i64 0, .int .i64 0, .bool false, .bool false] 133 := Bk.below (Bk.at_ (by simp)) hb1
  obtain ⟨hgg, hs⟩ := below_cc (w := w) hb1 (by go_grown)
  clear hb1
  have c0 := B1.cell (v := .int .i64 b.id) 0 rfl
  have c1 := B1.cell (v := .int .i64 b.x) 1 rfl
  have c2 := B1.cell (v := .int .i64 b.y) 2 rfl
  have c3 := B1.cell (v := .int .i64 b.vx) 3 rfl
  have c4 := B1.cell (v := .int .i64 b.vy) 4 rfl
  have c5 := B1.cell (v := .int .i64 b.w) 5 rfl
  have c6 := B1.cell (v := .int .i64 b.h) 6 rfl
  have c7 := B1.cell (v := .bool b.round) 7 rfl
  have c8 := B1.cell (v := .bool b.fixed) 8 rfl
  have f1 := B1.free 1
  have lt1 := B1.lt
  have lt6 := B6.lt
  have d0 := B6.cell (v := .int .i64 0) 0 rfl
  have d1 := B6.cell (v := .int .i64 0) 1 rfl
  have d2 := B6.cell (v := .int .i64 0) 2 rfl
  have d3 := B6.cell (v := .int .i64 0) 3 rfl
  have d4 := B6.cell (v := .int .i64 0) 4 rfl
  have d5 := B6.cell (v := .int .i64 0) 5 rfl
  have d6 := B6.cell (v := .int .i64 0) 6 rfl
  have d7 := B6.cell (v := .bool false) 7 rfl
  have d8 := B6.cell (v := .bool false) 8 rfl
  have e0 := B6.free 0
  have e1 := B6.free 1
  have e2 := B6.free 2
  have e3 := B6.free 3
  have e4 := B6.free 4
  have e5 := B6.free 5
  have e6 := B6.free 6
  have e7 := B6.free 7
  have e8 := B6.free 8
  go_wp2
  have P0 := B6.far (p := ⟨w.heap.size, 1, none⟩) (by simp) (.int .i64 z)
  have G0 := hgg.setCell (p := ⟨w.heap.size, 1, none⟩) (Nat.le_refl _) (.int .i64 z)
  have P1 : Bk _ (w.heap.size + 1) #[.int .i64 b.id, .int .i64 0, .int .i64 0, .int .i64 0, .int .i64 0, .int .i64 0, .int .i64 0, .bool false, .bool false] 133 := P0.put 0 (.int .i64 b.id)
  have G1 := G0.setCell (p := ⟨w.heap.size + 1, 0, none⟩) (Nat.le_succ _) (.int .i64 b.id)
  have P2 : Bk _ (w.heap.size + 1) #[.int .i64 b.id, .int .i64 z, .int .i64 0, .int .i64 0, .int .i64 0, .int .i64 0, .int .i64 0, .bool false, .bool false] 133 := P1.put 1 (.int .i64 z)
  have G2 := G1.setCell (p := ⟨w.heap.size + 1, 1, none⟩) (Nat.le_succ _) (.int .i64 z)
  have P3 : Bk _ (w.heap.size + 1) #[.int .i64 b.id, .int .i64 z, .int .i64 b.y, .int .i64 0, .int .i64 0, .int .i64 0, .int .i64 0, .bool false, .bool false] 133 := P2.put 2 (.int .i64 b.y)
  have G3 := G2.setCell (p := ⟨w.heap.size + 1, 2, none⟩) (Nat.le_succ _) (.int .i64 b.y)
  have P4 : Bk _ (w.heap.size + 1) #[.int .i64 b.id, .int .i64 z, .int .i64 b.y, .int .i64 b.vx, .int .i64 0, .int .i64 0, .int .i64 0, .bool false, .bool false] 133 := P3.put 3 (.int .i64 b.vx)
  have G4 := G3.setCell (p := ⟨w.heap.size + 1, 3, none⟩) (Nat.le_succ _) (.int .i64 b.vx)
  have P5 : Bk _ (w.heap.size + 1) #[.int .i64 b.id, .int .i64 z, .int .i64 b.y, .int .i64 b.vx, .int .i64 b.vy, .int .i64 0, .int .i64 0, .bool false, .bool false] 133 := P4.put 4 (.int .i64 b.vy)
  have G5 := G4.setCell (p := ⟨w.heap.size + 1, 4, none⟩) (Nat.le_succ _) (.int .i64 b.vy)
  have P6 : Bk _ (w.heap.size + 1) #[.int .i64 b.id, .int .i64 z, .int .i64 b.y, .int .i64 b.vx, .int .i64 b.vy, .int .i64 b.w, .int .i64 0, .bool false, .bool false] 133 := P5.put 5 (.int .i64 b.w)
  have G6 := G5.setCell (p := ⟨w.heap.size + 1, 5, none⟩) (Nat.le_succ _) (.int .i64 b.w)
  have P7 : Bk _ (w.heap.size + 1) #[.int .i64 b.id, .int .i64 z, .int .i64 b.y, .int .i64 b.vx, .int .i64 b.vy, .int .i64 b.w, .int .i64 b.h, .bool false, .bool false] 133 := P6.put 6 (.int .i64 b.h)
  have G7 := G6.setCell (p := ⟨w.heap.size + 1, 6, none⟩) (Nat.le_succ _) (.int .i64 b.h)
  have P8 : Bk _ (w.heap.size + 1) #[.int .i64 b.id, .int .i64 z, .int .i64 b.y, .int .i64 b.vx, .int .i64 b.vy, .int .i64 b.w, .int .i64 b.h, .bool b.round, .bool false] 133 := P7.put 7 (.bool b.round)
  have G8 := G7.setCell (p := ⟨w.heap.size + 1, 7, none⟩) (Nat.le_succ _) (.bool b.round)
  have P9 : Bk _ (w.heap.size + 1) #[.int .i64 b.id, .int .i64 z, .int .i64 b.y, .int .i64 b.vx, .int .i64 b.vy, .int .i64 b.w, .int .i64 b.h, .bool b.round, .bool b.fixed] 133 := P8.put 8 (.bool b.fixed)
  have G9 := G8.setCell (p := ⟨w.heap.size + 1, 8, none⟩) (Nat.le_succ _) (.bool b.fixed)
  refine post_name (fun V => Bk V (w.heap.size + 1) #[.int .i64 b.id, .int .i64 z, .int .i64 b.y, .int .i64 b.vx, .int .i64 b.vy, .int .i64 b.w, .int .i64 b.h, .bool b.round, .bool b.fixed] 133 ∧ Below w.heap.size w V) ⟨P9, G9⟩ ?_
  rintro V ⟨BV, hbV⟩
  clear c0 d0 e0 c1 d1 e1 c2 d2 e2 c3 d3 e3 c4 d4 e4 c5 d5 e5 c6 d6 e6 c7 d7 e7 c8 d8 e8 f1
  have y0 := BV.cell (v := .int .i64 b.id) 0 rfl
  have y1 := BV.cell (v := .int .i64 z) 1 rfl
  have y2 := BV.cell (v := .int .i64 b.y) 2 rfl
  have y3 := BV.cell (v := .int .i64 b.vx) 3 rfl
  have y4 := BV.cell (v := .int .i64 b.vy) 4 rfl
  have y5 := BV.cell (v := .int .i64 b.w) 5 rfl
  have y6 := BV.cell (v := .int .i64 b.h) 6 rfl
  have y7 := BV.cell (v := .bool b.round) 7 rfl
  have y8 := BV.cell (v := .bool b.fixed) 8 rfl
  exact bodyPost_ret (v := .agg #[.int .i64 b.id, .int .i64 z, .int .i64 b.y, .int .i64 b.vx, .int .i64 b.vy, .int .i64 b.w, .int .i64 b.h, .bool b.round, .bool b.fixed]) (by simp [results, Tryz.results121, go_sem, y0, y1, y2, y3, y4, y5, y6, y7, y8]; try rfl) rfl ⟨rfl, hbV⟩
set_option maxHeartbeats 4000000 in
theorem shifted1 (b : Bdy) (n : Int) (hb : -4611686018427387904 ≤ b.y + n ∧ b.y + n ≤ 4611686018427387904) (w : World) : Calls Tryz.prog 121 #[Bv b, .int .i64 1, .int .i64 n] w fun e w' => e = .returned (Bv (shI b 1 n)) ∧ Below w.heap.size w w' := by
  obtain ⟨z, hz⟩ : ∃ z, b.y + n = z := ⟨_, rfl⟩
  have hr : shI b 1 n = { b with y := z } := by rw [← hz]; rfl
  rw [hr]
  rw [hz] at hb
  obtain ⟨h1, h2⟩ := hb
  clear hr
  unfold Bv
  simp only
  have hi : ∀ (g : Nat) (w : World), (Instr.index 139 (.agg #[.pointer (some ⟨g, 1, none⟩), .pointer (some ⟨g, 1 + 1, none⟩)]) (.int .i64 1)).run Tryz.prog w = .ok (.pointer (some ⟨g, 2, none⟩)) w := fun g w => by kernel_rfl
  go_enter Tryz.func121, Tryz.ntmps121
  go_wp2_with fail
  refine Calls.mono (axes_any w.heap.size 1 _) ?_
  rintro e W1 ⟨rfl, hb1⟩
  have B1 : Bk W1 w.heap.size #[.int .i64 b.id, .int .i64 b.x, .int .i64 b.y, .int .i64 b.vx, .int .i64 b.vy, .int .i64 b.w, .int .i64 b.h, .bool b.round, .bool b.fixed] 133 := Bk.below ((Bk.made _ _ _).alloc _) hb1
  have B6 : Bk W1 (w.heap.size + 1) #[.int .i64 0, .int .i64 0, .int .i64 0, .int .i64 0, .int .i64 0, .int .i64 0, .int .i64 0, .bool false, .bool false] 133 := Bk.below (Bk.at_ (by simp)) hb1
  obtain ⟨hgg, hs⟩ := below_cc (w := w) hb1 (by go_grown)
  clear hb1
  have c0 := B1.cell (v := .int .i64 b.id) 0 rfl
  have c1 := B1.cell (v := .int .i64 b.x) 1 rfl
  have c2 := B1.cell (v := .int .i64 b.y) 2 rfl
  have c3 := B1.cell (v := .int .i64 b.vx) 3 rfl
  have c4 := B1.cell (v := .int .i64 b.vy) 4 rfl
  have c5 := B1.cell (v := .int .i64 b.w) 5 rfl
  have c6 := B1.cell (v := .int .i64 b.h) 6 rfl
  have c7 := B1.cell (v := .bool b.round) 7 rfl
  have c8 := B1.cell (v := .bool b.fixed) 8 rfl
  have f1 := B1.free 2
  have lt1 := B1.lt
  have lt6 := B6.lt
  have d0 := B6.cell (v := .int .i64 0) 0 rfl
  have d1 := B6.cell (v := .int .i64 0) 1 rfl
  have d2 := B6.cell (v := .int .i64 0) 2 rfl
  have d3 := B6.cell (v := .int .i64 0) 3 rfl
  have d4 := B6.cell (v := .int .i64 0) 4 rfl
  have d5 := B6.cell (v := .int .i64 0) 5 rfl
  have d6 := B6.cell (v := .int .i64 0) 6 rfl
  have d7 := B6.cell (v := .bool false) 7 rfl
  have d8 := B6.cell (v := .bool false) 8 rfl
  have e0 := B6.free 0
  have e1 := B6.free 1
  have e2 := B6.free 2
  have e3 := B6.free 3
  have e4 := B6.free 4
  have e5 := B6.free 5
  have e6 := B6.free 6
  have e7 := B6.free 7
  have e8 := B6.free 8
  go_wp2
  have P0 := B6.far (p := ⟨w.heap.size, 2, none⟩) (by simp) (.int .i64 z)
  have G0 := hgg.setCell (p := ⟨w.heap.size, 2, none⟩) (Nat.le_refl _) (.int .i64 z)
  have P1 : Bk _ (w.heap.size + 1) #[.int .i64 b.id, .int .i64 0, .int .i64 0, .int .i64 0, .int .i64 0, .int .i64 0, .int .i64 0, .bool false, .bool false] 133 := P0.put 0 (.int .i64 b.id)
  have G1 := G0.setCell (p := ⟨w.heap.size + 1, 0, none⟩) (Nat.le_succ _) (.int .i64 b.id)
  have P2 : Bk _ (w.heap.size + 1) #[.int .i64 b.id, .int .i64 b.x, .int .i64 0, .int .i64 0, .int .i64 0, .int .i64 0, .int .i64 0, .bool false, .bool false] 133 := P1.put 1 (.int .i64 b.x)
  have G2 := G1.setCell (p := ⟨w.heap.size + 1, 1, none⟩) (Nat.le_succ _) (.int .i64 b.x)
  have P3 : Bk _ (w.heap.size + 1) #[.int .i64 b.id, .int .i64 b.x, .int .i64 z, .int .i64 0, .int .i64 0, .int .i64 0, .int .i64 0, .bool false, .bool false] 133 := P2.put 2 (.int .i64 z)
  have G3 := G2.setCell (p := ⟨w.heap.size + 1, 2, none⟩) (Nat.le_succ _) (.int .i64 z)
  have P4 : Bk _ (w.heap.size + 1) #[.int .i64 b.id, .int .i64 b.x, .int .i64 z, .int .i64 b.vx, .int .i64 0, .int .i64 0, .int .i64 0, .bool false, .bool false] 133 := P3.put 3 (.int .i64 b.vx)
  have G4 := G3.setCell (p := ⟨w.heap.size + 1, 3, none⟩) (Nat.le_succ _) (.int .i64 b.vx)
  have P5 : Bk _ (w.heap.size + 1) #[.int .i64 b.id, .int .i64 b.x, .int .i64 z, .int .i64 b.vx, .int .i64 b.vy, .int .i64 0, .int .i64 0, .bool false, .bool false] 133 := P4.put 4 (.int .i64 b.vy)
  have G5 := G4.setCell (p := ⟨w.heap.size + 1, 4, none⟩) (Nat.le_succ _) (.int .i64 b.vy)
  have P6 : Bk _ (w.heap.size + 1) #[.int .i64 b.id, .int .i64 b.x, .int .i64 z, .int .i64 b.vx, .int .i64 b.vy, .int .i64 b.w, .int .i64 0, .bool false, .bool false] 133 := P5.put 5 (.int .i64 b.w)
  have G6 := G5.setCell (p := ⟨w.heap.size + 1, 5, none⟩) (Nat.le_succ _) (.int .i64 b.w)
  have P7 : Bk _ (w.heap.size + 1) #[.int .i64 b.id, .int .i64 b.x, .int .i64 z, .int .i64 b.vx, .int .i64 b.vy, .int .i64 b.w, .int .i64 b.h, .bool false, .bool false] 133 := P6.put 6 (.int .i64 b.h)
  have G7 := G6.setCell (p := ⟨w.heap.size + 1, 6, none⟩) (Nat.le_succ _) (.int .i64 b.h)
  have P8 : Bk _ (w.heap.size + 1) #[.int .i64 b.id, .int .i64 b.x, .int .i64 z, .int .i64 b.vx, .int .i64 b.vy, .int .i64 b.w, .int .i64 b.h, .bool b.round, .bool false] 133 := P7.put 7 (.bool b.round)
  have G8 := G7.setCell (p := ⟨w.heap.size + 1, 7, none⟩) (Nat.le_succ _) (.bool b.round)
  have P9 : Bk _ (w.heap.size + 1) #[.int .i64 b.id, .int .i64 b.x, .int .i64 z, .int .i64 b.vx, .int .i64 b.vy, .int .i64 b.w, .int .i64 b.h, .bool b.round, .bool b.fixed] 133 := P8.put 8 (.bool b.fixed)
  have G9 := G8.setCell (p := ⟨w.heap.size + 1, 8, none⟩) (Nat.le_succ _) (.bool b.fixed)
  refine post_name (fun V => Bk V (w.heap.size + 1) #[.int .i64 b.id, .int .i64 b.x, .int .i64 z, .int .i64 b.vx, .int .i64 b.vy, .int .i64 b.w, .int .i64 b.h, .bool b.round, .bool b.fixed] 133 ∧ Below w.heap.size w V) ⟨P9, G9⟩ ?_
  rintro V ⟨BV, hbV⟩
  clear c0 d0 e0 c1 d1 e1 c2 d2 e2 c3 d3 e3 c4 d4 e4 c5 d5 e5 c6 d6 e6 c7 d7 e7 c8 d8 e8 f1
  have y0 := BV.cell (v := .int .i64 b.id) 0 rfl
  have y1 := BV.cell (v := .int .i64 b.x) 1 rfl
  have y2 := BV.cell (v := .int .i64 z) 2 rfl
  have y3 := BV.cell (v := .int .i64 b.vx) 3 rfl
  have y4 := BV.cell (v := .int .i64 b.vy) 4 rfl
  have y5 := BV.cell (v := .int .i64 b.w) 5 rfl
  have y6 := BV.cell (v := .int .i64 b.h) 6 rfl
  have y7 := BV.cell (v := .bool b.round) 7 rfl
  have y8 := BV.cell (v := .bool b.fixed) 8 rfl
  exact bodyPost_ret (v := .agg #[.int .i64 b.id, .int .i64 b.x, .int .i64 z, .int .i64 b.vx, .int .i64 b.vy, .int .i64 b.w, .int .i64 b.h, .bool b.round, .bool b.fixed]) (by simp [results, Tryz.results121, go_sem, y0, y1, y2, y3, y4, y5, y6, y7, y8]; try rfl) rfl ⟨rfl, hbV⟩
end Go.Proofs.YtlcjkomfjgddeaaGreatDoor
namespace Go.Proofs.YtlcjkomfjgddeaaGreatDoor
open Go Go.RowKit Go.Sort
set_option maxRecDepth 100000

theorem shifted_any (b : Bdy) (ax n : Int) (hax : ax = 0 ∨ ax = 1) (hx : -1099511627776 ≤ b.x ∧ b.x ≤ 1099511627776) (hy : -1099511627776 ≤ b.y ∧ b.y ≤ 1099511627776) (hn : -1099511627776 ≤ n ∧ n ≤ 1099511627776) (w : World) : Calls Tryz.prog 121 #[Bv b, .int .i64 ax, .int .i64 n] w fun e w' => e = .returned (Bv (shI b ax n)) ∧ Below w.heap.size w w' := by
  rcases hax with rfl | rfl
  · exact shifted0 b n (by omega) w
  · exact shifted1 b n (by omega) w
/-- a mover -/
def Mv (s r : Option Addr × Nat × Nat) (gx gy : Int) (b : Bdy) (ax sg : Int) : Value := .agg #[.slice s.1 s.2.1 s.2.2, .slice r.1 r.2.1 r.2.2, .int .i64 gx, .int .i64 gy, .int .i64 b.id, .int .i64 b.x, .int .i64 b.y, .int .i64 b.vx, .int .i64 b.vy, .int .i64 b.w, .int .i64 b.h, .bool b.round, .bool b.fixed, .int .i64 ax, .int .i64 sg]
set_option maxHeartbeats 4000000 in
theorem mat_any (s r : Option Addr × Nat × Nat) (gx gy : Int) (b : Bdy) (ax sg n : Int) (hax : ax = 0 ∨ ax = 1) (hsg : sg = 1 ∨ sg = -1) (hx : -1099511627776 ≤ b.x ∧ b.x ≤ 1099511627776) (hy : -1099511627776 ≤ b.y ∧ b.y ≤ 1099511627776) (hn : -1099511627776 ≤ n ∧ n ≤ 1099511627776) (w : World) :
    Calls Tryz.prog 85 #[Mv s r gx gy b ax sg, .int .i64 n] w fun e w' => e = .returned (Bv (shI b ax (sg * n))) ∧ Below w.heap.size w w' := by
  obtain ⟨s1, s2, s3⟩ := s
  obtain ⟨r1, r2, r3⟩ := r
  obtain ⟨z, hz⟩ : ∃ z, sg * n = z := ⟨_, rfl⟩
  have hzb : -1099511627776 ≤ z ∧ z ≤ 1099511627776 := by rw [← hz]; rcases hsg with rfl | rfl <;> omega
  have SH := fun V => shifted_any b ax z hax hx hy hzb V
  rw [hz]
  have wz : IntKind.i64.wrap (sg * n) = z := by rw [hz, IntKind.wrap_i64]; omega
  obtain ⟨q, hq⟩ : ∃ q, shI b ax z = q := ⟨_, rfl⟩
  rw [hq] at SH ⊢
  have HSH := Lib.hid SH
  have HQ := Lib.hid hq
  clear SH hq hax hsg hx hy hn
  obtain ⟨h1, h2⟩ := hzb
  unfold Mv Bv
  simp only
  unfold Bv at HSH
  go_enter Tryz.func85, Tryz.ntmps85
  go_wp2_with fail
  refine Calls.mono (HSH.out _) ?_
  rintro e W1 ⟨rfl, hb1⟩
  have B6 : Bk W1 (w.heap.size + 1) #[.int .i64 0, .int .i64 0, .int .i64 0, .int .i64 0, .int .i64 0, .int .i64 0, .int .i64 0, .bool false, .bool false] 133 := Bk.below (Bk.at_ (by simp)) hb1
  obtain ⟨hgg, hs⟩ := below_cc (w := w) hb1 (by go_grown)
  clear hb1 wz hz h1 h2
  have lt6 := B6.lt
  have d0 := B6.cell (v := .int .i64 0) 0 rfl
  have d1 := B6.cell (v := .int .i64 0) 1 rfl
  have d2 := B6.cell (v := .int .i64 0) 2 rfl
  have d3 := B6.cell (v := .int .i64 0) 3 rfl
  have d4 := B6.cell (v := .int .i64 0) 4 rfl
  have d5 := B6.cell (v := .int .i64 0) 5 rfl
  have d6 := B6.cell (v := .int .i64 0) 6 rfl
  have d7 := B6.cell (v := .bool false) 7 rfl
  have d8 := B6.cell (v := .bool false) 8 rfl
  have e0 := B6.free 0
  have e1 := B6.free 1
  have e2 := B6.free 2
  have e3 := B6.free 3
  have e4 := B6.free 4
  have e5 := B6.free 5
  have e6 := B6.free 6
  have e7 := B6.free 7
  have e8 := B6.free 8
  go_wp2
  have P0 := B6
  have G0 := hgg
  have P1 : Bk _ (w.heap.size + 1) #[.int .i64 q.id, .int .i64 0, .int .i64 0, .int .i64 0, .int .i64 0, .int .i64 0, .int .i64 0, .bool false, .bool false] 133 := P0.put 0 (.int .i64 q.id)
  have G1 := G0.setCell (p := ⟨w.heap.size + 1, 0, none⟩) (Nat.le_succ _) (.int .i64 q.id)
  have P2 : Bk _ (w.heap.size + 1) #[.int .i64 q.id, .int .i64 q.x, .int .i64 0, .int .i64 0, .int .i64 0, .int .i64 0, .int .i64 0, .bool false, .bool false] 133 := P1.put 1 (.int .i64 q.x)
  have G2 := G1.setCell (p := ⟨w.heap.size + 1, 1, none⟩) (Nat.le_succ _) (.int .i64 q.x)
  have P3 : Bk _ (w.heap.size + 1) #[.int .i64 q.id, .int .i64 q.x, .int .i64 q.y, .int .i64 0, .int .i64 0, .int .i64 0, .int .i64 0, .bool false, .bool false] 133 := P2.put 2 (.int .i64 q.y)
  have G3 := G2.setCell (p := ⟨w.heap.size + 1, 2, none⟩) (Nat.le_succ _) (.int .i64 q.y)
  have P4 : Bk _ (w.heap.size + 1) #[.int .i64 q.id, .int .i64 q.x, .int .i64 q.y, .int .i64 q.vx, .int .i64 0, .int .i64 0, .int .i64 0, .bool false, .bool false] 133 := P3.put 3 (.int .i64 q.vx)
  have G4 := G3.setCell (p := ⟨w.heap.size + 1, 3, none⟩) (Nat.le_succ _) (.int .i64 q.vx)
  have P5 : Bk _ (w.heap.size + 1) #[.int .i64 q.id, .int .i64 q.x, .int .i64 q.y, .int .i64 q.vx, .int .i64 q.vy, .int .i64 0, .int .i64 0, .bool false, .bool false] 133 := P4.put 4 (.int .i64 q.vy)
  have G5 := G4.setCell (p := ⟨w.heap.size + 1, 4, none⟩) (Nat.le_succ _) (.int .i64 q.vy)
  have P6 : Bk _ (w.heap.size + 1) #[.int .i64 q.id, .int .i64 q.x, .int .i64 q.y, .int .i64 q.vx, .int .i64 q.vy, .int .i64 q.w, .int .i64 0, .bool false, .bool false] 133 := P5.put 5 (.int .i64 q.w)
  have G6 := G5.setCell (p := ⟨w.heap.size + 1, 5, none⟩) (Nat.le_succ _) (.int .i64 q.w)
  have P7 : Bk _ (w.heap.size + 1) #[.int .i64 q.id, .int .i64 q.x, .int .i64 q.y, .int .i64 q.vx, .int .i64 q.vy, .int .i64 q.w, .int .i64 q.h, .bool false, .bool false] 133 := P6.put 6 (.int .i64 q.h)
  have G7 := G6.setCell (p := ⟨w.heap.size + 1, 6, none⟩) (Nat.le_succ _) (.int .i64 q.h)
  have P8 : Bk _ (w.heap.size + 1) #[.int .i64 q.id, .int .i64 q.x, .int .i64 q.y, .int .i64 q.vx, .int .i64 q.vy, .int .i64 q.w, .int .i64 q.h, .bool q.round, .bool false] 133 := P7.put 7 (.bool q.round)
  have G8 := G7.setCell (p := ⟨w.heap.size + 1, 7, none⟩) (Nat.le_succ _) (.bool q.round)
  have P9 : Bk _ (w.heap.size + 1) #[.int .i64 q.id, .int .i64 q.x, .int .i64 q.y, .int .i64 q.vx, .int .i64 q.vy, .int .i64 q.w, .int .i64 q.h, .bool q.round, .bool q.fixed] 133 := P8.put 8 (.bool q.fixed)
  have G9 := G8.setCell (p := ⟨w.heap.size + 1, 8, none⟩) (Nat.le_succ _) (.bool q.fixed)
  refine post_name (fun V => Bk V (w.heap.size + 1) #[.int .i64 q.id, .int .i64 q.x, .int .i64 q.y, .int .i64 q.vx, .int .i64 q.vy, .int .i64 q.w, .int .i64 q.h, .bool q.round, .bool q.fixed] 133 ∧ Below w.heap.size w V) ⟨P9, G9⟩ ?_
  rintro V ⟨BV, hbV⟩
  clear d0 e0 d1 e1 d2 e2 d3 e3 d4 e4 d5 e5 d6 e6 d7 e7 d8 e8
  have y0 := BV.cell (v := .int .i64 q.id) 0 rfl
  have y1 := BV.cell (v := .int .i64 q.x) 1 rfl
  have y2 := BV.cell (v := .int .i64 q.y) 2 rfl
  have y3 := BV.cell (v := .int .i64 q.vx) 3 rfl
  have y4 := BV.cell (v := .int .i64 q.vy) 4 rfl
  have y5 := BV.cell (v := .int .i64 q.w) 5 rfl
  have y6 := BV.cell (v := .int .i64 q.h) 6 rfl
  have y7 := BV.cell (v := .bool q.round) 7 rfl
  have y8 := BV.cell (v := .bool q.fixed) 8 rfl
  exact bodyPost_ret (v := .agg #[.int .i64 q.id, .int .i64 q.x, .int .i64 q.y, .int .i64 q.vx, .int .i64 q.vy, .int .i64 q.w, .int .i64 q.h, .bool q.round, .bool q.fixed]) (by simp [results, Tryz.results85, go_sem, y0, y1, y2, y3, y4, y5, y6, y7, y8]; try rfl) rfl ⟨rfl, hbV⟩
end Go.Proofs.YtlcjkomfjgddeaaGreatDoor
namespace Go.Proofs.YtlcjkomfjgddeaaGreatDoor
open Go Go.RowKit Go.Sort
set_option maxRecDepth 100000

/-- the binary search for the first place from i to j for which f holds -/
def srch (f : Int → Bool) : Nat → Int → Int → Int
  | 0, i, _ => i
  | k + 1, i, j => if i < j then (if f ((i + j) / 2) = true then srch f k i ((i + j) / 2) else srch f k ((i + j) / 2 + 1) j) else i
theorem srch_done (f : Int → Bool) (k : Nat) {i j : Int} (h : ¬ i < j) : srch f k i j = i := by
  cases k with
  | zero => rfl
  | succ k => unfold srch; rw [if_neg h]
set_option maxHeartbeats 4000000 in
theorem search_any (f : Int → Bool) (n : Int) (g : Nat) (w : World) (hn : 0 ≤ n ∧ n ≤ 1099511627776)
    (hf : ∀ (i : Int) (V : World), 0 ≤ i → i < n → Below w.heap.size w V → Calls Tryz.prog 138 #[.int .i64 i, .pointer (some ⟨g, 0, none⟩)] V fun e w' => e = .returned (.bool (f i)) ∧ Below V.heap.size V w') :
    Calls Tryz.prog 137 #[.int .i64 n, .func (.func 138) #[] #[.pointer (some ⟨g, 0, none⟩)]] w fun e w' => e = .returned (.int .i64 (srch f n.toNat 0 n)) ∧ Below w.heap.size w w' := by
  obtain ⟨r, hr⟩ : ∃ r, srch f n.toNat 0 n = r := ⟨_, rfl⟩
  rw [hr]
  have HF := Lib.hid hf
  have HR := Lib.hid (show ∃ k : Nat, (n - 0).toNat ≤ k ∧ srch f k 0 n = r from ⟨n.toNat, by omega, hr⟩)
  obtain ⟨n0, n1⟩ := hn
  clear hf hr
  go_enter Tryz.func137, Tryz.ntmps137
  go_wp2
  go_loopw [5, 6] (fun v5 v6 wr => ∃ i j : Int, (0 ≤ i ∧ i ≤ j ∧ j ≤ n) ∧ v5 = .int .i64 i ∧ v6 = .int .i64 j ∧ Hid (∃ k : Nat, (j - i).toNat ≤ k ∧ srch f k i j = r) ∧ Below w.heap.size w wr) (fun v5 v6 _ => (intOf v6 - intOf v5).toNat)
  case atStart => exact ⟨0, n, by omega, rfl, rfl, HR, by go_grown⟩
  case round =>
    obtain ⟨i, j, ⟨i0, ij, jn⟩, rfl, rfl, HK, hb⟩ := hrel
    by_cases hlt : i < j
    · obtain ⟨h, hh⟩ : ∃ h, (i + j) / 2 = h := ⟨_, rfl⟩
      have hb1 : i ≤ h ∧ h < j := by omega
      obtain ⟨h1, h2⟩ := hb1
      have HK2 : ∃ k : Nat, (j - i).toNat ≤ k + 1 ∧ (if f h = true then srch f k i h else srch f k (h + 1) j) = r := by
        obtain ⟨k, hk, he⟩ := HK.out
        cases k with
        | zero => omega
        | succ k =>
          unfold srch at he
          rw [if_pos hlt, hh] at he
          exact ⟨k, hk, he⟩
      have HK3 := Lib.hid HK2
      clear HK2
      go_wp2_with fail
      refine Calls.mono (HF.out h wr (by omega) (by omega) hb) ?_
      rintro e W1 ⟨rfl, hb1⟩
      have hbb : Below w.heap.size w W1 := (below_cc (w := w) hb1 hb).1
      have HH := Lib.hid hh
      clear hb1 hb hh
      cases hfh : f h
      · have HN : Hid (∃ k : Nat, (j - (h + 1)).toNat ≤ k ∧ srch f k (h + 1) j = r) := by
          obtain ⟨k, hk, he⟩ := HK3.out
          rw [hfh] at he
          simp only [Bool.false_eq_true, if_false] at he
          exact Lib.hid ⟨k, by omega, he⟩
        go_wp2
        go_roundw
        case rel => exact ⟨h + 1, j, ⟨by omega, by omega, jn⟩, rfl, rfl, HN, hbb⟩
        case measure => simp [intOf]; omega
      · have HN : Hid (∃ k : Nat, (h - i).toNat ≤ k ∧ srch f k i h = r) := by
          obtain ⟨k, hk, he⟩ := HK3.out
          rw [hfh] at he
          simp only [if_true] at he
          exact Lib.hid ⟨k, by omega, he⟩
        go_wp2
        go_roundw
        case rel => exact ⟨i, h, ⟨i0, h1, by omega⟩, rfl, rfl, HN, hbb⟩
        case measure => simp [intOf]; omega
    · obtain rfl : i = r := by
        obtain ⟨k, -, hk⟩ := HK.out
        rw [← hk, srch_done f k hlt]
      go_wp2
      go_returns
      exact ⟨rfl, hb⟩
end Go.Proofs.YtlcjkomfjgddeaaGreatDoor
namespace Go.Proofs.YtlcjkomfjgddeaaGreatDoor
open Go Go.RowKit Go.Sort
set_option maxRecDepth 100000

def leastI (f : Int → Bool) (most : Int) : Int := 1 + srch (fun i => f (i + 1)) most.toNat 0 most
theorem srch_bd (f : Int → Bool) : ∀ (k : Nat) (i j : Int), i ≤ j → i ≤ srch f k i j ∧ srch f k i j ≤ j
  | 0, i, j, h => ⟨Int.le_refl _, h⟩
  | k + 1, i, j, h => by
    unfold srch
    split
    · split
      · have := srch_bd f k i ((i + j) / 2) (by omega); omega
      · have := srch_bd f k ((i + j) / 2 + 1) j (by omega); omega
    · omega
set_option maxHeartbeats 4000000 in
theorem least_any (f : Int → Bool) (most : Int) (p q : Nat) (w : World) (hn : 0 ≤ most ∧ most ≤ 1099511627776)
    (hf : ∀ (i : Int) (V : World), 1 ≤ i → i ≤ most → Below w.heap.size w V → Calls Tryz.prog 141 #[.int .i64 i, .pointer (some ⟨p, 0, none⟩), .pointer (some ⟨q, 0, none⟩)] V fun e w' => e = .returned (.bool (f i)) ∧ Below V.heap.size V w') :
    Calls Tryz.prog 116 #[.int .i64 most, .func (.func 141) #[] #[.pointer (some ⟨p, 0, none⟩), .pointer (some ⟨q, 0, none⟩)]] w fun e w' => e = .returned (.int .i64 (leastI f most)) ∧ Below w.heap.size w w' := by
  have hB0 : Bk (w.alloc (.cells #[.func (.func 141) #[] #[.pointer (some ⟨p, 0, none⟩), .pointer (some ⟨q, 0, none⟩)]] 80)) w.heap.size #[.func (.func 141) #[] #[.pointer (some ⟨p, 0, none⟩), .pointer (some ⟨q, 0, none⟩)]] 80 := Bk.made _ _ _
  have hd0 := (Below.refl w.heap.size w).alloc (Nat.le_refl _) (.cells #[.func (.func 141) #[] #[.pointer (some ⟨p, 0, none⟩), .pointer (some ⟨q, 0, none⟩)]] 80)
  have inner : ∀ (i : Int) (V : World), 0 ≤ i → i < most → Below (w.alloc (.cells #[.func (.func 141) #[] #[.pointer (some ⟨p, 0, none⟩), .pointer (some ⟨q, 0, none⟩)]] 80)).heap.size (w.alloc (.cells #[.func (.func 141) #[] #[.pointer (some ⟨p, 0, none⟩), .pointer (some ⟨q, 0, none⟩)]] 80)) V → Calls Tryz.prog 138 #[.int .i64 i, .pointer (some ⟨w.heap.size, 0, none⟩)] V fun e w' => e = .returned (.bool ((fun i => f (i + 1)) i)) ∧ Below V.heap.size V w' := fun i V i0 i1 hV => by
    have B := hB0.below hV
    have c0 := B.cell (v := .func (.func 141) #[] #[.pointer (some ⟨p, 0, none⟩), .pointer (some ⟨q, 0, none⟩)]) 0 rfl
    have lt := B.lt
    have HH := Lib.hid (hf (i + 1) V (by omega) (by omega) (below_cc hV hd0).1)
    have hm := hn.2
    clear B hB0 hd0 hf hV hn
    go_enter Tryz.func138, Tryz.ntmps138
    go_wp2_with fail
    refine Calls.mono HH.out ?_
    rintro e W1 ⟨rfl, hb⟩
    go_wp2
    go_returns
    exact ⟨rfl, hb⟩
  have bd := srch_bd (fun i => f (i + 1)) most.toNat 0 most hn.1
  have SA := search_any (fun i => f (i + 1)) most w.heap.size _ hn inner
  obtain ⟨z, hz⟩ : ∃ z, srch (fun i => f (i + 1)) most.toNat 0 most = z := ⟨_, rfl⟩
  unfold leastI
  rw [hz] at SA bd ⊢
  have HSA := Lib.hid SA
  have hm := hn.2
  clear hf inner SA hB0 hz hn
  obtain ⟨z0, z1⟩ := bd
  go_enter Tryz.func116, Tryz.ntmps116
  go_wp2_with fail
  refine Calls.mono HSA.out ?_
  rintro e W1 ⟨rfl, hb⟩
  obtain ⟨hgg, hs⟩ := below_cc (w := w) hb hd0
  clear hb hd0
  go_wp2
  go_returns
  exact ⟨rfl, hgg⟩
end Go.Proofs.YtlcjkomfjgddeaaGreatDoor
namespace Go.Proofs.YtlcjkomfjgddeaaGreatDoor
open Go Go.RowKit Go.Sort
set_option maxRecDepth 100000
attribute [local go_sem] opLow opUpon opLow2 opUpon2

/-- the cells of a mover -/
def mcs (s r : Option Addr × Nat × Nat) (gx gy : Int) (b : Bdy) (ax sg : Int) : Array Value := #[.slice s.1 s.2.1 s.2.2, .slice r.1 r.2.1 r.2.2, .int .i64 gx, .int .i64 gy, .int .i64 b.id, .int .i64 b.x, .int .i64 b.y, .int .i64 b.vx, .int .i64 b.vy, .int .i64 b.w, .int .i64 b.h, .bool b.round, .bool b.fixed, .int .i64 ax, .int .i64 sg]
set_option maxHeartbeats 4000000 in
theorem blocked1_any (s r : Option Addr × Nat × Nat) (gx gy : Int) (b o : Bdy) (ax sg i : Int) (p q : Nat) (w : World) (hM : RM w) (hax : ax = 0 ∨ ax = 1) (hsg : sg = 1 ∨ sg = -1) (hx : -1099511627776 ≤ b.x ∧ b.x ≤ 1099511627776) (hy : -1099511627776 ≤ b.y ∧ b.y ≤ 1099511627776) (hi : -1099511627776 ≤ i ∧ i ≤ 1099511627776)
    (hp : Bk w p (mcs s r gx gy b ax sg) 143) (hq : Bk w q (bcs o) 133) :
    Calls Tryz.prog 141 #[.int .i64 i, .pointer (some ⟨p, 0, none⟩), .pointer (some ⟨q, 0, none⟩)] w fun e w' => e = .returned (.bool (overI (shI b ax (sg * i)) o)) ∧ Below w.heap.size w w' := by
  obtain ⟨z, hz⟩ : ∃ z, shI b ax (sg * i) = z := ⟨_, rfl⟩
  obtain ⟨v, hv⟩ : ∃ v, overI z o = v := ⟨_, rfl⟩
  have MA := fun V => mat_any s r gx gy b ax sg i hax hsg hx hy hi V
  rw [hz] at MA ⊢
  have OV := fun V (hV : Below w.heap.size w V) => over_any z o V (hM.below hV)
  rw [hv] at OV ⊢
  have HMO := Lib.hid (And.intro MA OV)
  clear hz hv MA OV hax hsg hx hy hi
  unfold mcs at hp
  unfold bcs at hq
  have c0 := cell_regrown (hp.cell (v := .slice s.1 s.2.1 s.2.2) 0 rfl)
  have c1 := cell_regrown (hp.cell (v := .slice r.1 r.2.1 r.2.2) 1 rfl)
  have c2 := cell_regrown (hp.cell (v := .int .i64 gx) 2 rfl)
  have c3 := cell_regrown (hp.cell (v := .int .i64 gy) 3 rfl)
  have c4 := cell_regrown (hp.cell (v := .int .i64 b.id) 4 rfl)
  have c5 := cell_regrown (hp.cell (v := .int .i64 b.x) 5 rfl)
  have c6 := cell_regrown (hp.cell (v := .int .i64 b.y) 6 rfl)
  have c7 := cell_regrown (hp.cell (v := .int .i64 b.vx) 7 rfl)
  have c8 := cell_regrown (hp.cell (v := .int .i64 b.vy) 8 rfl)
  have c9 := cell_regrown (hp.cell (v := .int .i64 b.w) 9 rfl)
  have c10 := cell_regrown (hp.cell (v := .int .i64 b.h) 10 rfl)
  have c11 := cell_regrown (hp.cell (v := .bool b.round) 11 rfl)
  have c12 := cell_regrown (hp.cell (v := .bool b.fixed) 12 rfl)
  have c13 := cell_regrown (hp.cell (v := .int .i64 ax) 13 rfl)
  have c14 := cell_regrown (hp.cell (v := .int .i64 sg) 14 rfl)
  have d0 := cell_regrown (hq.cell (v := .int .i64 o.id) 0 rfl)
  have d1 := cell_regrown (hq.cell (v := .int .i64 o.x) 1 rfl)
  have d2 := cell_regrown (hq.cell (v := .int .i64 o.y) 2 rfl)
  have d3 := cell_regrown (hq.cell (v := .int .i64 o.vx) 3 rfl)
  have d4 := cell_regrown (hq.cell (v := .int .i64 o.vy) 4 rfl)
  have d5 := cell_regrown (hq.cell (v := .int .i64 o.w) 5 rfl)
  have d6 := cell_regrown (hq.cell (v := .int .i64 o.h) 6 rfl)
  have d7 := cell_regrown (hq.cell (v := .bool o.round) 7 rfl)
  have d8 := cell_regrown (hq.cell (v := .bool o.fixed) 8 rfl)
  have ltp := hp.lt
  have ltq := hq.lt
  go_enter Tryz.func141, Tryz.ntmps141
  go_wp2
  refine wp_region_low2 noPosts 5 (by kernel_rfl) (by kernel_rfl) ?_
  simp only [List.take, List.drop]
  iterate 2 (refine low2_step (fun K hK => ?_); go_simp; first | (refine hK _ ?_; clear hK K) | (apply Exists.intro; refine ⟨fun p => ?_, hK _ ?_⟩; clear hK K))
  refine low2_reads 85 #[Mv s r gx gy b ax sg, .int .i64 i] (Bv z) (by rfl) (fun w => by unfold Mv; go_simp; try rfl) rfl (by kernel_rfl) (fun V1 hV hG => HMO.out.1 V1) ?_
  iterate 1 (refine low2_step (fun K hK => ?_); go_simp; first | (refine hK _ ?_; clear hK K) | (apply Exists.intro; refine ⟨fun p => ?_, hK _ ?_⟩; clear hK K))
  refine low2_reads 140 #[Bv z, Bv o] (.bool v) (by rfl) (fun w => by unfold Bv; go_simp; try rfl) rfl (by kernel_rfl) (fun V1 hV hG => HMO.out.2 V1 hV) ?_
  refine low2_nil ?_
  intro W2 hC
  have hgg := hC.1
  clear hC
  go_wp2
  go_returns
  exact ⟨rfl, hgg⟩
end Go.Proofs.YtlcjkomfjgddeaaGreatDoor
