/- step.fly. -/
import Derived.Test.YtlcjkomfjgddeaaGreatDoorM11
import Derived.Test.YtlcjkomfjgddeaaGreatDoorM12
set_option linter.unusedVariables false
set_option linter.unusedSimpArgs false
namespace Go.Proofs.YtlcjkomfjgddeaaGreatDoor
open Go Go.RowKit Go.Sort
set_option maxRecDepth 100000
attribute [local go_sem] opLow opUpon opLow2 opUpon2

def clampC (x : Int) : Int := max (min x 1048576) (-1048576)
/-- a coordinate and a speed behind a tick -/
def flyP (p v : Int) : Int := clampC (p + v)
def flyV (p v : Int) : Int := if clampC (p + v) = p + v then v else 0
def FlyAt (base : Nat) (W0 W : World) (g n cap i j : Nat) (l : List Cmp) (X Y : Cmp) : Prop :=
  RowC base W (.slice (some ⟨g, 0, none⟩) n cap) ((l.set i X).set j Y) ∧ W0.grownBy W (some g) ∧ i < l.length ∧ j < l.length ∧ i ≠ j
theorem grown_set {w0 w : World} {g o : Nat} (u : Value) (h : w0.grownBy w (some g)) : w0.grownBy (w.setCell ⟨g, o, none⟩ u) (some g) :=
  ⟨h.os, h.tape, h.output, by simpa [World.setCell] using h.size, fun k hk hne => (Below.heap_setCell w ⟨g, o, none⟩ u k (fun e => hne (by rw [e]))).trans (h.block k hk hne)⟩
theorem grown_below {w0 w w' : World} {row : Option Nat} (h : w0.grownBy w row) (hb : Below w.heap.size w w') : w0.grownBy w' row :=
  ⟨hb.os.trans h.os, hb.tape.trans h.tape, hb.output.trans h.output, Nat.le_trans h.size hb.size, fun k hk hne => (hb.block k (Nat.lt_of_lt_of_le hk h.size)).trans (h.block k hk hne)⟩
theorem FlyAt.below {base : Nat} {W0 W W' : World} {g n cap i j : Nat} {l : List Cmp} {X Y : Cmp} (h : FlyAt base W0 W g n cap i j l X Y) (hb : Below W.heap.size W W') : FlyAt base W0 W' g n cap i j l X Y :=
  ⟨h.1.below hb, grown_below h.2.1 hb, h.2.2⟩
theorem FlyAt.atX {base : Nat} {W0 W : World} {g n cap i j : Nat} {l : List Cmp} {X Y : Cmp} (h : FlyAt base W0 W g n cap i j l X Y) : ((l.set i X).set j Y)[i]? = some X := by
  rw [List.getElem?_set_ne (Ne.symm h.2.2.2.2), List.getElem?_set_self h.2.2.1]
theorem FlyAt.atY {base : Nat} {W0 W : World} {g n cap i j : Nat} {l : List Cmp} {X Y : Cmp} (h : FlyAt base W0 W g n cap i j l X Y) : ((l.set i X).set j Y)[j]? = some Y := by
  rw [List.getElem?_set_self (by rw [List.length_set]; exact h.2.2.2.1)]
theorem FlyAt.cells {base : Nat} {W0 W : World} {g n cap i j : Nat} {l : List Cmp} {X Y : Cmp} (h : FlyAt base W0 W g n cap i j l X Y) :
    (W.cell? ⟨g, i * 5 + 1, none⟩ = some (.int .i64 X.a) ∧ W.cell? ⟨g, i * 5 + 1 + 1, none⟩ = some (.int .i64 X.b)) ∧ (W.cell? ⟨g, j * 5 + 1, none⟩ = some (.int .i64 Y.a) ∧ W.cell? ⟨g, j * 5 + 1 + 1, none⟩ = some (.int .i64 Y.b)) ∧ (∀ o, W.frozen? ⟨g, o, none⟩ = false) ∧ g < W.heap.size := by
  obtain ⟨g1, c1, cur1, e1, -, b1, f1, -, x1, x2⟩ := h.1.comp h.atX
  obtain ⟨g2, c2, cur2, e2, -, b2, f2, -, y1, y2⟩ := h.1.comp h.atY
  cases e1
  cases e2
  simp only [Nat.zero_add] at x1 x2 y1 y2
  exact ⟨⟨x1, x2⟩, ⟨y1, y2⟩, f1, b1.lt⟩
theorem FlyAt.setX {base : Nat} {W0 W : World} {g n cap i j r : Nat} {l : List Cmp} {X X' Y : Cmp} {u : Value} (h : FlyAt base W0 W g n cap i j l X Y) (hr : r < 5) (hu : (cv X).set r u = cv X') (hy : X'.k = X.k) : FlyAt base W0 (W.setCell ⟨g, i * 5 + r, none⟩ u) g n cap i j l X' Y := by
  have h1 := h.1.store h.atX hr hu hy
  rw [Nat.zero_add] at h1
  refine ⟨?_, grown_set u h.2.1, h.2.2⟩
  rw [List.set_comm _ _ h.2.2.2.2]
  rw [List.set_comm _ _ h.2.2.2.2, List.set_set] at h1
  exact h1
theorem FlyAt.setY {base : Nat} {W0 W : World} {g n cap i j r : Nat} {l : List Cmp} {X Y Y' : Cmp} {u : Value} (h : FlyAt base W0 W g n cap i j l X Y) (hr : r < 5) (hu : (cv Y).set r u = cv Y') (hy : Y'.k = Y.k) : FlyAt base W0 (W.setCell ⟨g, j * 5 + r, none⟩ u) g n cap i j l X Y' := by
  have h1 := h.1.store h.atY hr hu hy
  rw [Nat.zero_add, List.set_set] at h1
  exact ⟨h1, grown_set u h.2.1, h.2.2⟩
set_option maxHeartbeats 8000000 in
theorem fly_any (base g n cap i j : Nat) (l : List Cmp) (X Y : Cmp) (w : World) (h : FlyAt base w w g n cap i j l X Y) (hX : (-1048576 ≤ X.a ∧ X.a ≤ 1048576) ∧ (-1048576 ≤ X.b ∧ X.b ≤ 1048576)) (hY : (-4096 ≤ Y.a ∧ Y.a ≤ 4096) ∧ (-4096 ≤ Y.b ∧ Y.b ≤ 4096)) :
    Calls Tryz.prog 91 #[.pointer (some ⟨g, i * 5, none⟩), .pointer (some ⟨g, j * 5, none⟩)] w fun e w' => (∃ v, e = .returned v) ∧ FlyAt base w w' g n cap i j l ⟨X.k, flyP X.a Y.a, flyP X.b Y.b, X.c, X.d⟩ ⟨Y.k, flyV X.a Y.a, flyV X.b Y.b, Y.c, Y.d⟩ := by
  obtain ⟨xk, xa, xb, xc, xd⟩ := X
  obtain ⟨yk, ya, yb, yc, yd⟩ := Y
  simp only at hX hY ⊢
  obtain ⟨⟨x0, x1⟩, x2, x3⟩ := hX
  obtain ⟨⟨y0, y1⟩, y2, y3⟩ := hY
  obtain ⟨⟨c1, c2⟩, ⟨c3, c4⟩, fz, lt⟩ := h.cells
  have r1 := cell_regrown c1
  have r2 := cell_regrown c2
  have r3 := cell_regrown c3
  have r4 := cell_regrown c4
  simp only at r1 r2 r3 r4
  have HA := Lib.hid h
  clear c1 c2 c3 c4 fz h
  obtain ⟨m1, hm1⟩ : ∃ m, min xa ya = m := ⟨_, rfl⟩
  obtain ⟨m2, hm2⟩ : ∃ m, max xa ya = m := ⟨_, rfl⟩
  obtain ⟨m3, hm3⟩ : ∃ m, min xb yb = m := ⟨_, rfl⟩
  obtain ⟨m4, hm4⟩ : ∃ m, max xb yb = m := ⟨_, rfl⟩
  have b1 : -1099511627776 ≤ m1 := by omega
  have b2 : m2 ≤ 1099511627776 := by omega
  have b3 : -1099511627776 ≤ m3 := by omega
  have b4 : m4 ≤ 1099511627776 := by omega
  have HM := Lib.hid (And.intro hm1 (And.intro hm2 (And.intro hm3 hm4)))
  clear hm1 hm2 hm3 hm4
  have d1 : decide (m1 < -1099511627776) = false := by simp; omega
  have d2 : decide (1099511627776 < m2) = false := by simp; omega
  have d3 : decide (m3 < -1099511627776) = false := by simp; omega
  have d4 : decide (1099511627776 < m4) = false := by simp; omega
  go_enter Tryz.func91, Tryz.ntmps91
  go_wp2
  refine wp_loop_rounds 3 ?_
  rw [rounds_succ]
  go_wp2
  refine wp_region_low2 noPosts 29 (by kernel_rfl) (by kernel_rfl) ?_
  simp only [List.take, List.drop]
  iterate 12 (refine low2_step (fun K hK => ?_); go_simp; first | (refine hK _ ?_; clear hK K) | (apply Exists.intro; refine ⟨fun p => ?_, hK _ ?_⟩; clear hK K))
  refine low2_min _ _ _ (by rfl) rfl .i64 xa ya rfl rfl ?_
  rw [HM.out.1]
  iterate 14 (refine low2_step (fun K hK => ?_); go_simp; first | (refine hK _ ?_; clear hK K) | (apply Exists.intro; refine ⟨fun p => ?_, hK _ ?_⟩; clear hK K))
  refine low2_max _ _ _ (by rfl) rfl .i64 xa ya rfl rfl ?_
  rw [HM.out.2.1]
  iterate 1 (refine low2_step (fun K hK => ?_); go_simp; first | (refine hK _ ?_; clear hK K) | (apply Exists.intro; refine ⟨fun p => ?_, hK _ ?_⟩; clear hK K))
  refine low2_nil ?_
  intro V1 hC
  replace HA := Lib.hid (HA.out.below hC.1)
  clear hC r1 r2 r3 r4 lt
  obtain ⟨⟨c1, c2⟩, ⟨c3, c4⟩, fz, lt⟩ := HA.out.cells
  have r1 := cell_regrown c1
  have r2 := cell_regrown c2
  have r3 := cell_regrown c3
  have r4 := cell_regrown c4
  simp only at r1 r2 r3 r4
  clear c1 c2 c3 c4 fz
  go_wp2
  rw [rounds_succ]
  go_wp2
  refine wp_region_low2 noPosts 29 (by kernel_rfl) (by kernel_rfl) ?_
  simp only [List.take, List.drop]
  iterate 12 (refine low2_step (fun K hK => ?_); go_simp; first | (refine hK _ ?_; clear hK K) | (apply Exists.intro; refine ⟨fun p => ?_, hK _ ?_⟩; clear hK K))
  refine low2_min _ _ _ (by rfl) rfl .i64 xb yb rfl rfl ?_
  rw [HM.out.2.2.1]
  iterate 14 (refine low2_step (fun K hK => ?_); go_simp; first | (refine hK _ ?_; clear hK K) | (apply Exists.intro; refine ⟨fun p => ?_, hK _ ?_⟩; clear hK K))
  refine low2_max _ _ _ (by rfl) rfl .i64 xb yb rfl rfl ?_
  rw [HM.out.2.2.2]
  iterate 1 (refine low2_step (fun K hK => ?_); go_simp; first | (refine hK _ ?_; clear hK K) | (apply Exists.intro; refine ⟨fun p => ?_, hK _ ?_⟩; clear hK K))
  refine low2_nil ?_
  intro V2 hC
  replace HA := Lib.hid (HA.out.below hC.1)
  clear hC r1 r2 r3 r4 lt
  obtain ⟨⟨c1, c2⟩, ⟨c3, c4⟩, fz, lt⟩ := HA.out.cells
  have r1 := cell_regrown c1
  have r2 := cell_regrown c2
  have r3 := cell_regrown c3
  have r4 := cell_regrown c4
  simp only at r1 r2 r3 r4
  clear c1 c2 c3 c4 fz
  go_wp2
  rw [rounds_succ]
  go_wp2
  clear HM d1 d2 d3 d4 b1 b2 b3 b4
  obtain ⟨s1, hs1⟩ : ∃ s, xa + ya = s := ⟨_, rfl⟩
  obtain ⟨s2, hs2⟩ : ∃ s, xb + yb = s := ⟨_, rfl⟩
  obtain ⟨z1, hz1⟩ : ∃ z, clampC s1 = z := ⟨_, rfl⟩
  obtain ⟨z2, hz2⟩ : ∃ z, clampC s2 = z := ⟨_, rfl⟩
  have w1 : IntKind.i64.wrap (xa + ya) = s1 := by rw [← hs1, IntKind.wrap_i64]; omega
  have w2 : IntKind.i64.wrap (xb + yb) = s2 := by rw [← hs2, IntKind.wrap_i64]; omega
  have hq1 : max (min s1 1048576) (-1048576) = z1 := hz1
  have hq2 : max (min s2 1048576) (-1048576) = z2 := hz2
  have e1 : flyP xa ya = z1 ∧ flyV xa ya = if z1 = s1 then ya else 0 := by unfold flyP flyV; rw [hs1, hz1]; exact ⟨rfl, rfl⟩
  have e2 : flyP xb yb = z2 ∧ flyV xb yb = if z2 = s2 then yb else 0 := by unfold flyP flyV; rw [hs2, hz2]; exact ⟨rfl, rfl⟩
  have HZ := Lib.hid (And.intro hq1 (And.intro hq2 (And.intro e1 e2)))
  clear hs1 hs2 hz1 hz2 hq1 hq2 e1 e2 x0 x1 x2 x3 y0 y1 y2 y3
  refine wp_loop_rounds 3 ?_
  rw [rounds_succ]
  go_wp2
  refine wp_region_low2 noPosts 13 (by kernel_rfl) (by kernel_rfl) ?_
  simp only [List.take, List.drop]
  iterate 13 (refine low2_step (fun K hK => ?_); go_simp; first | (refine hK _ ?_; clear hK K) | (apply Exists.intro; refine ⟨fun p => ?_, hK _ ?_⟩; clear hK K))
  refine low2_nil ?_
  intro V3 hC
  replace HA := Lib.hid (HA.out.below hC.1)
  clear hC r1 r2 r3 r4 lt
  obtain ⟨⟨c1, c2⟩, ⟨c3, c4⟩, fz, lt⟩ := HA.out.cells
  simp only at c1 c2 c3 c4
  have f1 := fz (i * 5 + 1)
  have f2 := fz (i * 5 + 1 + 1)
  have f3 := fz (j * 5 + 1)
  have f4 := fz (j * 5 + 1 + 1)
  by_cases q1 : z1 = s1
  · have e1 : ((z1 : Int) == s1) = true := by simp [q1]
    have e1' : ((z1 : Int) != s1) = false := by simp [q1]
    have Q1 := Lib.hid q1
    clear q1
    have HB := Lib.hid (HA.out.setX (r := 1) (X' := ⟨xk, z1, xb, xc, xd⟩) (u := .int .i64 z1) (by decide) rfl rfl)
    obtain ⟨⟨p1, p2⟩, ⟨p3, p4⟩, fzB, ltB⟩ := HB.out.cells
    simp only at p1 p2 p3 p4
    have g3 := fzB (j * 5 + 1)
    have g4 := fzB (j * 5 + 1 + 1)
    go_wp2_with (first | (refine wpList_min2 _ rfl _ _ _ rfl _ _ _ rfl rfl ?_) | (refine wpList_max2 _ rfl _ _ _ rfl _ _ _ rfl rfl ?_; rw [HZ.out.1]))
    refine at_name (R := Code.rounds _ _ _ _) (fun W => FlyAt base w W g n cap i j l ⟨xk, z1, xb, xc, xd⟩ ⟨yk, ya, yb, yc, yd⟩) HB.out ?_
    intro V4 HA
    clear c1 c2 c3 c4 fz lt f1 f2 f3 f4 p1 p2 p3 p4 fzB ltB g3 g4 HB
    replace HA := Lib.hid HA
    obtain ⟨⟨c1, c2⟩, ⟨c3, c4⟩, fz, lt⟩ := HA.out.cells
    have r1 := cell_regrown c1
    have r2 := cell_regrown c2
    have r3 := cell_regrown c3
    have r4 := cell_regrown c4
    simp only at r1 r2 r3 r4
    clear c1 c2 c3 c4 fz
    rw [rounds_succ]
    go_wp2
    refine wp_region_low2 noPosts 13 (by kernel_rfl) (by kernel_rfl) ?_
    simp only [List.take, List.drop]
    iterate 13 (refine low2_step (fun K hK => ?_); go_simp; first | (refine hK _ ?_; clear hK K) | (apply Exists.intro; refine ⟨fun p => ?_, hK _ ?_⟩; clear hK K))
    refine low2_nil ?_
    intro V5 hC
    replace HA := Lib.hid (HA.out.below hC.1)
    clear hC r1 r2 r3 r4 lt
    obtain ⟨⟨c1, c2⟩, ⟨c3, c4⟩, fz, lt⟩ := HA.out.cells
    simp only at c1 c2 c3 c4
    have f1 := fz (i * 5 + 1)
    have f2 := fz (i * 5 + 1 + 1)
    have f3 := fz (j * 5 + 1)
    have f4 := fz (j * 5 + 1 + 1)
    by_cases q2 : z2 = s2
    · have e2 : ((z2 : Int) == s2) = true := by simp [q2]
      have e2' : ((z2 : Int) != s2) = false := by simp [q2]
      have Q2 := Lib.hid q2
      clear q2
      have HB := Lib.hid (HA.out.setX (r := 2) (X' := ⟨xk, z1, z2, xc, xd⟩) (u := .int .i64 z2) (by decide) rfl rfl)
      obtain ⟨⟨p1, p2⟩, ⟨p3, p4⟩, fzB, ltB⟩ := HB.out.cells
      simp only at p1 p2 p3 p4
      have g3 := fzB (j * 5 + 1)
      have g4 := fzB (j * 5 + 1 + 1)
      go_wp2_with (first | (refine wpList_min2 _ rfl _ _ _ rfl _ _ _ rfl rfl ?_) | (refine wpList_max2 _ rfl _ _ _ rfl _ _ _ rfl rfl ?_; rw [HZ.out.2.1]))
      rw [rounds_succ]
      go_wp2
      have E1 := HZ.out.2.2.1
      have E2 := HZ.out.2.2.2
      rw [if_pos Q1.out] at E1
      rw [if_pos Q2.out] at E2
      go_end0
      rw [E1.1, E1.2, E2.1, E2.2]
      exact ⟨⟨_, rfl⟩, HB.out⟩

    · have e2 : ((z2 : Int) == s2) = false := by simp [q2]
      have e2' : ((z2 : Int) != s2) = true := by simp [q2]
      have Q2 := Lib.hid q2
      clear q2
      have HB := Lib.hid (HA.out.setX (r := 2) (X' := ⟨xk, z1, z2, xc, xd⟩) (u := .int .i64 z2) (by decide) rfl rfl)
      obtain ⟨⟨p1, p2⟩, ⟨p3, p4⟩, fzB, ltB⟩ := HB.out.cells
      simp only at p1 p2 p3 p4
      have g3 := fzB (j * 5 + 1)
      have g4 := fzB (j * 5 + 1 + 1)
      go_wp2_with (first | (refine wpList_min2 _ rfl _ _ _ rfl _ _ _ rfl rfl ?_) | (refine wpList_max2 _ rfl _ _ _ rfl _ _ _ rfl rfl ?_; rw [HZ.out.2.1]))
      rw [rounds_succ]
      go_wp2
      have E1 := HZ.out.2.2.1
      have E2 := HZ.out.2.2.2
      rw [if_pos Q1.out] at E1
      rw [if_neg Q2.out] at E2
      go_end0
      rw [E1.1, E1.2, E2.1, E2.2]
      exact ⟨⟨_, rfl⟩, (HB.out.setY (r := 2) (Y' := ⟨yk, ya, 0, yc, yd⟩) (u := .int .i64 0) (by decide) rfl rfl)⟩


  · have e1 : ((z1 : Int) == s1) = false := by simp [q1]
    have e1' : ((z1 : Int) != s1) = true := by simp [q1]
    have Q1 := Lib.hid q1
    clear q1
    have HB := Lib.hid (HA.out.setX (r := 1) (X' := ⟨xk, z1, xb, xc, xd⟩) (u := .int .i64 z1) (by decide) rfl rfl)
    obtain ⟨⟨p1, p2⟩, ⟨p3, p4⟩, fzB, ltB⟩ := HB.out.cells
    simp only at p1 p2 p3 p4
    have g3 := fzB (j * 5 + 1)
    have g4 := fzB (j * 5 + 1 + 1)
    go_wp2_with (first | (refine wpList_min2 _ rfl _ _ _ rfl _ _ _ rfl rfl ?_) | (refine wpList_max2 _ rfl _ _ _ rfl _ _ _ rfl rfl ?_; rw [HZ.out.1]))
    refine at_name (R := Code.rounds _ _ _ _) (fun W => FlyAt base w W g n cap i j l ⟨xk, z1, xb, xc, xd⟩ ⟨yk, 0, yb, yc, yd⟩) (HB.out.setY (r := 1) (Y' := ⟨yk, 0, yb, yc, yd⟩) (u := .int .i64 0) (by decide) rfl rfl) ?_
    intro V4 HA
    clear c1 c2 c3 c4 fz lt f1 f2 f3 f4 p1 p2 p3 p4 fzB ltB g3 g4 HB
    replace HA := Lib.hid HA
    obtain ⟨⟨c1, c2⟩, ⟨c3, c4⟩, fz, lt⟩ := HA.out.cells
    have r1 := cell_regrown c1
    have r2 := cell_regrown c2
    have r3 := cell_regrown c3
    have r4 := cell_regrown c4
    simp only at r1 r2 r3 r4
    clear c1 c2 c3 c4 fz
    rw [rounds_succ]
    go_wp2
    refine wp_region_low2 noPosts 13 (by kernel_rfl) (by kernel_rfl) ?_
    simp only [List.take, List.drop]
    iterate 13 (refine low2_step (fun K hK => ?_); go_simp; first | (refine hK _ ?_; clear hK K) | (apply Exists.intro; refine ⟨fun p => ?_, hK _ ?_⟩; clear hK K))
    refine low2_nil ?_
    intro V5 hC
    replace HA := Lib.hid (HA.out.below hC.1)
    clear hC r1 r2 r3 r4 lt
    obtain ⟨⟨c1, c2⟩, ⟨c3, c4⟩, fz, lt⟩ := HA.out.cells
    simp only at c1 c2 c3 c4
    have f1 := fz (i * 5 + 1)
    have f2 := fz (i * 5 + 1 + 1)
    have f3 := fz (j * 5 + 1)
    have f4 := fz (j * 5 + 1 + 1)
    by_cases q2 : z2 = s2
    · have e2 : ((z2 : Int) == s2) = true := by simp [q2]
      have e2' : ((z2 : Int) != s2) = false := by simp [q2]
      have Q2 := Lib.hid q2
      clear q2
      have HB := Lib.hid (HA.out.setX (r := 2) (X' := ⟨xk, z1, z2, xc, xd⟩) (u := .int .i64 z2) (by decide) rfl rfl)
      obtain ⟨⟨p1, p2⟩, ⟨p3, p4⟩, fzB, ltB⟩ := HB.out.cells
      simp only at p1 p2 p3 p4
      have g3 := fzB (j * 5 + 1)
      have g4 := fzB (j * 5 + 1 + 1)
      go_wp2_with (first | (refine wpList_min2 _ rfl _ _ _ rfl _ _ _ rfl rfl ?_) | (refine wpList_max2 _ rfl _ _ _ rfl _ _ _ rfl rfl ?_; rw [HZ.out.2.1]))
      rw [rounds_succ]
      go_wp2
      have E1 := HZ.out.2.2.1
      have E2 := HZ.out.2.2.2
      rw [if_neg Q1.out] at E1
      rw [if_pos Q2.out] at E2
      go_end0
      rw [E1.1, E1.2, E2.1, E2.2]
      exact ⟨⟨_, rfl⟩, HB.out⟩

    · have e2 : ((z2 : Int) == s2) = false := by simp [q2]
      have e2' : ((z2 : Int) != s2) = true := by simp [q2]
      have Q2 := Lib.hid q2
      clear q2
      have HB := Lib.hid (HA.out.setX (r := 2) (X' := ⟨xk, z1, z2, xc, xd⟩) (u := .int .i64 z2) (by decide) rfl rfl)
      obtain ⟨⟨p1, p2⟩, ⟨p3, p4⟩, fzB, ltB⟩ := HB.out.cells
      simp only at p1 p2 p3 p4
      have g3 := fzB (j * 5 + 1)
      have g4 := fzB (j * 5 + 1 + 1)
      go_wp2_with (first | (refine wpList_min2 _ rfl _ _ _ rfl _ _ _ rfl rfl ?_) | (refine wpList_max2 _ rfl _ _ _ rfl _ _ _ rfl rfl ?_; rw [HZ.out.2.1]))
      rw [rounds_succ]
      go_wp2
      have E1 := HZ.out.2.2.1
      have E2 := HZ.out.2.2.2
      rw [if_neg Q1.out] at E1
      rw [if_neg Q2.out] at E2
      go_end0
      rw [E1.1, E1.2, E2.1, E2.2]
      exact ⟨⟨_, rfl⟩, (HB.out.setY (r := 2) (Y' := ⟨yk, 0, 0, yc, yd⟩) (u := .int .i64 0) (by decide) rfl rfl)⟩



end Go.Proofs.YtlcjkomfjgddeaaGreatDoor
