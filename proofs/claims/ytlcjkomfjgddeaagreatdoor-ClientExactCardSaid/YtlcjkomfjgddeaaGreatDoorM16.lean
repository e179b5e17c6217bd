/- (mover).blocked. The iterators of a mover: bodies, ends (without ropes). The iterator over the bodies. island.pull, island.Speed; slices.Clone of bodies and of no ropes. island.Speed; slices.Clone of bodies and of no ropes. -/
import Derived.Test.YtlcjkomfjgddeaaGreatDoorM15
import Derived.RangeFuncNested
import Derived.RangeFuncBound
import Derived.RangeFuncCalls
import Derived.RangeFuncLeaves
import Derived.Shelf.Abstract
import Derived.Shelf.RegionOpen
import Derived.WalkKit
import Derived.OwnWalkIn
import Derived.TacticsInMore
import Derived.LoopNIn
import Derived.LoopIn
import Derived.Deep.Cut
import Derived.Test.YtlcjkomfjgddeaaGreatDoorM11
import Derived.Test.YtlcjkomfjgddeaaGreatDoorM12
set_option linter.unusedVariables false
set_option linter.unusedSimpArgs false
namespace Go.Proofs.YtlcjkomfjgddeaaGreatDoor
open Go Go.RowKit Go.Sort
set_option maxRecDepth 100000
attribute [local go_sem] opLow opUpon opLow2 opUpon2

def along (b : Bdy) (ax : Int) : Int := if ax = 0 then b.x else b.y
/-- the first shift that overlaps a body -/
def blockedI (b o : Bdy) (ax sg most : Int) : Int :=
  if sg * (along o ax - along b ax) ≤ 0 then most + 1
  else if leastI (fun i => overI (shI b ax (sg * i)) o) (min (sg * (along o ax - along b ax)) most) ≤ min (sg * (along o ax - along b ax)) most then leastI (fun i => overI (shI b ax (sg * i)) o) (min (sg * (along o ax - along b ax)) most) else most + 1
set_option maxHeartbeats 8000000 in
theorem blocked0 (s r : Option Addr × Nat × Nat) (gx gy : Int) (b o : Bdy) (sg most : Int) (w : World) (hM : RM w) (hsg : sg = 1 ∨ sg = -1) (hx : -1048576 ≤ b.x ∧ b.x ≤ 1048576) (hy : -1048576 ≤ b.y ∧ b.y ≤ 1048576) (ox : -1048576 ≤ o.x ∧ o.x ≤ 1048576) (oy : -1048576 ≤ o.y ∧ o.y ≤ 1048576) (hm : 0 ≤ most ∧ most ≤ 1048576) :
    Calls Tryz.prog 120 #[Mv s r gx gy b 0 sg, Bv o, .int .i64 most] w fun e w' => e = .returned (.int .i64 (blockedI b o 0 sg most)) ∧ Below w.heap.size w w' := by
  obtain ⟨z, hz⟩ : ∃ z, blockedI b o 0 sg most = z := ⟨_, rfl⟩
  have HZ := Lib.hid hz
  rw [hz]
  clear hz
  obtain ⟨d, hd⟩ : ∃ d, o.x - b.x = d := ⟨_, rfl⟩
  obtain ⟨nr, hnr⟩ : ∃ nr, sg * d = nr := ⟨_, rfl⟩
  have bd : -2097152 ≤ d ∧ d ≤ 2097152 := by omega
  have bn : -2097152 ≤ nr ∧ nr ≤ 2097152 := by rw [← hnr]; rcases hsg with rfl | rfl <;> omega
  have w1 : IntKind.i64.wrap (o.x - b.x) = d := by rw [hd, IntKind.wrap_i64]; omega
  have w2 : IntKind.i64.wrap (sg * d) = nr := by rw [hnr, IntKind.wrap_i64]; omega
  have hix : ∀ (g q : Nat) (w : World), (Instr.index 139 (.agg #[.pointer (some ⟨g, q, none⟩), .pointer (some ⟨g, q + 1, none⟩)]) (.int .i64 0)).run Tryz.prog w = .ok (.pointer (some ⟨g, q, none⟩)) w := fun g q w => by kernel_rfl
  have HB := Lib.hid (And.intro hM (And.intro hsg (And.intro hx (And.intro hy (And.intro hd hnr)))))
  clear hM hsg hx hy ox oy hd hnr
  unfold Mv Bv
  go_enter Tryz.func120, Tryz.ntmps120
  go_wp2
  refine wp_name (fun V => Bk V w.heap.size #[.slice s.1 s.2.1 s.2.2, .slice r.1 r.2.1 r.2.2, .int .i64 gx, .int .i64 gy, .int .i64 b.id, .int .i64 b.x, .int .i64 b.y, .int .i64 b.vx, .int .i64 b.vy, .int .i64 b.w, .int .i64 b.h, .bool b.round, .bool b.fixed, .int .i64 0, .int .i64 sg] 143 ∧ Bk V (w.heap.size + 1) #[.int .i64 o.id, .int .i64 o.x, .int .i64 o.y, .int .i64 o.vx, .int .i64 o.vy, .int .i64 o.w, .int .i64 o.h, .bool o.round, .bool o.fixed] 133 ∧ Below w.heap.size w V) ⟨(Bk.made _ _ _).alloc _, Bk.at_ (by simp), by go_grown⟩ ?_
  rintro V ⟨B1, B2, hgg⟩
  have c1 := cell_regrown (B1.cell (v := .int .i64 b.x) 5 rfl)
  have c2 := cell_regrown (B1.cell (v := .int .i64 0) 13 rfl)
  have c3 := cell_regrown (B1.cell (v := .int .i64 sg) 14 rfl)
  have c4 := cell_regrown (B2.cell (v := .int .i64 o.x) 1 rfl)
  refine wp_region_low2 noPosts 19 (by kernel_rfl) (by kernel_rfl) ?_
  simp only [List.take, List.drop]
  iterate 3 (refine low2_step (fun K hK => ?_); go_simp; first | (refine hK _ ?_; clear hK K) | (apply Exists.intro; refine ⟨fun p => ?_, hK _ ?_⟩; clear hK K))
  refine low2_reads 83 #[.pointer (some ⟨w.heap.size + 1, 1, none⟩)] (.agg #[.pointer (some ⟨w.heap.size + 1, 1, none⟩), .pointer (some ⟨w.heap.size + 1, 1 + 1, none⟩)]) (by rfl) (fun w => by go_simp; try rfl) rfl (by kernel_rfl) (fun V1 hV hG => axes_any _ _ V1) ?_
  iterate 7 (refine low2_step (fun K hK => ?_); go_simp; first | (refine hK _ ?_; clear hK K) | (apply Exists.intro; refine ⟨fun p => ?_, hK _ ?_⟩; clear hK K))
  refine low2_reads 83 #[.pointer (some ⟨w.heap.size, 5, none⟩)] (.agg #[.pointer (some ⟨w.heap.size, 5, none⟩), .pointer (some ⟨w.heap.size, 5 + 1, none⟩)]) (by rfl) (fun w => by go_simp; try rfl) rfl (by kernel_rfl) (fun V1 hV hG => axes_any _ _ V1) ?_
  iterate 7 (refine low2_step (fun K hK => ?_); go_simp; first | (refine hK _ ?_; clear hK K) | (apply Exists.intro; refine ⟨fun p => ?_, hK _ ?_⟩; clear hK K))
  refine low2_nil ?_
  intro W2 hC
  replace B1 := B1.below hC.1
  replace B2 := B2.below hC.1
  obtain ⟨hgg, hs⟩ := below_cc (w := w) hC.1 hgg
  clear hC c1 c2 c3 c4
  have hzz : z = if nr ≤ 0 then most + 1 else if leastI (fun i => overI (shI b 0 (sg * i)) o) (min nr most) ≤ min nr most then leastI (fun i => overI (shI b 0 (sg * i)) o) (min nr most) else most + 1 := by
    rw [← HZ.out]
    unfold blockedI
    have h1 : sg * (along o 0 - along b 0) = nr := by
      rw [← HB.out.2.2.2.2.2, ← HB.out.2.2.2.2.1]; rfl
    rw [h1]
  by_cases hneg : nr ≤ 0
  · rw [if_pos hneg] at hzz
    subst hzz
    go_wp2
    go_returns
    exact ⟨rfl, hgg⟩
  · rw [if_neg hneg] at hzz
    obtain ⟨mn, hmn⟩ : ∃ mn, min nr most = mn := ⟨_, rfl⟩
    obtain ⟨L, hL⟩ : ∃ L, leastI (fun i => overI (shI b 0 (sg * i)) o) mn = L := ⟨_, rfl⟩
    rw [hmn, hL] at hzz
    have bmn : 0 ≤ mn ∧ mn ≤ 1048576 := by omega
    have LA := least_any (fun i => overI (shI b 0 (sg * i)) o) mn w.heap.size (w.heap.size + 1) W2 ⟨bmn.1, by omega⟩ (fun i V i1 i2 hV => blocked1_any s r gx gy b o 0 sg i _ _ V ((HB.out.1.below hgg).below hV) (by decide) HB.out.2.1 (by have := HB.out.2.2.1; omega) (by have := HB.out.2.2.2.1; omega) (by omega) (B1.below hV) (B2.below hV))
    rw [hL] at LA
    have HLA := Lib.hid LA
    have HZZ := Lib.hid hzz
    clear LA hL hzz B1 B2
    go_wp2_with (first | refine wpList_min2 _ rfl _ _ _ rfl _ _ _ rfl rfl ?_)
    refine Calls.mono HLA.out ?_
    rintro e W3 ⟨rfl, hb⟩
    obtain ⟨hgg, hs⟩ := below_cc (w := w) hb hgg
    clear hb
    by_cases hle : L ≤ mn
    · have hz : z = L := by rw [HZZ.out, if_pos hle]
      subst hz
      go_wp2
      go_returns
      exact ⟨rfl, hgg⟩
    · have hz : z = most + 1 := by rw [HZZ.out, if_neg hle]
      subst hz
      go_wp2
      go_returns
      exact ⟨rfl, hgg⟩
set_option maxHeartbeats 8000000 in
theorem blocked1 (s r : Option Addr × Nat × Nat) (gx gy : Int) (b o : Bdy) (sg most : Int) (w : World) (hM : RM w) (hsg : sg = 1 ∨ sg = -1) (hx : -1048576 ≤ b.x ∧ b.x ≤ 1048576) (hy : -1048576 ≤ b.y ∧ b.y ≤ 1048576) (ox : -1048576 ≤ o.x ∧ o.x ≤ 1048576) (oy : -1048576 ≤ o.y ∧ o.y ≤ 1048576) (hm : 0 ≤ most ∧ most ≤ 1048576) :
    Calls Tryz.prog 120 #[Mv s r gx gy b 1 sg, Bv o, .int .i64 most] w fun e w' => e = .returned (.int .i64 (blockedI b o 1 sg most)) ∧ Below w.heap.size w w' := by
  obtain ⟨z, hz⟩ : ∃ z, blockedI b o 1 sg most = z := ⟨_, rfl⟩
  have HZ := Lib.hid hz
  rw [hz]
  clear hz
  obtain ⟨d, hd⟩ : ∃ d, o.y - b.y = d := ⟨_, rfl⟩
  obtain ⟨nr, hnr⟩ : ∃ nr, sg * d = nr := ⟨_, rfl⟩
  have bd : -2097152 ≤ d ∧ d ≤ 2097152 := by omega
  have bn : -2097152 ≤ nr ∧ nr ≤ 2097152 := by rw [← hnr]; rcases hsg with rfl | rfl <;> omega
  have w1 : IntKind.i64.wrap (o.y - b.y) = d := by rw [hd, IntKind.wrap_i64]; omega
  have w2 : IntKind.i64.wrap (sg * d) = nr := by rw [hnr, IntKind.wrap_i64]; omega
  have hix : ∀ (g q : Nat) (w : World), (Instr.index 139 (.agg #[.pointer (some ⟨g, q, none⟩), .pointer (some ⟨g, q + 1, none⟩)]) (.int .i64 1)).run Tryz.prog w = .ok (.pointer (some ⟨g, q + 1, none⟩)) w := fun g q w => by kernel_rfl
  have HB := Lib.hid (And.intro hM (And.intro hsg (And.intro hx (And.intro hy (And.intro hd hnr)))))
  clear hM hsg hx hy ox oy hd hnr
  unfold Mv Bv
  go_enter Tryz.func120, Tryz.ntmps120
  go_wp2
  refine wp_name (fun V => Bk V w.heap.size #[.slice s.1 s.2.1 s.2.2, .slice r.1 r.2.1 r.2.2, .int .i64 gx, .int .i64 gy, .int .i64 b.id, .int .i64 b.x, .int .i64 b.y, .int .i64 b.vx, .int .i64 b.vy, .int .i64 b.w, .int .i64 b.h, .bool b.round, .bool b.fixed, .int .i64 1, .int .i64 sg] 143 ∧ Bk V (w.heap.size + 1) #[.int .i64 o.id, .int .i64 o.x, .int .i64 o.y, .int .i64 o.vx, .int .i64 o.vy, .int .i64 o.w, .int .i64 o.h, .bool o.round, .bool o.fixed] 133 ∧ Below w.heap.size w V) ⟨(Bk.made _ _ _).alloc _, Bk.at_ (by simp), by go_grown⟩ ?_
  rintro V ⟨B1, B2, hgg⟩
  have c1 := cell_regrown (B1.cell (v := .int .i64 b.y) 6 rfl)
  have c2 := cell_regrown (B1.cell (v := .int .i64 1) 13 rfl)
  have c3 := cell_regrown (B1.cell (v := .int .i64 sg) 14 rfl)
  have c4 := cell_regrown (B2.cell (v := .int .i64 o.y) 2 rfl)
  refine wp_region_low2 noPosts 19 (by kernel_rfl) (by kernel_rfl) ?_
  simp only [List.take, List.drop]
  iterate 3 (refine low2_step (fun K hK => ?_); go_simp; first | (refine hK _ ?_; clear hK K) | (apply Exists.intro; refine ⟨fun p => ?_, hK _ ?_⟩; clear hK K))
  refine low2_reads 83 #[.pointer (some ⟨w.heap.size + 1, 1, none⟩)] (.agg #[.pointer (some ⟨w.heap.size + 1, 1, none⟩), .pointer (some ⟨w.heap.size + 1, 1 + 1, none⟩)]) (by rfl) (fun w => by go_simp; try rfl) rfl (by kernel_rfl) (fun V1 hV hG => axes_any _ _ V1) ?_
  iterate 7 (refine low2_step (fun K hK => ?_); go_simp; first | (refine hK _ ?_; clear hK K) | (apply Exists.intro; refine ⟨fun p => ?_, hK _ ?_⟩; clear hK K))
  refine low2_reads 83 #[.pointer (some ⟨w.heap.size, 5, none⟩)] (.agg #[.pointer (some ⟨w.heap.size, 5, none⟩), .pointer (some ⟨w.heap.size, 5 + 1, none⟩)]) (by rfl) (fun w => by go_simp; try rfl) rfl (by kernel_rfl) (fun V1 hV hG => axes_any _ _ V1) ?_
  iterate 7 (refine low2_step (fun K hK => ?_); go_simp; first | (refine hK _ ?_; clear hK K) | (apply Exists.intro; refine ⟨fun p => ?_, hK _ ?_⟩; clear hK K))
  refine low2_nil ?_
  intro W2 hC
  replace B1 := B1.below hC.1
  replace B2 := B2.below hC.1
  obtain ⟨hgg, hs⟩ := below_cc (w := w) hC.1 hgg
  clear hC c1 c2 c3 c4
  have hzz : z = if nr ≤ 0 then most + 1 else if leastI (fun i => overI (shI b 1 (sg * i)) o) (min nr most) ≤ min nr most then leastI (fun i => overI (shI b 1 (sg * i)) o) (min nr most) else most + 1 := by
    rw [← HZ.out]
    unfold blockedI
    have h1 : sg * (along o 1 - along b 1) = nr := by
      rw [← HB.out.2.2.2.2.2, ← HB.out.2.2.2.2.1]; rfl
    rw [h1]
  by_cases hneg : nr ≤ 0
  · rw [if_pos hneg] at hzz
    subst hzz
    go_wp2
    go_returns
    exact ⟨rfl, hgg⟩
  · rw [if_neg hneg] at hzz
    obtain ⟨mn, hmn⟩ : ∃ mn, min nr most = mn := ⟨_, rfl⟩
    obtain ⟨L, hL⟩ : ∃ L, leastI (fun i => overI (shI b 1 (sg * i)) o) mn = L := ⟨_, rfl⟩
    rw [hmn, hL] at hzz
    have bmn : 0 ≤ mn ∧ mn ≤ 1048576 := by omega
    have LA := least_any (fun i => overI (shI b 1 (sg * i)) o) mn w.heap.size (w.heap.size + 1) W2 ⟨bmn.1, by omega⟩ (fun i V i1 i2 hV => blocked1_any s r gx gy b o 1 sg i _ _ V ((HB.out.1.below hgg).below hV) (by decide) HB.out.2.1 (by have := HB.out.2.2.1; omega) (by have := HB.out.2.2.2.1; omega) (by omega) (B1.below hV) (B2.below hV))
    rw [hL] at LA
    have HLA := Lib.hid LA
    have HZZ := Lib.hid hzz
    clear LA hL hzz B1 B2
    go_wp2_with (first | refine wpList_min2 _ rfl _ _ _ rfl _ _ _ rfl rfl ?_)
    refine Calls.mono HLA.out ?_
    rintro e W3 ⟨rfl, hb⟩
    obtain ⟨hgg, hs⟩ := below_cc (w := w) hb hgg
    clear hb
    by_cases hle : L ≤ mn
    · have hz : z = L := by rw [HZZ.out, if_pos hle]
      subst hz
      go_wp2
      go_returns
      exact ⟨rfl, hgg⟩
    · have hz : z = most + 1 := by rw [HZZ.out, if_neg hle]
      subst hz
      go_wp2
      go_returns
      exact ⟨rfl, hgg⟩
end Go.Proofs.YtlcjkomfjgddeaaGreatDoor
namespace Go.Proofs.YtlcjkomfjgddeaaGreatDoor
open Go Go.RowKit Go.Sort Go.Shelf
set_option maxRecDepth 100000
attribute [local go_sem] Oper.semAt_some

/-- the cells of a body -/
def BodyAt (w : World) (g o : Nat) (b : Bdy) : Prop :=
  w.cell? ⟨g, o, none⟩ = some (.int .i64 b.id) ∧ w.cell? ⟨g, o + 1, none⟩ = some (.int .i64 b.x) ∧ w.cell? ⟨g, o + 2, none⟩ = some (.int .i64 b.y) ∧ w.cell? ⟨g, o + 3, none⟩ = some (.int .i64 b.vx) ∧ w.cell? ⟨g, o + 4, none⟩ = some (.int .i64 b.vy) ∧ w.cell? ⟨g, o + 5, none⟩ = some (.int .i64 b.w) ∧ w.cell? ⟨g, o + 6, none⟩ = some (.int .i64 b.h) ∧ w.cell? ⟨g, o + 7, none⟩ = some (.bool b.round) ∧ w.cell? ⟨g, o + 8, none⟩ = some (.bool b.fixed)
/-- what a round of the loop over the bodies leaves: the blocks below n, and the mover's own -/
def KpB (n g : Nat) (W W' : World) : Prop := Below n W W' ∧ ∀ cs t, Bk W g cs t → Bk W' g cs t
theorem KpB.trans {n g : Nat} {A B C : World} (h : KpB n g A B) (k : KpB n g B C) : KpB n g A C := ⟨h.1.trans k.1, fun cs t hB => k.2 cs t (h.2 cs t hB)⟩
/-- bodies in a list that lies below block n -/
def BodsAt (n : Nat) (w : World) (s : Option Addr × Nat × Nat) (l : List Bdy) : Prop :=
  s.2.1 = l.length ∧ (l = [] ∨ ∃ b off, s.1 = some ⟨b, off, none⟩ ∧ b < n ∧ l.length < 1099511627776 ∧ ∀ i x, l[i]? = some x → BodyAt w b (off + i * 9) x)
theorem body_kept {w w' : World} {n g o : Nat} {b : Bdy} (h : BodyAt w g o b) (hb : Below n w w') (hg : g < n) : BodyAt w' g o b := by
  obtain ⟨h0, h1, h2, h3, h4, h5, h6, h7, h8⟩ := h
  refine ⟨?_, ?_, ?_, ?_, ?_, ?_, ?_, ?_, ?_⟩ <;> (refine Eq.trans (hb.cell ?_) ‹_›; exact hg)
theorem BodsAt.below {n : Nat} {w w' : World} {s : Option Addr × Nat × Nat} {l : List Bdy} (h : BodsAt n w s l) (hb : Below n w w') : BodsAt n w' s l := by
  obtain ⟨h1, h2⟩ := h
  refine ⟨h1, ?_⟩
  rcases h2 with h2 | ⟨b, off, hs, hlt, hl, hc⟩
  · exact .inl h2
  · exact .inr ⟨b, off, hs, hlt, hl, fun i x hx => body_kept (hc i x hx) hb hlt⟩
theorem RM.low {n : Nat} {w w' : World} (h : RM w) (hb : Below n w w') (hn : 2 ≤ n) : RM w' := by
  obtain ⟨h0, h1, h2, h3⟩ := h
  refine ⟨?_, ?_, ?_, ?_⟩ <;> (refine Eq.trans (hb.cell ?_) ‹_›; exact hn)
theorem bmk_any (s r : Option Addr × Nat × Nat) (gx gy : Int) (b : Bdy) (ax sg : Int) (w : World) :
    Calls Tryz.prog 119 #[Mv s r gx gy b ax sg] w fun e w' => e = .returned (.func (.func 139) #[] #[.pointer (some ⟨w.heap.size, 0, none⟩)]) ∧ w' = w.alloc (.cells (mcs s r gx gy b ax sg) 143) := by
  unfold Mv mcs
  go_enter Tryz.func119, Tryz.ntmps119
  go_wp2
  go_returns
  exact ⟨rfl, rfl⟩
theorem emk_any (s r : Option Addr × Nat × Nat) (gx gy : Int) (b : Bdy) (ax sg : Int) (w : World) :
    Calls Tryz.prog 115 #[Mv s r gx gy b ax sg] w fun e w' => e = .returned (.func (.func 134) #[] #[.pointer (some ⟨w.heap.size, 0, none⟩)]) ∧ w' = w.alloc (.cells (mcs s r gx gy b ax sg) 143) := by
  unfold Mv mcs
  go_enter Tryz.func115, Tryz.ntmps115
  go_wp2
  go_returns
  exact ⟨rfl, rfl⟩
/-- without ropes there are no ends -/
theorem ends_stops (n g : Nat) (s : Option Addr × Nat × Nat) (ra : Option Addr) (rc : Nat) (gx gy : Int) (b : Bdy) (ax sg : Int) (w : World) (hB : Bk w g (mcs s (ra, 0, rc) gx gy b ax sg) 143) :
    SeqStopsK Fence.wide n Tryz.prog 134 #[.pointer (some ⟨g, 0, none⟩)] (fun x : Empty => x.elim) (fun _ _ => True) (fun xs => xs = []) (fun _ => False) 0 w := fun l J Jx W hW hJ hJx hY h0 => by
  have B := hB.below hW
  have c1 := B.cell (v := .slice ra 0 rc) 1 rfl
  have lt := B.lt
  clear hY hJ hJx hB
  refine callsIn_wide.2 ?_
  have h0' := Lib.hid h0
  clear h0
  go_enter Tryz.func134, Tryz.ntmps134
  go_wp2
  go_loopw [11] (fun v wr => v = .int .i64 0 ∧ wr = W) (fun _ _ => 0)
  case atStart => exact ⟨rfl, rfl⟩
  case round =>
    obtain ⟨rfl, rfl⟩ := hrel
    go_wp2
    go_end0
    exact ⟨⟨_, rfl⟩, .inl ⟨[], rfl, h0'.out⟩⟩
end Go.Proofs.YtlcjkomfjgddeaaGreatDoor
namespace Go.Proofs.YtlcjkomfjgddeaaGreatDoor
open Go Go.RowKit Go.Sort Go.Shelf
set_option maxRecDepth 100000
attribute [local go_sem] Oper.semAt_some

abbrev OB := { b : Bdy // okBdy b }
/-- what may be in the way -/
def inWay (b : Bdy) (o : OB) : Bool := !decide (o.1.id = b.id) && !overI o.1 b
set_option maxHeartbeats 8000000 in
theorem bodies1_in (n l g n0 B : Nat) (s r : Option Addr × Nat × Nat) (gx gy : Int) (b : Bdy) (ax sg : Int) (bs : List OB) (J Jx : List OB → World → Prop)
    (hJ : AbidesFrom B J)
    (hY : ∀ pre x W, J pre W → pre.length < bs.length → YieldAt Fence.wide (n - 1) Tryz.prog l #[Bv x.1] W fun e W' => (e = .returned (.bool true) ∧ J (pre ++ [x]) W' ∧ KpB n0 g W W') ∨ (e = .returned (.bool false) ∧ Jx (pre ++ [x]) W'))
    (W : World) (hM : RM W) (hn0 : 2 ≤ n0 ∧ n0 ≤ W.heap.size) (hB : Bk W g (mcs s r gx gy b ax sg) 143) (hs : BodsAt n0 W s (bs.map Subtype.val)) (h0 : J [] W) :
    CallsIn Fence.wide n Tryz.prog 139 #[.func (.yield l) #[] #[], .pointer (some ⟨g, 0, none⟩)] W fun e W' => (∃ v, e = .returned v) ∧ ((∃ xs, xs = bs.filter (inWay b) ∧ J xs W') ∨ (∃ pre, pre <+: bs.filter (inWay b) ∧ Jx pre W')) := by
  obtain ⟨s1, s2, s3⟩ := s
  obtain ⟨hs2, hs1⟩ := hs
  simp only [List.length_map] at hs2 hs1
  subst hs2
  refine callsIn_wide.2 ?_
  have HJ := Lib.hid hJ
  have HY := Lib.hid hY
  have H0 := Lib.hid h0
  have HS := Lib.hid hs1
  clear hJ hY h0 hs1
  have c1 := hB.cell (v := .slice s1 bs.length s3) 0 rfl
  go_enter Tryz.func139, Tryz.ntmps139
  go_wp2
  go_loopw [9] (fun v wr => ∃ i : Nat, v = .int .i64 i ∧ i ≤ bs.length ∧ J ((bs.take i).filter (inWay b)) wr ∧ KpB n0 g W wr) (fun v _ => bs.length - (intOf v).toNat)
  case atStart => exact ⟨0, rfl, Nat.zero_le _, H0.out, ⟨Below.refl _ _, fun _ _ h => h⟩⟩
  case round =>
    obtain ⟨i, rfl, hi, hJ, hK⟩ := hrel
    have HJi := Lib.hid hJ
    have HK := Lib.hid hK
    clear hJ hK
    by_cases hlt : i < bs.length
    · obtain ⟨x, hx⟩ := get_lt hlt
      have hz1 : bs ≠ [] := by rintro rfl; simp at hlt
      obtain ⟨b', off, rfl, hb', hl, hc⟩ := HS.out.resolve_left (fun h => hz1 (List.map_eq_nil_iff.1 h))
      have HX := body_kept (hc i x.1 (by simp [hx])) HK.out.1 hb'
      obtain ⟨x0, x1, x2, x3, x4, x5, x6, x7, x8⟩ := HX
      have hsz := Nat.le_trans hn0.2 HK.out.1.size
      clear hc
      unfold maxLen at *
      go_upto_region 3 with fail
      refine wp_name (fun V => Bk V wr.heap.size (bcs x.1) 133 ∧ Below wr.heap.size wr V) ⟨Bk.made _ _ _, (Below.refl _ _).alloc (Nat.le_refl _) _⟩ ?_
      clear x0 x1 x2 x3 x4 x5 x6 x7 x8
      rintro V ⟨BV, hbV⟩
      have hKV : KpB n0 g W V := HK.out.trans ⟨hbV.mono hsz, fun cs t h => h.below hbV⟩
      have hBV := hKV.2 _ _ hB
      have HJV : Hid (J ((bs.take i).filter (inWay b)) V) := Lib.hid (HJ.out _ _ _ none HJi.out ⟨hbV.os, hbV.tape, hbV.output, hbV.size, fun k hk _ => hbV.block k hk⟩ (fun r e => by cases e))
      have tk : bs.take (i + 1) = bs.take i ++ [x] := by rw [List.take_add_one, hx]; rfl
      have HMV := Lib.hid (hM.low hKV.1 hn0.1)
      have hfilt : (bs.take (i + 1)).filter (inWay b) = (bs.take i).filter (inWay b) ++ (if inWay b x = true then [x] else []) := by
        rw [tk, List.filter_append]
        congr 1
        by_cases h : inWay b x = true
        · rw [if_pos h, List.filter_cons, if_pos h]; rfl
        · rw [if_neg h, List.filter_cons, if_neg h]; rfl
      have HFI := Lib.hid hfilt
      clear tk hfilt
      have y0 := BV.cell (v := .int .i64 x.1.id) 0 rfl
      have y1 := BV.cell (v := .int .i64 x.1.x) 1 rfl
      have y2 := BV.cell (v := .int .i64 x.1.y) 2 rfl
      have y3 := BV.cell (v := .int .i64 x.1.vx) 3 rfl
      have y4 := BV.cell (v := .int .i64 x.1.vy) 4 rfl
      have y5 := BV.cell (v := .int .i64 x.1.w) 5 rfl
      have y6 := BV.cell (v := .int .i64 x.1.h) 6 rfl
      have y7 := BV.cell (v := .bool x.1.round) 7 rfl
      have y8 := BV.cell (v := .bool x.1.fixed) 8 rfl
      have m4 := hBV.cell (v := .int .i64 b.id) 4 rfl
      have m5 := hBV.cell (v := .int .i64 b.x) 5 rfl
      have m6 := hBV.cell (v := .int .i64 b.y) 6 rfl
      have m7 := hBV.cell (v := .int .i64 b.vx) 7 rfl
      have m8 := hBV.cell (v := .int .i64 b.vy) 8 rfl
      have m9 := hBV.cell (v := .int .i64 b.w) 9 rfl
      have m10 := hBV.cell (v := .int .i64 b.h) 10 rfl
      have m11 := hBV.cell (v := .bool b.round) 11 rfl
      have m12 := hBV.cell (v := .bool b.fixed) 12 rfl
      by_cases hid : x.1.id = b.id
      · have hno : inWay b x = false := by unfold inWay; simp [hid]
        have HN := Lib.hid hno
        have e1 : ((x.1.id : Int) == b.id) = true := by simp [hid]
        have e2 : ((x.1.id : Int) != b.id) = false := by simp [hid]
        clear hno hid
        go_wp2
        go_roundw
        case rel => exact ⟨i + 1, by go_num, by omega, by rw [HFI.out, HN.out]; simpa using HJV.out, hKV⟩
        case measure => simp [intOf]; omega
      · have e1 : ((x.1.id : Int) == b.id) = false := by simp [hid]
        have e2 : ((x.1.id : Int) != b.id) = true := by simp [hid]
        obtain ⟨ov, hov⟩ : ∃ ov, overI x.1 b = ov := ⟨_, rfl⟩
        have hiw : inWay b x = !ov := by unfold inWay; simp [hid, hov]
        have OV := over_any x.1 b V HMV.out
        rw [hov] at OV
        have HOV := Lib.hid OV
        have HIW := Lib.hid hiw
        clear OV hov hiw hid
        unfold Bv at HOV
        refine (wpIn_wide (n := n)).1 ?_
        gi_wp2_with fail
        refine ⟨trivial, (fun h => absurd h (by simp [Fence.wide])), (callsIn_wide.2 HOV.out).mono ?_⟩
        rintro e V2 ⟨rfl, hb2⟩
        have hK2 : KpB n0 g V V2 := ⟨hb2.mono (Nat.le_trans hsz hbV.size), fun cs t h => h.below hb2⟩
        have HJ2 : Hid (J ((bs.take i).filter (inWay b)) V2) := Lib.hid (HJ.out _ _ _ none HJV.out ⟨hb2.os, hb2.tape, hb2.output, hb2.size, fun k hk _ => hb2.block k hk⟩ (fun r e => by cases e))
        cases ov
        · have BV2 := BV.below hb2
          clear y0 y1 y2 y3 y4 y5 y6 y7 y8 m4 m5 m6 m7 m8 m9 m10 m11 m12
          have y0 := BV2.cell (v := .int .i64 x.1.id) 0 rfl
          have y1 := BV2.cell (v := .int .i64 x.1.x) 1 rfl
          have y2 := BV2.cell (v := .int .i64 x.1.y) 2 rfl
          have y3 := BV2.cell (v := .int .i64 x.1.vx) 3 rfl
          have y4 := BV2.cell (v := .int .i64 x.1.vy) 4 rfl
          have y5 := BV2.cell (v := .int .i64 x.1.w) 5 rfl
          have y6 := BV2.cell (v := .int .i64 x.1.h) 6 rfl
          have y7 := BV2.cell (v := .bool x.1.round) 7 rfl
          have y8 := BV2.cell (v := .bool x.1.fixed) 8 rfl
          obtain ⟨fn, tmps, assign, body, hy, hR⟩ := HY.out _ x V2 HJ2.out (by have := List.length_filter_le (inWay b) (bs.take i); rw [List.length_take] at this; omega)
          have HR := Lib.hid hR
          unfold Bv at hy
          clear hR
          gi_wp2_with fail
          refine ⟨(fun h => absurd h (by simp [Fence.wide])), HR.out.mono ?_⟩
          rintro e V3 (⟨rfl, hJ3, hK3⟩ | ⟨rfl, hJx3⟩)
          · have HJ3 : Hid (J ((bs.take (i + 1)).filter (inWay b)) V3) := Lib.hid (by rw [HFI.out, HIW.out]; exact hJ3)
            have HK3 := Lib.hid ((hKV.trans hK2).trans hK3)
            clear hJ3 hK3 hy y0 y1 y2 y3 y4 y5 y6 y7 y8
            gi_wp2
            go_wp2
            go_roundw
            case rel => exact ⟨i + 1, by go_num, by omega, HJ3.out, HK3.out⟩
            case measure => simp [intOf]; omega
          · have HX3 := Lib.hid hJx3
            clear hJx3 hy y0 y1 y2 y3 y4 y5 y6 y7 y8
            gi_wp2
            go_wp2
            refine bodyPost_ret (results_none rfl _ _ _) rfl ?_
            refine ⟨⟨_, rfl⟩, .inr ⟨_, ?_, HX3.out⟩⟩
            have h2 : (bs.filter (inWay b)) = (bs.take (i + 1)).filter (inWay b) ++ (bs.drop (i + 1)).filter (inWay b) := by rw [← List.filter_append, List.take_append_drop]
            have h3 := HFI.out
            rw [HIW.out] at h3
            exact ⟨(bs.drop (i + 1)).filter (inWay b), by rw [h2, h3]; rfl⟩
        · have HJ3 : Hid (J ((bs.take (i + 1)).filter (inWay b)) V2) := Lib.hid (by rw [HFI.out, HIW.out]; simpa using HJ2.out)
          have HK3 := Lib.hid (hKV.trans hK2)
          clear y0 y1 y2 y3 y4 y5 y6 y7 y8 m4 m5 m6 m7 m8 m9 m10 m11 m12
          gi_wp2
          refine ⟨fun _ h => (by cases h), ?_⟩
          gi_wp2
          go_wp2
          go_roundw
          case rel => exact ⟨i + 1, by go_num, by omega, HJ3.out, HK3.out⟩
          case measure => simp [intOf]; omega
    · have hie : i = bs.length := by omega
      subst hie
      clear hlt
      go_wp2
      go_end0
      exact ⟨⟨_, rfl⟩, .inl ⟨_, rfl, by have := HJi.out; rw [List.take_length] at this; exact this⟩⟩
theorem bodies_stops (n g n0 : Nat) (s r : Option Addr × Nat × Nat) (gx gy : Int) (b : Bdy) (ax sg : Int) (bs : List OB) (w : World) (hM : RM w) (hn0 : 2 ≤ n0 ∧ n0 ≤ w.heap.size) (hB : Bk w g (mcs s r gx gy b ax sg) 143) (hs : BodsAt n0 w s (bs.map Subtype.val)) :
    SeqStopsK Fence.wide n Tryz.prog 139 #[.pointer (some ⟨g, 0, none⟩)] (fun x : OB => #[Bv x.1]) (KpB n0 g) (fun xs => xs = bs.filter (inWay b)) (fun pre => pre <+: bs.filter (inWay b)) bs.length w := fun l J Jx W hW hJ _ hY h0 =>
  bodies1_in n l g n0 W.heap.size s r gx gy b ax sg bs J Jx hJ hY W (hM.below hW) ⟨hn0.1, Nat.le_trans hn0.2 hW.size⟩ (hB.below hW) (hs.below (hW.mono hn0.2)) h0
theorem BodsAt.more {n n' : Nat} {w : World} {s : Option Addr × Nat × Nat} {l : List Bdy} (h : BodsAt n w s l) (hn : n ≤ n') : BodsAt n' w s l := by
  obtain ⟨h1, h2⟩ := h
  refine ⟨h1, ?_⟩
  rcases h2 with h2 | ⟨b, off, hs, hlt, hl, hc⟩
  · exact .inl h2
  · exact .inr ⟨b, off, hs, Nat.lt_of_lt_of_le hlt hn, hl, hc⟩
theorem bk_own {β : Type} (B g : Nat) (t : TypeId) (f : β → Array Value) : OwnFrom B (fun s W => Bk W g (f s) t) := fun s X Y row hs hg hrow => (grownBy_keeps_cells hg (fun r e => (hrow r e).2) hs rfl).trans hs
theorem def_own {β : Type} {B D : Nat} {o : Obj} (hD : D < B) : OwnFrom B (fun (_ : β) W => W.heap[D]? = some o) := fun s X Y row hs hg hrow =>
  (hg.block D (Array.getElem?_eq_some_iff.1 hs).1 (fun e => by have := (hrow D e.symm).1; omega)).trans hs
theorem kpB_b {n g : Nat} {w : World} (hn : n ≤ w.heap.size) (W : World) (l : Nat) (o o' : Obj) (hl : w.heap.size ≤ l) (h : W.heap[l]? = some o) (h1 : o.isCells = false) (h2 : o.isWalk = false) : KpB n g W (W.putObj l o') :=
  ⟨belowK_b hn W l o o' hl h h1 h2, fun cs t hB => (World.putObj_heap_other (by rintro rfl; unfold Bk at hB; rw [h] at hB; cases hB; cases h1)).trans hB⟩
/-- a loop over an iterator, with one loop variable in a box of its own -/
theorem rf_box {α : Type} {P : Program} {g : Operand} {p : Tmp} {assign body : Code} {Q : Exit → Act → World → Prop} {a : Act} {w : World} {n : Nat}
    (h1 : 1 ≤ n) {gf : Nat} {lb : Array Value} (hg : a.eval g = .func (.func gf) #[] lb) (eg : ∀ args w, (callFunc gf args).run P w = .ok (.enter gf args) w)
    {enc : α → Value} {Kp : World → World → Prop} {S Sp : List α → Prop} {N : Nat} (hseq : SeqStopsK Fence.wide (n - 1) P gf lb (fun x => #[enc x]) Kp S Sp N w)
    (hKt : ∀ {A B C : World}, Kp A B → Kp B C → Kp A C) (hKb : ∀ (W : World) (l : Nat) (o o' : Obj), w.heap.size ≤ l → W.heap[l]? = some o → o.isCells = false → o.isWalk = false → Kp W (W.putObj l o'))
    (I : List α → World → Prop) (Ix : Code → List α → World → Prop) (hI : OwnFrom w.heap.size I) (hIx : ∀ c, OwnFrom w.heap.size (Ix c)) (h0 : I [] w) (q : Nat) (t : TypeId) (cells : α → Array Value)
    (hIs : ∀ pre W, I pre W → w.heap.size ≤ W.heap.size) (hKa : ∀ W o, w.heap.size ≤ W.heap.size → Kp W (W.alloc o))
    (hassign : ∀ (l : Nat) (x : α) (W : World) (K : Act → World → Prop), K { tmps := (a.tmps.setIfInBounds p (enc x)).setIfInBounds q (.pointer (some ⟨W.heap.size, 0, none⟩)), defers := [] } (W.alloc (.cells (cells x) t)) →
      assign.wpIn (Fence.wide.inRound l) (n - 1 - 1) P (Exit.then K (fun _ _ _ => False)) { tmps := a.tmps.setIfInBounds p (enc x), defers := [] } W)
    (hbody : ∀ (l : Nat) (pre : List α) (x : α) (gO : Nat) (W : World), I pre W → w.heap.size ≤ gO → Bk W gO (cells x) t → pre.length < N → body.wpIn (Fence.wide.inRound l) (n - 1 - 1) P (ownPostG w.heap.size Kp I Ix (pre ++ [x]) W) { tmps := (a.tmps.setIfInBounds p (enc x)).setIfInBounds q (.pointer (some ⟨gO, 0, none⟩)), defers := [] } W)
    (hdone : ∀ (D : Nat) (xs : List α) (W : World), w.heap.size ≤ D → S xs → I xs W → W.heap[D]? = some (.deferred (some [])) → Q .normal { a with defers := { target := .collected D, args := #[] } :: a.defers } W)
    (hstop : ∀ (D : Nat) (c : Code) (pre : List α) (W : World), w.heap.size ≤ D → Sp pre → Ix c pre W → W.heap[D]? = some (.deferred (some [])) → c.wpIn Fence.wide n P Q { a with defers := { target := .collected D, args := #[] } :: a.defers } W) :
    (Code.rangeFunc g #[p] assign body).wpIn Fence.wide n P Q a w := by
  refine wpIn_rangeFunc_ownH rfl h1 hg trivial eg hseq hKt hKb (Below.refl _ _) (fun _ => rfl) I Ix hI hIx h0
    (fun x a' W => ∃ gO, w.heap.size ≤ gO ∧ Bk W gO (cells x) t ∧ a' = { tmps := (a.tmps.setIfInBounds p (enc x)).setIfInBounds q (.pointer (some ⟨gO, 0, none⟩)), defers := [] })
    (fun x a' s X Y row hs hg hrow => ?_) (fun l pre x W K hi hK => ?_) (fun l pre x a' W hl hr hi hax hlt => ?_) hdone hstop
  · obtain ⟨gO, h1, h2, h3⟩ := hs
    exact ⟨gO, h1, (grownBy_keeps_cells hg (fun r e => (hrow r e).2) h2 rfl).trans h2, h3⟩
  · simp only [List.zip_toArray, List.zip_cons_cons, List.zip_nil_right, List.foldl_toArray, List.foldl_cons, List.foldl_nil]
    exact hassign l x W K (hK _ _ ((KeepsOthers.alloc _ _).from _) (hKa W _ (hIs _ _ hi)) (hI.alloc _ hi) ⟨W.heap.size, hIs _ _ hi, Bk.made _ _ _, rfl⟩)
  · obtain ⟨gO, h1, h2, rfl⟩ := hax
    exact hbody l pre x gO W hi h1 h2 hlt
end Go.Proofs.YtlcjkomfjgddeaaGreatDoor
namespace Go.Proofs.YtlcjkomfjgddeaaGreatDoor
open Go Go.RowKit Go.Sort
set_option maxRecDepth 100000
attribute [local go_sem] opLow opUpon opLow2 opUpon2

def okG (x y : Int) : Prop := (-4096 ≤ x ∧ x ≤ 4096) ∧ (-4096 ≤ y ∧ y ≤ 4096)
abbrev V2 (x y : Int) : Value := .agg #[.int .i64 x, .int .i64 y]
theorem ipull_any (x y : Int) (w : World) (h : okG x y) : Calls Tryz.prog 108 #[V2 x y] w fun e w' => e = .returned (.bool true) ∧ Below w.heap.size w w' := by
  obtain ⟨⟨x0, x1⟩, y0, y1⟩ := h
  obtain ⟨m, hm⟩ : ∃ m, max x (max (-x) (max y (-y))) = m := ⟨_, rfl⟩
  obtain ⟨n, hn⟩ : ∃ n, min x y = n := ⟨_, rfl⟩
  have bm : m ≤ 4096 := by omega
  have bn : -4096 ≤ n := by omega
  have HM := Lib.hid hm
  have HN := Lib.hid hn
  clear hm hn
  go_enter Tryz.func108, Tryz.ntmps108
  go_wp2_with (first | (refine wpList_max4 _ _ _ _ _ _ rfl _ _ _ _ _ rfl rfl rfl rfl (by simp [Region.wanted]; done) ?_; rw [HM.out]) | (refine wpList_minW _ _ _ _ rfl _ _ _ rfl rfl (by simp [Region.wanted, yielded, go_sem]; done) ?_; rw [HN.out]))
  go_returns
  exact ⟨rfl, by go_grown⟩
def clampV (x : Int) : Int := max (min x 4096) (-4096)
theorem clampV_bd (x : Int) : -4096 ≤ clampV x ∧ clampV x ≤ 4096 := by unfold clampV; omega
theorem clamp1_any (x : Int) (w : World) : Calls Tryz.prog 114 #[.int .i64 x] w fun e w' => e = .returned (.int .i64 (clampV x)) ∧ Below w.heap.size w w' := by
  unfold clampV
  go_enter Tryz.func114, Tryz.ntmps114
  go_wp2_with (first | refine wpList_min2 _ rfl _ _ _ rfl _ _ _ rfl rfl ?_ | refine wpList_max2 _ rfl _ _ _ rfl _ _ _ rfl rfl ?_)
  go_returns
  exact ⟨rfl, by go_grown⟩
end Go.Proofs.YtlcjkomfjgddeaaGreatDoor
namespace Go.Proofs.YtlcjkomfjgddeaaGreatDoor
open Go Go.RowKit Go.Sort
set_option maxRecDepth 100000
attribute [local go_sem] opLow opUpon opLow2 opUpon2

def bv (b : Bdy) : List Value := [.int .i64 b.id, .int .i64 b.x, .int .i64 b.y, .int .i64 b.vx, .int .i64 b.vy, .int .i64 b.w, .int .i64 b.h, .bool b.round, .bool b.fixed]
def bvs (l : List Bdy) : List Value := l.flatMap bv
theorem bv_len (x : Bdy) : (bv x).length = 9 := rfl
theorem bvs_len (l : List Bdy) : (bvs l).length = l.length * 9 := flat_len bv 9 bv_len l
theorem bvs_one (l : List Bdy) : ∀ u ∈ bvs l, u.oneCell' = true := by
  intro u hu
  obtain ⟨x, -, hx⟩ := List.mem_flatMap.1 hu
  simp only [bv, List.mem_cons, List.not_mem_nil, or_false] at hx
  rcases hx with rfl | rfl | rfl | rfl | rfl | rfl | rfl | rfl | rfl <;> rfl
def BodiesAt : World → Value → List Bdy → Prop := ListAt BodyAt 9
theorem BodyAt.below' {w w' : World} (hb : Below w.heap.size w w') (g o : Nat) (b : Bdy) (h : BodyAt w g o b) : BodyAt w' g o b :=
  body_kept h hb (World.block_lt_of_cell? w _ h.1)
theorem BodiesAt.below {w w' : World} {v : Value} {l : List Bdy} (h : BodiesAt w v l) (hb : Below w.heap.size w w') : BodiesAt w' v l := ListAt.below (BodyAt.below' hb) h
theorem BodiesAt.len64 {w : World} {v : Value} {l : List Bdy} (h : BodiesAt w v l) : l.length < 1099511627776 := by
  rcases h with ⟨_, rfl⟩ | ⟨b, off, cap, _, hl, hc⟩
  · simp
  · exact hl
theorem body_nine {w : World} {g o : Nat} {b : Bdy} (h : BodyAt w g o b) {r : Nat} {u : Value} (hr : r < 9) (hu : (bv b)[r]? = some u) : w.cell? ⟨g, o + r, none⟩ = some u := by
  obtain ⟨h0, h1, h2, h3, h4, h5, h6, h7, h8⟩ := h
  rcases (by omega : r = 0 ∨ r = 1 ∨ r = 2 ∨ r = 3 ∨ r = 4 ∨ r = 5 ∨ r = 6 ∨ r = 7 ∨ r = 8) with rfl | rfl | rfl | rfl | rfl | rfl | rfl | rfl | rfl <;> simp only [bv, List.getElem?_cons_zero, List.getElem?_cons_succ, Option.some.injEq] at hu <;> subst hu <;> assumption
theorem BodiesAt.cell {w : World} {p : Addr} {n cap : Nat} {l : List Bdy} (h : BodiesAt w (.slice (some p) n cap) l) : ∀ j u, (bvs l)[j]? = some u → w.cell? (p.add j) = some u := by
  rcases h with ⟨_, rfl⟩ | ⟨b', off', cap', h, hl, hc⟩
  · intro j u hu; simp [bvs] at hu
  · cases h
    intro j u hu
    obtain ⟨i, r, x, rfl, hr, hx, hu⟩ := flat_of bv 9 bv_len l j u hu
    rw [Addr.add_lit, ← Nat.add_assoc]
    exact body_nine (hc i x hx) hr hu
/-- bodies that the call owns -/
def RowB (base : Nat) (w : World) (s : Value) (l : List Bdy) : Prop := w.ownsRow base 133 9 s l.length (bvs l) ∧ l.length < 1099511627776
theorem RowB.below {base : Nat} {w w' : World} {s : Value} {l : List Bdy} (h : RowB base w s l) (hb : Below w.heap.size w w') : RowB base w' s l := ⟨row_below h.1 hb, h.2⟩
theorem bodyAt_of {w : World} {g o : Nat} {b : Bdy} (key : ∀ r, r < 9 → w.cell? ⟨g, o + r, none⟩ = (bv b)[r]?) : BodyAt w g o b :=
  ⟨key 0 (by omega), key 1 (by omega), key 2 (by omega), key 3 (by omega), key 4 (by omega), key 5 (by omega), key 6 (by omega), key 7 (by omega), key 8 (by omega)⟩
theorem RowB.len {base : Nat} {w : World} {a : Option Addr} {n cap : Nat} {l : List Bdy} (h : RowB base w (.slice a n cap) l) : n = l.length := by
  rcases h.1.2 with ⟨h1, h2⟩ | ⟨g, cap', cur, h1, _⟩
  · cases h1; exact h2.symm
  · cases h1; rfl
theorem RowB.at {base : Nat} {w : World} {g n cap : Nat} {l : List Bdy} (h : RowB base w (.slice (some ⟨g, 0, none⟩) n cap) l) {i : Nat} {x : Bdy} (hx : l[i]? = some x) : BodyAt w g (i * 9) x := by
  have hi := (List.getElem?_eq_some_iff.1 hx).1
  obtain rfl := h.len
  have hrow : w.ownsRow base 133 9 (.slice (some ⟨g, 0, none⟩) l.length cap) l.length (bvs l) := h.1
  exact bodyAt_of fun r hr => by
    rw [hrow.cellAt (i * 9 + r) (by omega)]
    exact flat_at bv 9 bv_len l i r x hx hr
theorem RowB.bodies {base : Nat} {w : World} {s : Value} {l : List Bdy} (h : RowB base w s l) : BodiesAt w s l := by
  have h0 := h
  rcases h.1.2 with ⟨h1, h2⟩ | ⟨g, cap, cur, hv, hg, hh, h3⟩
  · exact .inl ⟨⟨_, h1⟩, List.eq_nil_of_length_eq_zero h2⟩
  · subst hv
    exact .inr ⟨g, 0, cap, rfl, h.2, fun i x hx => by rw [Nat.zero_add]; exact h0.at hx⟩
theorem infoB : (Tryz.prog.info? 133).map (fun i => (i.zero, i.size, i.bytes)) = some (some (.agg #[.int .i64 0, .int .i64 0, .int .i64 0, .int .i64 0, .int .i64 0, .int .i64 0, .int .i64 0, .bool false, .bool false]), 9, 64) := by kernel_rfl
set_option maxHeartbeats 1000000 in
theorem cloneB_any (s : Value) (l : List Bdy) (w : World) (h : BodiesAt w s l) :
    Calls Tryz.prog 80 #[s] w fun e w' => ∃ v, e = .returned v ∧ RowB w.heap.size w' v l ∧ Below w.heap.size w w' := by
  have hkk := h.len64
  have hk := hkk
  obtain ⟨i0, hi, hz0, hz1, hz2⟩ := info_parts infoB
  by_cases hn : s = .slice none 0 0
  · subst hn
    have hl : l = [] := by
      rcases h with ⟨_, h⟩ | ⟨b, off, cap, h, _⟩
      · exact h
      · cases h
    subst hl
    have heq : ∀ w : World, (binOp .eql 104 (.slice none 0 0) (.slice none 0 0)).run Tryz.prog w = .ok (.bool true) w := fun w => by kernel_rfl
    go_enter Tryz.func80, Tryz.ntmps80
    go_wp2
    go_returns
    exact ⟨_, rfl, ⟨World.ownsRow_nil _ _ _ _, hk⟩, by go_grown⟩
  · obtain ⟨q, cap, rfl⟩ : ∃ q cap, s = .slice (some q) l.length cap := by
      rcases h with ⟨⟨a0, h⟩, h2⟩ | ⟨b, off, cap, h, _⟩
      · cases a0 with
        | none => exact absurd h hn
        | some q => exact ⟨q, 0, by rw [h, h2]; rfl⟩
      · exact ⟨_, cap, h⟩
    obtain ⟨n, hn2⟩ : ∃ n, l.length = n := ⟨_, rfl⟩
    have HN := Lib.hid hn2
    rw [hn2] at h hkk ⊢
    have heq : ∀ w : World, (binOp .eql 104 (.slice (some q) n cap) (.slice none 0 0)).run Tryz.prog w = .ok (.bool false) w := fun w => Lib.run_eql_slice_nil w _ 133 (some q) n cap 0 0 Tryz.underlying104
    have HO := Lib.hid (show (w.alloc (.cells #[] 133)).ownsRow w.heap.size 133 9 (.slice (some ⟨w.heap.size, 0, none⟩) 0 0) 0 [] from World.ownsRow_made w #[] 0 (Nat.le_refl _) (by decide) (by decide))
    have HCl := Lib.hid (h.below ((Below.refl _ _).alloc (Nat.le_refl _) (.cells #[] 133))).cell
    have HK := Lib.hid hk
    clear hk hn hn2
    go_enter Tryz.func80, Tryz.ntmps80
    go_wp2_with (at_builtin; refine wpList_append_own _ rfl _ _ 104 rfl w.heap.size 133 i0 (.agg #[.int .i64 0, .int .i64 0, .int .i64 0, .int .i64 0, .int .i64 0, .int .i64 0, .int .i64 0, .bool false, .bool false]) 9 64 Tryz.underlying104 hi hz0 hz1 hz2 rfl (by decide) _ 0 [] rfl HO.out q n cap (bvs l) rfl (by rw [bvs_len, HN.out]) HCl.out (bvs_one l) ?c1 ?c2 (by simp) ?_)
    case c1 => unfold maxLen; omega
    case c2 => omega
    intro v' w1 hown' hgrow _
    have hvf : ∃ a n c, v' = .slice a n c := by
      rcases hown'.2 with ⟨h, _⟩ | ⟨g, cap', cur, h, _⟩
      · exact ⟨_, _, _, h⟩
      · exact ⟨_, _, _, h⟩
    obtain ⟨a', n', c', rfl⟩ := hvf
    go_wp2
    go_returns
    exact ⟨_, rfl, ⟨by rw [HN.out]; exact hown', HK.out⟩, ((Below.refl _ _).alloc (Nat.le_refl _) _).grown hgrow (by simp) (by intro k hk; cases hk; exact Nat.le_refl _)⟩
theorem cloneR_any (w : World) : Calls Tryz.prog 81 #[.slice none 0 0] w fun e w' => e = .returned (.slice none 0 0) ∧ Below w.heap.size w w' := by
  have heq : ∀ w : World, (binOp .eql 103 (.slice none 0 0) (.slice none 0 0)).run Tryz.prog w = .ok (.bool true) w := fun w => by kernel_rfl
  go_enter Tryz.func81, Tryz.ntmps81
  go_wp2
  go_returns
  exact ⟨rfl, by go_grown⟩
end Go.Proofs.YtlcjkomfjgddeaaGreatDoor
