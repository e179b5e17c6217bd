/- step.body. -/
import Derived.Test.YtlcjkomfjgddeaaGreatDoorM13
import Derived.Test.YtlcjkomfjgddeaaGreatDoorM16
set_option linter.unusedVariables false
set_option linter.unusedSimpArgs false
namespace Go.Proofs.YtlcjkomfjgddeaaGreatDoor
open Go Go.RowKit Go.Sort
set_option maxRecDepth 100000
attribute [local go_sem] opLow opUpon opLow2 opUpon2

theorem Bk.store9 {B g : Nat} {t : TypeId} {w1 w : World} {x0 x1 x2 x3 x4 x5 x6 x7 x8 y0 y1 y2 y3 y4 y5 y6 y7 y8 : Value} (h : Bk w g #[x0, x1, x2, x3, x4, x5, x6, x7, x8] t) (hB : Below B w1 w) (hg : B ≤ g) :
    Bk (((((((((w.setCell ⟨g, 0, none⟩ y0).setCell ⟨g, 1, none⟩ y1).setCell ⟨g, 2, none⟩ y2).setCell ⟨g, 3, none⟩ y3).setCell ⟨g, 4, none⟩ y4).setCell ⟨g, 5, none⟩ y5).setCell ⟨g, 6, none⟩ y6).setCell ⟨g, 7, none⟩ y7).setCell ⟨g, 8, none⟩ y8) g #[y0, y1, y2, y3, y4, y5, y6, y7, y8] t ∧ Below B w1 (((((((((w.setCell ⟨g, 0, none⟩ y0).setCell ⟨g, 1, none⟩ y1).setCell ⟨g, 2, none⟩ y2).setCell ⟨g, 3, none⟩ y3).setCell ⟨g, 4, none⟩ y4).setCell ⟨g, 5, none⟩ y5).setCell ⟨g, 6, none⟩ y6).setCell ⟨g, 7, none⟩ y7).setCell ⟨g, 8, none⟩ y8) := by
  have P1 : Bk (w.setCell ⟨g, 0, none⟩ y0) g #[y0, x1, x2, x3, x4, x5, x6, x7, x8] t := h.put 0 y0
  have G1 := hB.setCell (p := ⟨g, 0, none⟩) hg y0
  have P2 : Bk ((w.setCell ⟨g, 0, none⟩ y0).setCell ⟨g, 1, none⟩ y1) g #[y0, y1, x2, x3, x4, x5, x6, x7, x8] t := P1.put 1 y1
  have G2 := G1.setCell (p := ⟨g, 1, none⟩) hg y1
  have P3 : Bk (((w.setCell ⟨g, 0, none⟩ y0).setCell ⟨g, 1, none⟩ y1).setCell ⟨g, 2, none⟩ y2) g #[y0, y1, y2, x3, x4, x5, x6, x7, x8] t := P2.put 2 y2
  have G3 := G2.setCell (p := ⟨g, 2, none⟩) hg y2
  have P4 : Bk ((((w.setCell ⟨g, 0, none⟩ y0).setCell ⟨g, 1, none⟩ y1).setCell ⟨g, 2, none⟩ y2).setCell ⟨g, 3, none⟩ y3) g #[y0, y1, y2, y3, x4, x5, x6, x7, x8] t := P3.put 3 y3
  have G4 := G3.setCell (p := ⟨g, 3, none⟩) hg y3
  have P5 : Bk (((((w.setCell ⟨g, 0, none⟩ y0).setCell ⟨g, 1, none⟩ y1).setCell ⟨g, 2, none⟩ y2).setCell ⟨g, 3, none⟩ y3).setCell ⟨g, 4, none⟩ y4) g #[y0, y1, y2, y3, y4, x5, x6, x7, x8] t := P4.put 4 y4
  have G5 := G4.setCell (p := ⟨g, 4, none⟩) hg y4
  have P6 : Bk ((((((w.setCell ⟨g, 0, none⟩ y0).setCell ⟨g, 1, none⟩ y1).setCell ⟨g, 2, none⟩ y2).setCell ⟨g, 3, none⟩ y3).setCell ⟨g, 4, none⟩ y4).setCell ⟨g, 5, none⟩ y5) g #[y0, y1, y2, y3, y4, y5, x6, x7, x8] t := P5.put 5 y5
  have G6 := G5.setCell (p := ⟨g, 5, none⟩) hg y5
  have P7 : Bk (((((((w.setCell ⟨g, 0, none⟩ y0).setCell ⟨g, 1, none⟩ y1).setCell ⟨g, 2, none⟩ y2).setCell ⟨g, 3, none⟩ y3).setCell ⟨g, 4, none⟩ y4).setCell ⟨g, 5, none⟩ y5).setCell ⟨g, 6, none⟩ y6) g #[y0, y1, y2, y3, y4, y5, y6, x7, x8] t := P6.put 6 y6
  have G7 := G6.setCell (p := ⟨g, 6, none⟩) hg y6
  have P8 : Bk ((((((((w.setCell ⟨g, 0, none⟩ y0).setCell ⟨g, 1, none⟩ y1).setCell ⟨g, 2, none⟩ y2).setCell ⟨g, 3, none⟩ y3).setCell ⟨g, 4, none⟩ y4).setCell ⟨g, 5, none⟩ y5).setCell ⟨g, 6, none⟩ y6).setCell ⟨g, 7, none⟩ y7) g #[y0, y1, y2, y3, y4, y5, y6, y7, x8] t := P7.put 7 y7
  have G8 := G7.setCell (p := ⟨g, 7, none⟩) hg y7
  have P9 : Bk (((((((((w.setCell ⟨g, 0, none⟩ y0).setCell ⟨g, 1, none⟩ y1).setCell ⟨g, 2, none⟩ y2).setCell ⟨g, 3, none⟩ y3).setCell ⟨g, 4, none⟩ y4).setCell ⟨g, 5, none⟩ y5).setCell ⟨g, 6, none⟩ y6).setCell ⟨g, 7, none⟩ y7).setCell ⟨g, 8, none⟩ y8) g #[y0, y1, y2, y3, y4, y5, y6, y7, y8] t := P8.put 8 y8
  have G9 := G8.setCell (p := ⟨g, 8, none⟩) hg y8
  exact ⟨P9, G9⟩
theorem comp_kept {w w' : World} {n g o : Nat} {x : Cmp} (h : CompAt w g o x) (hb : Below n w w') (hg : g < n) : CompAt w' g o x := by
  obtain ⟨⟨h0, h1, h2, h3, h4⟩, hk⟩ := h
  refine ⟨⟨?_, ?_, ?_, ?_, ?_⟩, hk⟩ <;> (refine Eq.trans (hb.cell ?_) ‹_›; exact hg)
def isOne (x : Int) : Bool := decide (x = 1)
/-- the body that an entity is -/
def bodyM (e : Ent) : Option Bdy := match e.cs.find? (keyC 1), e.cs.find? (keyC 3), e.cs.find? (keyC 2) with
  | some p, some b, some v => some ⟨e.id, p.a, p.b, if isOne b.d = true then 0 else v.a, if isOne b.d = true then 0 else v.b, b.a, b.b, isOne b.c, isOne b.d⟩
  | some p, some b, none => some ⟨e.id, p.a, p.b, 0, 0, b.a, b.b, isOne b.c, true⟩
  | _, _, _ => none
def noBdy : Bdy := ⟨0, 0, 0, 0, 0, 0, 0, false, false⟩
def bodyR (o : Option Bdy) : Value := match o with
  | some b => .tuple #[Bv b, .bool true]
  | none => .tuple #[Bv noBdy, .bool false]
/-- the first component of a kind, and where it lies -/
theorem first_case (w : World) (a : Option Addr) (n c : Nat) (l : List Cmp) (k : Int) (h : CompsAt w (.slice a n c) l) :
    (l.find? (keyC k) = none ∧ firstV a (firstOf (keyC k) l) = .pointer none) ∨
    ∃ (b off i : Nat) (x : Cmp), a = some ⟨b, off, none⟩ ∧ l.find? (keyC k) = some x ∧ l[i]? = some x ∧ x.k = k ∧ firstV a (firstOf (keyC k) l) = .pointer (some ⟨b, off + i * 5, none⟩) ∧ firstOf (keyC k) l = i ∧ CompAt w b (off + i * 5) x := by
  by_cases hf : l.any (keyC k) = true
  · right
    rcases h with ⟨h1, rfl⟩ | ⟨b, off, cap, h1, hl, hc⟩
    · cases hf
    · cases h1
      have hi := List.findIdx_lt_length.2 (List.any_eq_true.1 hf)
      have hx := List.getElem?_eq_getElem hi
      have hk := List.findIdx_getElem (w := hi)
      refine ⟨b, off, l.findIdx (keyC k), l[l.findIdx (keyC k)], rfl, ?_, hx, of_decide_eq_true hk, ?_, by unfold firstOf; rw [if_pos hf], hc _ _ hx⟩
      · rw [List.find?_eq_getElem?_findIdx, hx]
      · unfold firstOf firstV
        rw [if_pos hf]
        simp
  · left
    have hf' : l.any (keyC k) = false := by simpa using hf
    refine ⟨List.find?_eq_none.2 fun x hx => by simpa using List.any_eq_false.1 hf' x hx, ?_⟩
    unfold firstOf firstV
    rw [if_neg hf]
    rcases a with _ | ⟨b, off, s⟩ <;> simp
set_option maxHeartbeats 8000000 in
theorem body_none (e : Ent) (a : Option Addr) (n c : Nat) (w : World) (h : CompsAt w (.slice a n c) e.cs) (hm : bodyM e = none) :
    Calls Tryz.prog 86 #[.agg #[.int .i64 e.id, .slice a n c]] w fun e' w' => e' = .returned (bodyR none) ∧ Below w.heap.size w w' := by
  obtain ⟨id, cs⟩ := e
  simp only at h ⊢
  have hb0 : Below w.heap.size w ((w.alloc (.cells #[.int .i64 id, .slice a n c] 43)).alloc (.cells #[.int .i64 0, .int .i64 0, .int .i64 0, .int .i64 0, .int .i64 0, .int .i64 0, .int .i64 0, .bool false, .bool false] 133)) := ((Below.refl _ _).alloc (Nat.le_refl _) _).alloc (by simp) _
  have F1 := fun V (hV : Below ((w.alloc (.cells #[.int .i64 id, .slice a n c] 43)).alloc (.cells #[.int .i64 0, .int .i64 0, .int .i64 0, .int .i64 0, .int .i64 0, .int .i64 0, .int .i64 0, .bool false, .bool false] 133)).heap.size ((w.alloc (.cells #[.int .i64 id, .slice a n c] 43)).alloc (.cells #[.int .i64 0, .int .i64 0, .int .i64 0, .int .i64 0, .int .i64 0, .int .i64 0, .int .i64 0, .bool false, .bool false] 133)) V) (k : Int) => first_any id cs a n c k V ((h.below hb0).below hV)
  obtain ⟨p1, hp1⟩ : ∃ p, firstV a (firstOf (keyC 1) cs) = p := ⟨_, rfl⟩
  obtain ⟨p3, hp3⟩ : ∃ p, firstV a (firstOf (keyC 3) cs) = p := ⟨_, rfl⟩
  obtain ⟨p2, hp2⟩ : ∃ p, firstV a (firstOf (keyC 2) cs) = p := ⟨_, rfl⟩
  have hcase : p1 = .pointer none ∨ ((∃ q, p1 = .pointer (some q)) ∧ p3 = .pointer none) := by
    rcases first_case w a n c cs 1 h with ⟨h1, h2⟩ | ⟨b, off, i, x, -, h1, -, -, h2, -⟩
    · left; rw [← hp1, h2]
    · right
      refine ⟨⟨_, by rw [← hp1, h2]⟩, ?_⟩
      rcases first_case w a n c cs 3 h with ⟨h3, h4⟩ | ⟨b', off', i', x', -, h3, -, -, h4, -⟩
      · rw [← hp3, h4]
      · exfalso
        rcases h5 : cs.find? (keyC 2) with _ | v
        · simp only [bodyM, h1, h3, h5] at hm; cases hm
        · simp only [bodyM, h1, h3, h5] at hm; cases hm
  have G1 := Lib.hid (fun V hV => by have := F1 V hV 1; rw [hp1] at this; exact this)
  have G3 := Lib.hid (fun V hV => by have := F1 V hV 3; rw [hp3] at this; exact this)
  have G2 := Lib.hid (fun V hV => by have := F1 V hV 2; rw [hp2] at this; exact this)
  clear F1 hp1 hp2 hp3 hm h hb0
  rcases hcase with rfl | ⟨⟨q, rfl⟩, rfl⟩
  all_goals
    go_enter Tryz.func86, Tryz.ntmps86
    go_wp2
    have B1 : Bk ((w.alloc (.cells #[.int .i64 id, .slice a n c] 43)).alloc (.cells #[.int .i64 0, .int .i64 0, .int .i64 0, .int .i64 0, .int .i64 0, .int .i64 0, .int .i64 0, .bool false, .bool false] 133)) w.heap.size #[.int .i64 id, .slice a n c] 43 := (Bk.made _ _ _).alloc _
    have k0 := cell_regrown (B1.cell (v := .int .i64 id) 0 rfl)
    have k1 := cell_regrown (B1.cell (v := .slice a n c) 1 rfl)
    refine wp_region_low2 noPosts 8 (by kernel_rfl) (by kernel_rfl) ?_
    simp only [List.take, List.drop]
    iterate 1 (refine low2_step (fun K hK => ?_); go_simp; first | (refine hK _ ?_; clear hK K) | (apply Exists.intro; refine ⟨fun p => ?_, hK _ ?_⟩; clear hK K))
    refine low2_reads 90 #[.agg #[.int .i64 id, .slice a n c], .int .u8 1] _ (by rfl) (fun w => by go_simp; try rfl) rfl (by kernel_rfl) (fun V1 hV hG => G1.out V1 hV) ?_
    iterate 1 (refine low2_step (fun K hK => ?_); go_simp; first | (refine hK _ ?_; clear hK K) | (apply Exists.intro; refine ⟨fun p => ?_, hK _ ?_⟩; clear hK K))
    refine low2_reads 90 #[.agg #[.int .i64 id, .slice a n c], .int .u8 3] _ (by rfl) (fun w => by go_simp; try rfl) rfl (by kernel_rfl) (fun V1 hV hG => G3.out V1 hV) ?_
    iterate 1 (refine low2_step (fun K hK => ?_); go_simp; first | (refine hK _ ?_; clear hK K) | (apply Exists.intro; refine ⟨fun p => ?_, hK _ ?_⟩; clear hK K))
    refine low2_reads 90 #[.agg #[.int .i64 id, .slice a n c], .int .u8 2] _ (by rfl) (fun w => by go_simp; try rfl) rfl (by kernel_rfl) (fun V1 hV hG => G2.out V1 hV) ?_
    iterate 2 (refine low2_step (fun K hK => ?_); go_simp; first | (refine hK _ ?_; clear hK K) | (apply Exists.intro; refine ⟨fun p => ?_, hK _ ?_⟩; clear hK K))
    refine low2_nil ?_
    intro W2 hC
    have B2 : Bk W2 (w.heap.size + 1) #[.int .i64 0, .int .i64 0, .int .i64 0, .int .i64 0, .int .i64 0, .int .i64 0, .int .i64 0, .bool false, .bool false] 133 := Bk.below (Bk.at_ (by simp)) hC.1
    obtain ⟨hgg, hs⟩ := below_cc (w := w) hC.1 (by go_grown)
    clear hC k0 k1 B1
    have lt := B2.lt
    have d0 := B2.cell (v := .int .i64 0) 0 rfl
    have f0 := B2.free 0
    have d1 := B2.cell (v := .int .i64 0) 1 rfl
    have f1 := B2.free 1
    have d2 := B2.cell (v := .int .i64 0) 2 rfl
    have f2 := B2.free 2
    have d3 := B2.cell (v := .int .i64 0) 3 rfl
    have f3 := B2.free 3
    have d4 := B2.cell (v := .int .i64 0) 4 rfl
    have f4 := B2.free 4
    have d5 := B2.cell (v := .int .i64 0) 5 rfl
    have f5 := B2.free 5
    have d6 := B2.cell (v := .int .i64 0) 6 rfl
    have f6 := B2.free 6
    have d7 := B2.cell (v := .bool false) 7 rfl
    have f7 := B2.free 7
    have d8 := B2.cell (v := .bool false) 8 rfl
    have f8 := B2.free 8
    go_wp2
    refine post_name (fun V => Bk V (w.heap.size + 1) #[.int .i64 0, .int .i64 0, .int .i64 0, .int .i64 0, .int .i64 0, .int .i64 0, .int .i64 0, .bool false, .bool false] 133 ∧ Below w.heap.size w V) (Bk.store9 B2 hgg (Nat.le_succ _)) ?_
    rintro V ⟨BV, hbV⟩
    clear d0 f0 d1 f1 d2 f2 d3 f3 d4 f4 d5 f5 d6 f6 d7 f7 d8 f8
    have y0 := BV.cell (v := .int .i64 0) 0 rfl
    have y1 := BV.cell (v := .int .i64 0) 1 rfl
    have y2 := BV.cell (v := .int .i64 0) 2 rfl
    have y3 := BV.cell (v := .int .i64 0) 3 rfl
    have y4 := BV.cell (v := .int .i64 0) 4 rfl
    have y5 := BV.cell (v := .int .i64 0) 5 rfl
    have y6 := BV.cell (v := .int .i64 0) 6 rfl
    have y7 := BV.cell (v := .bool false) 7 rfl
    have y8 := BV.cell (v := .bool false) 8 rfl
    exact bodyPost_ret (v := .tuple #[.agg #[.int .i64 0, .int .i64 0, .int .i64 0, .int .i64 0, .int .i64 0, .int .i64 0, .int .i64 0, .bool false, .bool false], .bool false]) (by simp [results, Tryz.results86, go_sem, y0, y1, y2, y3, y4, y5, y6, y7, y8]; try rfl) rfl ⟨rfl, hbV⟩
set_option maxHeartbeats 8000000 in
theorem body_vel (id : Int) (cs : List Cmp) (a : Option Addr) (n c : Nat) (x y v : Cmp) (w : World) (h : CompsAt w (.slice a n c) cs) (hx : cs.find? (keyC 1) = some x) (hy : cs.find? (keyC 3) = some y) (hv : cs.find? (keyC 2) = some v) :
    Calls Tryz.prog 86 #[.agg #[.int .i64 id, .slice a n c]] w fun e' w' => e' = .returned (bodyR (bodyM ⟨id, cs⟩)) ∧ Below w.heap.size w w' := by
  have hb0 : Below w.heap.size w ((w.alloc (.cells #[.int .i64 id, .slice a n c] 43)).alloc (.cells #[.int .i64 0, .int .i64 0, .int .i64 0, .int .i64 0, .int .i64 0, .int .i64 0, .int .i64 0, .bool false, .bool false] 133)) := ((Below.refl _ _).alloc (Nat.le_refl _) _).alloc (by simp) _
  have F1 := fun V (hV : Below ((w.alloc (.cells #[.int .i64 id, .slice a n c] 43)).alloc (.cells #[.int .i64 0, .int .i64 0, .int .i64 0, .int .i64 0, .int .i64 0, .int .i64 0, .int .i64 0, .bool false, .bool false] 133)).heap.size ((w.alloc (.cells #[.int .i64 id, .slice a n c] 43)).alloc (.cells #[.int .i64 0, .int .i64 0, .int .i64 0, .int .i64 0, .int .i64 0, .int .i64 0, .int .i64 0, .bool false, .bool false] 133)) V) (k : Int) => first_any id cs a n c k V ((h.below hb0).below hV)
  obtain ⟨p1, hp1⟩ : ∃ p, firstV a (firstOf (keyC 1) cs) = p := ⟨_, rfl⟩
  obtain ⟨p3, hp3⟩ : ∃ p, firstV a (firstOf (keyC 3) cs) = p := ⟨_, rfl⟩
  obtain ⟨p2, hp2⟩ : ∃ p, firstV a (firstOf (keyC 2) cs) = p := ⟨_, rfl⟩
  obtain ⟨b, off, i, x', ha, h1, -, -, h2, -, hcx⟩ : ∃ (b off i : Nat) (x' : Cmp), a = some ⟨b, off, none⟩ ∧ cs.find? (keyC 1) = some x' ∧ True ∧ True ∧ firstV a (firstOf (keyC 1) cs) = .pointer (some ⟨b, off + i * 5, none⟩) ∧ True ∧ CompAt w b (off + i * 5) x' := by
    rcases first_case w a n c cs 1 h with ⟨h1, h2⟩ | ⟨b, off, i, x, h0, h1, -, -, h2, -, hc⟩
    · rw [hx] at h1; cases h1
    · exact ⟨b, off, i, x, h0, h1, trivial, trivial, h2, trivial, hc⟩
  rw [hx] at h1
  obtain rfl := Option.some.inj h1
  obtain ⟨b', off', j, y', ha', h3, -, -, h4, -, hcy⟩ : ∃ (b off i : Nat) (x' : Cmp), a = some ⟨b, off, none⟩ ∧ cs.find? (keyC 3) = some x' ∧ True ∧ True ∧ firstV a (firstOf (keyC 3) cs) = .pointer (some ⟨b, off + i * 5, none⟩) ∧ True ∧ CompAt w b (off + i * 5) x' := by
    rcases first_case w a n c cs 3 h with ⟨h1, h2⟩ | ⟨b, off, i, x, h0, h1, -, -, h2, -, hc⟩
    · rw [hy] at h1; cases h1
    · exact ⟨b, off, i, x, h0, h1, trivial, trivial, h2, trivial, hc⟩
  rw [hy] at h3
  obtain rfl := Option.some.inj h3
  obtain ⟨b'', off'', k, v', ha'', h5, -, -, h6, -, hcv⟩ : ∃ (b off i : Nat) (x' : Cmp), a = some ⟨b, off, none⟩ ∧ cs.find? (keyC 2) = some x' ∧ True ∧ True ∧ firstV a (firstOf (keyC 2) cs) = .pointer (some ⟨b, off + i * 5, none⟩) ∧ True ∧ CompAt w b (off + i * 5) x' := by
    rcases first_case w a n c cs 2 h with ⟨h1, h2⟩ | ⟨b, off, i, x, h0, h1, -, -, h2, -, hc⟩
    · rw [hv] at h1; cases h1
    · exact ⟨b, off, i, x, h0, h1, trivial, trivial, h2, trivial, hc⟩
  rw [hv] at h5
  obtain rfl := Option.some.inj h5
  have hbm : bodyM ⟨id, cs⟩ = some ⟨id, x.a, x.b, if isOne y.d = true then 0 else v.a, if isOne y.d = true then 0 else v.b, y.a, y.b, isOne y.c, isOne y.d⟩ := by simp only [bodyM, hx, hy, hv]
  rw [hbm]
  obtain rfl : p1 = .pointer (some ⟨b, off + i * 5, none⟩) := by rw [← hp1, h2]
  obtain rfl : p3 = .pointer (some ⟨b', off' + j * 5, none⟩) := by rw [← hp3, h4]
  obtain rfl : p2 = .pointer (some ⟨b'', off'' + k * 5, none⟩) := by rw [← hp2, h6]
  obtain ⟨q1, hq1⟩ : ∃ q, off + i * 5 = q := ⟨_, rfl⟩
  obtain ⟨q3, hq3⟩ : ∃ q, off' + j * 5 = q := ⟨_, rfl⟩
  obtain ⟨q2, hq2⟩ : ∃ q, off'' + k * 5 = q := ⟨_, rfl⟩
  rw [hq2] at hp2 hcv
  rw [hq1] at hp1 hcx
  rw [hq3] at hp3 hcy
  have G1 := Lib.hid (fun V hV => by have := F1 V hV 1; rw [hp1] at this; exact this)
  have G3 := Lib.hid (fun V hV => by have := F1 V hV 3; rw [hp3] at this; exact this)
  have G2 := Lib.hid (fun V hV => by have := F1 V hV 2; rw [hp2] at this; exact this)
  have HC := Lib.hid (And.intro hcx (And.intro hcy hcv))

  clear F1 hp1 hp2 hp3 h hb0 h1 h2 h3 h4 h6 hx hy hv ha ha' ha'' hcx hcy hcv hbm hq1 hq2 hq3 h5
  clear off off' off'' i j k
  obtain ⟨r1, hr1⟩ : ∃ r, isOne y.c = r := ⟨_, rfl⟩
  have e1 : ((y.c : Int) == 1) = r1 := by rw [← hr1]; unfold isOne; rfl
  rw [hr1]
  clear hr1
  obtain ⟨r2, hr2⟩ : ∃ r, isOne y.d = r := ⟨_, rfl⟩
  have e2 : ((y.d : Int) == 1) = r2 := by rw [← hr2]; unfold isOne; rfl
  rw [hr2]
  clear hr2
  have HE := Lib.hid (And.intro e1 e2)
  clear e1 e2
  go_enter Tryz.func86, Tryz.ntmps86
  go_wp2
  have hB1 : Bk ((w.alloc (.cells #[.int .i64 id, .slice a n c] 43)).alloc (.cells #[.int .i64 0, .int .i64 0, .int .i64 0, .int .i64 0, .int .i64 0, .int .i64 0, .int .i64 0, .bool false, .bool false] 133)) w.heap.size #[.int .i64 id, .slice a n c] 43 := (Bk.made _ _ _).alloc _
  have k0 := cell_regrown (hB1.cell (v := .int .i64 id) 0 rfl)
  have k1 := cell_regrown (hB1.cell (v := .slice a n c) 1 rfl)
  refine wp_region_low2 noPosts 8 (by kernel_rfl) (by kernel_rfl) ?_
  simp only [List.take, List.drop]
  iterate 1 (refine low2_step (fun K hK => ?_); go_simp; first | (refine hK _ ?_; clear hK K) | (apply Exists.intro; refine ⟨fun p => ?_, hK _ ?_⟩; clear hK K))
  refine low2_reads 90 #[.agg #[.int .i64 id, .slice a n c], .int .u8 1] _ (by rfl) (fun w => by go_simp; try rfl) rfl (by kernel_rfl) (fun V1 hV hG => G1.out V1 hV) ?_
  iterate 1 (refine low2_step (fun K hK => ?_); go_simp; first | (refine hK _ ?_; clear hK K) | (apply Exists.intro; refine ⟨fun p => ?_, hK _ ?_⟩; clear hK K))
  refine low2_reads 90 #[.agg #[.int .i64 id, .slice a n c], .int .u8 3] _ (by rfl) (fun w => by go_simp; try rfl) rfl (by kernel_rfl) (fun V1 hV hG => G3.out V1 hV) ?_
  iterate 1 (refine low2_step (fun K hK => ?_); go_simp; first | (refine hK _ ?_; clear hK K) | (apply Exists.intro; refine ⟨fun p => ?_, hK _ ?_⟩; clear hK K))
  refine low2_reads 90 #[.agg #[.int .i64 id, .slice a n c], .int .u8 2] _ (by rfl) (fun w => by go_simp; try rfl) rfl (by kernel_rfl) (fun V1 hV hG => G2.out V1 hV) ?_
  iterate 2 (refine low2_step (fun K hK => ?_); go_simp; first | (refine hK _ ?_; clear hK K) | (apply Exists.intro; refine ⟨fun p => ?_, hK _ ?_⟩; clear hK K))
  refine low2_nil ?_
  intro W2 hC
  have B1 := hB1.below hC.1
  replace HC := Lib.hid (And.intro (CompAt.below (below_cc (w := w) hC.1 (by go_grown)).1 _ _ _ HC.out.1) (And.intro (CompAt.below (below_cc (w := w) hC.1 (by go_grown)).1 _ _ _ HC.out.2.1) (CompAt.below (below_cc (w := w) hC.1 (by go_grown)).1 _ _ _ HC.out.2.2)))
  have B2 : Bk W2 (w.heap.size + 1) #[.int .i64 0, .int .i64 0, .int .i64 0, .int .i64 0, .int .i64 0, .int .i64 0, .int .i64 0, .bool false, .bool false] 133 := Bk.below (Bk.at_ (by simp)) hC.1
  obtain ⟨hgg, hs⟩ := below_cc (w := w) hC.1 (by go_grown)
  clear hC k0 k1 hB1
  have lt := B2.lt
  go_wp2
  obtain ⟨⟨⟨x0, x1, x2, x3, x4⟩, -, -⟩, ⟨⟨y0, y1, y2, y3, y4⟩, -, -⟩, -⟩ := HC.out
  have x2' : W2.cell? ⟨b, q1 + 1 + 1, none⟩ = some (.int .i64 x.b) := x2
  have y2' : W2.cell? ⟨b', q3 + 1 + 1, none⟩ = some (.int .i64 y.b) := y2
  have y3' : W2.cell? ⟨b', q3 + 1 + 2, none⟩ = some (.int .i64 y.c) := y3
  have y4' : W2.cell? ⟨b', q3 + 1 + 3, none⟩ = some (.int .i64 y.d) := y4
  clear x0 x2 x3 x4 y0 y2 y3 y4
  have lb1 : b < W2.heap.size := World.block_lt_of_cell? W2 _ x1
  have lb2 : b' < W2.heap.size := World.block_lt_of_cell? W2 _ y1
  have k0 := cell_regrown (B1.cell (v := .int .i64 id) 0 rfl)
  have e1 := HE.out.1
  have e2 := HE.out.2
  replace x1 := cell_regrown x1
  replace x2' := cell_regrown x2'
  replace y1 := cell_regrown y1
  replace y2' := cell_regrown y2'
  replace y3' := cell_regrown y3'
  replace y4' := cell_regrown y4'
  clear lb1 lb2
  cases r2
  · refine wp_region_low2 noPosts 41 (by kernel_rfl) (by kernel_rfl) ?_
    simp only [List.take, List.drop]
    iterate 40 (refine low2_step (fun K hK => ?_); go_simp; first | (refine hK _ ?_; clear hK K) | (apply Exists.intro; refine ⟨fun p => ?_, hK _ ?_⟩; clear hK K))
    refine low2_new (.cells #[.int .i64 0, .int .i64 0, .int .i64 0, .int .i64 0, .int .i64 0, .int .i64 0, .int .i64 0, .bool false, .bool false] 133) (by rfl) (fun w => by go_simp; try rfl) ?_
    intro g
    refine low2_nil ?_
    intro W3 hC
    obtain ⟨zg, B7⟩ : _ ∧ Bk W3 g #[.int .i64 0, .int .i64 0, .int .i64 0, .int .i64 0, .int .i64 0, .int .i64 0, .int .i64 0, .bool false, .bool false] 133 := hC.made 40 _ rfl
    have lu2 := B2.lt
    have n27 : w.heap.size + 1 ≠ g := Nat.ne_of_lt (Nat.lt_of_lt_of_le lu2 zg)
    have HC3 := Lib.hid (CompAt.below hC.1 _ _ _ HC.out.2.2)
    have lbv := World.block_lt_of_cell? W2 _ HC.out.2.2.1.1
    have zg2 := zg
    replace B1 := B1.below hC.1
    replace B2 := B2.below hC.1
    obtain ⟨hgg, hs3⟩ := below_cc (w := w) hC.1 hgg
    have hzg : w.heap.size ≤ g := Nat.le_trans hs zg
    clear hC k0 x1 x2' y1 y2' y3' y4' e1 e2 lt hs zg
    have s0 := B7.cell (v := .int .i64 0) 0 rfl
    have sf0 := B7.free 0
    have s1 := B7.cell (v := .int .i64 0) 1 rfl
    have sf1 := B7.free 1
    have s2 := B7.cell (v := .int .i64 0) 2 rfl
    have sf2 := B7.free 2
    have s3 := B7.cell (v := .int .i64 0) 3 rfl
    have sf3 := B7.free 3
    have s4 := B7.cell (v := .int .i64 0) 4 rfl
    have sf4 := B7.free 4
    have s5 := B7.cell (v := .int .i64 0) 5 rfl
    have sf5 := B7.free 5
    have s6 := B7.cell (v := .int .i64 0) 6 rfl
    have sf6 := B7.free 6
    have s7 := B7.cell (v := .bool false) 7 rfl
    have sf7 := B7.free 7
    have s8 := B7.cell (v := .bool false) 8 rfl
    have sf8 := B7.free 8
    have lt7 := B7.lt
    go_upto_region 5 with fail
    refine wp_name (fun V => Bk V g #[.int .i64 id, .int .i64 x.a, .int .i64 x.b, .int .i64 0, .int .i64 0, .int .i64 y.a, .int .i64 y.b, .bool r1, .bool false] 133 ∧ Below w.heap.size w V ∧ Bk V (w.heap.size + 1) #[.int .i64 0, .int .i64 0, .int .i64 0, .int .i64 0, .int .i64 0, .int .i64 0, .int .i64 0, .bool false, .bool false] 133 ∧ V.heap.size = W3.heap.size ∧ Below W2.heap.size W3 V) ⟨(Bk.store9 B7 hgg hzg).1, (Bk.store9 B7 hgg hzg).2, (((((((((B2.far (p := ⟨g, 0, none⟩) n27 _).far (p := ⟨g, 1, none⟩) n27 _).far (p := ⟨g, 2, none⟩) n27 _).far (p := ⟨g, 3, none⟩) n27 _).far (p := ⟨g, 4, none⟩) n27 _).far (p := ⟨g, 5, none⟩) n27 _).far (p := ⟨g, 6, none⟩) n27 _).far (p := ⟨g, 7, none⟩) n27 _).far (p := ⟨g, 8, none⟩) n27 _), by simp [World.setCell], (Bk.store9 B7 (Below.refl W2.heap.size W3) zg2).2⟩ ?_
    clear s0 sf0 s1 sf1 s2 sf2 s3 sf3 s4 sf4 s5 sf5 s6 sf6 s7 sf7 s8 sf8 B7 B2 B1
    rintro V ⟨B7, hgg, B2, hVs, h3V⟩
    replace HC3 := Lib.hid (comp_kept HC3.out h3V lbv)
    clear h3V
    have s0 := B7.cell (v := .int .i64 id) 0 rfl
    have sf0 := B7.free 0
    have s1 := B7.cell (v := .int .i64 x.a) 1 rfl
    have sf1 := B7.free 1
    have s2 := B7.cell (v := .int .i64 x.b) 2 rfl
    have sf2 := B7.free 2
    have s3 := B7.cell (v := .int .i64 0) 3 rfl
    have sf3 := B7.free 3
    have s4 := B7.cell (v := .int .i64 0) 4 rfl
    have sf4 := B7.free 4
    have s5 := B7.cell (v := .int .i64 y.a) 5 rfl
    have sf5 := B7.free 5
    have s6 := B7.cell (v := .int .i64 y.b) 6 rfl
    have sf6 := B7.free 6
    have s7 := B7.cell (v := .bool r1) 7 rfl
    have sf7 := B7.free 7
    have s8 := B7.cell (v := .bool false) 8 rfl
    have sf8 := B7.free 8
    have t0 := B2.cell (v := .int .i64 0) 0 rfl
    have tf0 := B2.free 0
    have t1 := B2.cell (v := .int .i64 0) 1 rfl
    have tf1 := B2.free 1
    have t2 := B2.cell (v := .int .i64 0) 2 rfl
    have tf2 := B2.free 2
    have t3 := B2.cell (v := .int .i64 0) 3 rfl
    have tf3 := B2.free 3
    have t4 := B2.cell (v := .int .i64 0) 4 rfl
    have tf4 := B2.free 4
    have t5 := B2.cell (v := .int .i64 0) 5 rfl
    have tf5 := B2.free 5
    have t6 := B2.cell (v := .int .i64 0) 6 rfl
    have tf6 := B2.free 6
    have t7 := B2.cell (v := .bool false) 7 rfl
    have tf7 := B2.free 7
    have t8 := B2.cell (v := .bool false) 8 rfl
    have tf8 := B2.free 8
    have lt7 := B7.lt
    have lt2 := B2.lt
    go_wp2
    obtain ⟨⟨v0, v1, v2, v3, v4⟩, -, -⟩ := HC3.out
    have m1 : ∀ (d : Nat) (os : Array Obj), (grow (redrawn V d) os).cell? ⟨b'', q2 + 1, none⟩ = some (.int .i64 v.a) := cell_regrown v1
    have m2 : ∀ (d : Nat) (os : Array Obj), (grow (redrawn V d) os).cell? ⟨b'', q2 + 1 + 1, none⟩ = some (.int .i64 v.b) := cell_regrown v2
    clear v0 v1 v2 v3 v4
    refine wp_region_low2 noPosts 12 (by kernel_rfl) (by kernel_rfl) ?_
    simp only [List.take, List.drop]
    iterate 12 (refine low2_step (fun K hK => ?_); go_simp; first | (refine hK _ ?_; clear hK K) | (apply Exists.intro; refine ⟨fun p => ?_, hK _ ?_⟩; clear hK K))
    refine low2_nil ?_
    intro W4 hC
    replace B7 := B7.below hC.1
    replace B2 := B2.below hC.1
    obtain ⟨hgg, hs4⟩ := below_cc (w := w) hC.1 hgg
    clear hC m1 m2 s0 sf0 s1 sf1 s2 sf2 s3 sf3 s4 sf4 s5 sf5 s6 sf6 s7 sf7 s8 sf8 t0 tf0 t1 tf1 t2 tf2 t3 tf3 t4 tf4 t5 tf5 t6 tf6 t7 tf7 t8 tf8 lt7 lt2
    have s0 := B7.cell (v := .int .i64 id) 0 rfl
    have sf0 := B7.free 0
    have s1 := B7.cell (v := .int .i64 x.a) 1 rfl
    have sf1 := B7.free 1
    have s2 := B7.cell (v := .int .i64 x.b) 2 rfl
    have sf2 := B7.free 2
    have s3 := B7.cell (v := .int .i64 0) 3 rfl
    have sf3 := B7.free 3
    have s4 := B7.cell (v := .int .i64 0) 4 rfl
    have sf4 := B7.free 4
    have s5 := B7.cell (v := .int .i64 y.a) 5 rfl
    have sf5 := B7.free 5
    have s6 := B7.cell (v := .int .i64 y.b) 6 rfl
    have sf6 := B7.free 6
    have s7 := B7.cell (v := .bool r1) 7 rfl
    have sf7 := B7.free 7
    have s8 := B7.cell (v := .bool false) 8 rfl
    have sf8 := B7.free 8
    have lt7 := B7.lt
    go_upto_region 7 with fail
    refine wp_name (fun V => Bk V g #[.int .i64 id, .int .i64 x.a, .int .i64 x.b, .int .i64 v.a, .int .i64 v.b, .int .i64 y.a, .int .i64 y.b, .bool r1, .bool false] 133 ∧ Below w.heap.size w V ∧ Bk V (w.heap.size + 1) #[.int .i64 0, .int .i64 0, .int .i64 0, .int .i64 0, .int .i64 0, .int .i64 0, .int .i64 0, .bool false, .bool false] 133) ⟨(B7.put 3 (.int .i64 v.a)).put 4 (.int .i64 v.b), (hgg.setCell (p := ⟨g, 3, none⟩) hzg _).setCell (p := ⟨g, 4, none⟩) hzg _, (B2.far (p := ⟨g, 3, none⟩) n27 _).far (p := ⟨g, 4, none⟩) n27 _⟩ ?_
    clear s0 sf0 s1 sf1 s2 sf2 s3 sf3 s4 sf4 s5 sf5 s6 sf6 s7 sf7 s8 sf8 B7 B2
    rintro V4 ⟨B7, hgg, B2⟩
    have s0 := B7.cell (v := .int .i64 id) 0 rfl
    have sf0 := B7.free 0
    have s1 := B7.cell (v := .int .i64 x.a) 1 rfl
    have sf1 := B7.free 1
    have s2 := B7.cell (v := .int .i64 x.b) 2 rfl
    have sf2 := B7.free 2
    have s3 := B7.cell (v := .int .i64 v.a) 3 rfl
    have sf3 := B7.free 3
    have s4 := B7.cell (v := .int .i64 v.b) 4 rfl
    have sf4 := B7.free 4
    have s5 := B7.cell (v := .int .i64 y.a) 5 rfl
    have sf5 := B7.free 5
    have s6 := B7.cell (v := .int .i64 y.b) 6 rfl
    have sf6 := B7.free 6
    have s7 := B7.cell (v := .bool r1) 7 rfl
    have sf7 := B7.free 7
    have s8 := B7.cell (v := .bool false) 8 rfl
    have sf8 := B7.free 8
    have t0 := B2.cell (v := .int .i64 0) 0 rfl
    have tf0 := B2.free 0
    have t1 := B2.cell (v := .int .i64 0) 1 rfl
    have tf1 := B2.free 1
    have t2 := B2.cell (v := .int .i64 0) 2 rfl
    have tf2 := B2.free 2
    have t3 := B2.cell (v := .int .i64 0) 3 rfl
    have tf3 := B2.free 3
    have t4 := B2.cell (v := .int .i64 0) 4 rfl
    have tf4 := B2.free 4
    have t5 := B2.cell (v := .int .i64 0) 5 rfl
    have tf5 := B2.free 5
    have t6 := B2.cell (v := .int .i64 0) 6 rfl
    have tf6 := B2.free 6
    have t7 := B2.cell (v := .bool false) 7 rfl
    have tf7 := B2.free 7
    have t8 := B2.cell (v := .bool false) 8 rfl
    have tf8 := B2.free 8
    have lt7 := B7.lt
    have lt2 := B2.lt
    go_wp2
    refine post_name (fun V => Bk V (w.heap.size + 1) #[.int .i64 id, .int .i64 x.a, .int .i64 x.b, .int .i64 v.a, .int .i64 v.b, .int .i64 y.a, .int .i64 y.b, .bool r1, .bool false] 133 ∧ Below w.heap.size w V) (Bk.store9 B2 hgg (Nat.le_succ _)) ?_
    rintro V2 ⟨BV, hbV⟩
    clear s0 sf0 s1 sf1 s2 sf2 s3 sf3 s4 sf4 s5 sf5 s6 sf6 s7 sf7 s8 sf8 t0 tf0 t1 tf1 t2 tf2 t3 tf3 t4 tf4 t5 tf5 t6 tf6 t7 tf7 t8 tf8
    have v0 := BV.cell (v := .int .i64 id) 0 rfl
    have v1 := BV.cell (v := .int .i64 x.a) 1 rfl
    have v2 := BV.cell (v := .int .i64 x.b) 2 rfl
    have v3 := BV.cell (v := .int .i64 v.a) 3 rfl
    have v4 := BV.cell (v := .int .i64 v.b) 4 rfl
    have v5 := BV.cell (v := .int .i64 y.a) 5 rfl
    have v6 := BV.cell (v := .int .i64 y.b) 6 rfl
    have v7 := BV.cell (v := .bool r1) 7 rfl
    have v8 := BV.cell (v := .bool false) 8 rfl
    exact bodyPost_ret (v := .tuple #[.agg #[.int .i64 id, .int .i64 x.a, .int .i64 x.b, .int .i64 v.a, .int .i64 v.b, .int .i64 y.a, .int .i64 y.b, .bool r1, .bool false], .bool true]) (by simp [results, Tryz.results86, go_sem, v0, v1, v2, v3, v4, v5, v6, v7, v8]; try rfl) rfl ⟨rfl, hbV⟩

  · refine wp_region_low2 noPosts 41 (by kernel_rfl) (by kernel_rfl) ?_
    simp only [List.take, List.drop]
    iterate 40 (refine low2_step (fun K hK => ?_); go_simp; first | (refine hK _ ?_; clear hK K) | (apply Exists.intro; refine ⟨fun p => ?_, hK _ ?_⟩; clear hK K))
    refine low2_new (.cells #[.int .i64 0, .int .i64 0, .int .i64 0, .int .i64 0, .int .i64 0, .int .i64 0, .int .i64 0, .bool false, .bool false] 133) (by rfl) (fun w => by go_simp; try rfl) ?_
    intro g
    refine low2_nil ?_
    intro W3 hC
    obtain ⟨zg, B7⟩ : _ ∧ Bk W3 g #[.int .i64 0, .int .i64 0, .int .i64 0, .int .i64 0, .int .i64 0, .int .i64 0, .int .i64 0, .bool false, .bool false] 133 := hC.made 40 _ rfl
    have lu2 := B2.lt
    have n27 : w.heap.size + 1 ≠ g := Nat.ne_of_lt (Nat.lt_of_lt_of_le lu2 zg)
    have HC3 := Lib.hid (CompAt.below hC.1 _ _ _ HC.out.1)
    replace B1 := B1.below hC.1
    replace B2 := B2.below hC.1
    obtain ⟨hgg, hs3⟩ := below_cc (w := w) hC.1 hgg
    have hzg : w.heap.size ≤ g := Nat.le_trans hs zg
    clear hC k0 x1 x2' y1 y2' y3' y4' e1 e2 lt hs zg
    have s0 := B7.cell (v := .int .i64 0) 0 rfl
    have sf0 := B7.free 0
    have s1 := B7.cell (v := .int .i64 0) 1 rfl
    have sf1 := B7.free 1
    have s2 := B7.cell (v := .int .i64 0) 2 rfl
    have sf2 := B7.free 2
    have s3 := B7.cell (v := .int .i64 0) 3 rfl
    have sf3 := B7.free 3
    have s4 := B7.cell (v := .int .i64 0) 4 rfl
    have sf4 := B7.free 4
    have s5 := B7.cell (v := .int .i64 0) 5 rfl
    have sf5 := B7.free 5
    have s6 := B7.cell (v := .int .i64 0) 6 rfl
    have sf6 := B7.free 6
    have s7 := B7.cell (v := .bool false) 7 rfl
    have sf7 := B7.free 7
    have s8 := B7.cell (v := .bool false) 8 rfl
    have sf8 := B7.free 8
    have lt7 := B7.lt
    go_upto_region 5 with fail
    refine wp_name (fun V => Bk V g #[.int .i64 id, .int .i64 x.a, .int .i64 x.b, .int .i64 0, .int .i64 0, .int .i64 y.a, .int .i64 y.b, .bool r1, .bool true] 133 ∧ Below w.heap.size w V ∧ Bk V (w.heap.size + 1) #[.int .i64 0, .int .i64 0, .int .i64 0, .int .i64 0, .int .i64 0, .int .i64 0, .int .i64 0, .bool false, .bool false] 133 ∧ V.heap.size = W3.heap.size) ⟨(Bk.store9 B7 hgg hzg).1, (Bk.store9 B7 hgg hzg).2, (((((((((B2.far (p := ⟨g, 0, none⟩) n27 _).far (p := ⟨g, 1, none⟩) n27 _).far (p := ⟨g, 2, none⟩) n27 _).far (p := ⟨g, 3, none⟩) n27 _).far (p := ⟨g, 4, none⟩) n27 _).far (p := ⟨g, 5, none⟩) n27 _).far (p := ⟨g, 6, none⟩) n27 _).far (p := ⟨g, 7, none⟩) n27 _).far (p := ⟨g, 8, none⟩) n27 _), by simp [World.setCell]⟩ ?_
    clear s0 sf0 s1 sf1 s2 sf2 s3 sf3 s4 sf4 s5 sf5 s6 sf6 s7 sf7 s8 sf8 B7 B2 B1
    rintro V ⟨B7, hgg, B2, hVs⟩
    have s0 := B7.cell (v := .int .i64 id) 0 rfl
    have sf0 := B7.free 0
    have s1 := B7.cell (v := .int .i64 x.a) 1 rfl
    have sf1 := B7.free 1
    have s2 := B7.cell (v := .int .i64 x.b) 2 rfl
    have sf2 := B7.free 2
    have s3 := B7.cell (v := .int .i64 0) 3 rfl
    have sf3 := B7.free 3
    have s4 := B7.cell (v := .int .i64 0) 4 rfl
    have sf4 := B7.free 4
    have s5 := B7.cell (v := .int .i64 y.a) 5 rfl
    have sf5 := B7.free 5
    have s6 := B7.cell (v := .int .i64 y.b) 6 rfl
    have sf6 := B7.free 6
    have s7 := B7.cell (v := .bool r1) 7 rfl
    have sf7 := B7.free 7
    have s8 := B7.cell (v := .bool true) 8 rfl
    have sf8 := B7.free 8
    have t0 := B2.cell (v := .int .i64 0) 0 rfl
    have tf0 := B2.free 0
    have t1 := B2.cell (v := .int .i64 0) 1 rfl
    have tf1 := B2.free 1
    have t2 := B2.cell (v := .int .i64 0) 2 rfl
    have tf2 := B2.free 2
    have t3 := B2.cell (v := .int .i64 0) 3 rfl
    have tf3 := B2.free 3
    have t4 := B2.cell (v := .int .i64 0) 4 rfl
    have tf4 := B2.free 4
    have t5 := B2.cell (v := .int .i64 0) 5 rfl
    have tf5 := B2.free 5
    have t6 := B2.cell (v := .int .i64 0) 6 rfl
    have tf6 := B2.free 6
    have t7 := B2.cell (v := .bool false) 7 rfl
    have tf7 := B2.free 7
    have t8 := B2.cell (v := .bool false) 8 rfl
    have tf8 := B2.free 8
    have lt7 := B7.lt
    have lt2 := B2.lt
    go_wp2
    refine post_name (fun V => Bk V (w.heap.size + 1) #[.int .i64 id, .int .i64 x.a, .int .i64 x.b, .int .i64 0, .int .i64 0, .int .i64 y.a, .int .i64 y.b, .bool r1, .bool true] 133 ∧ Below w.heap.size w V) (Bk.store9 B2 hgg (Nat.le_succ _)) ?_
    rintro V2 ⟨BV, hbV⟩
    clear s0 sf0 s1 sf1 s2 sf2 s3 sf3 s4 sf4 s5 sf5 s6 sf6 s7 sf7 s8 sf8 t0 tf0 t1 tf1 t2 tf2 t3 tf3 t4 tf4 t5 tf5 t6 tf6 t7 tf7 t8 tf8
    have v0 := BV.cell (v := .int .i64 id) 0 rfl
    have v1 := BV.cell (v := .int .i64 x.a) 1 rfl
    have v2 := BV.cell (v := .int .i64 x.b) 2 rfl
    have v3 := BV.cell (v := .int .i64 0) 3 rfl
    have v4 := BV.cell (v := .int .i64 0) 4 rfl
    have v5 := BV.cell (v := .int .i64 y.a) 5 rfl
    have v6 := BV.cell (v := .int .i64 y.b) 6 rfl
    have v7 := BV.cell (v := .bool r1) 7 rfl
    have v8 := BV.cell (v := .bool true) 8 rfl
    exact bodyPost_ret (v := .tuple #[.agg #[.int .i64 id, .int .i64 x.a, .int .i64 x.b, .int .i64 0, .int .i64 0, .int .i64 y.a, .int .i64 y.b, .bool r1, .bool true], .bool true]) (by simp [results, Tryz.results86, go_sem, v0, v1, v2, v3, v4, v5, v6, v7, v8]; try rfl) rfl ⟨rfl, hbV⟩

set_option maxHeartbeats 8000000 in
theorem body_some (id : Int) (cs : List Cmp) (a : Option Addr) (n c : Nat) (x y : Cmp) (w : World) (h : CompsAt w (.slice a n c) cs) (hx : cs.find? (keyC 1) = some x) (hy : cs.find? (keyC 3) = some y) (hv : cs.find? (keyC 2) = none) :
    Calls Tryz.prog 86 #[.agg #[.int .i64 id, .slice a n c]] w fun e' w' => e' = .returned (bodyR (bodyM ⟨id, cs⟩)) ∧ Below w.heap.size w w' := by
  have hb0 : Below w.heap.size w ((w.alloc (.cells #[.int .i64 id, .slice a n c] 43)).alloc (.cells #[.int .i64 0, .int .i64 0, .int .i64 0, .int .i64 0, .int .i64 0, .int .i64 0, .int .i64 0, .bool false, .bool false] 133)) := ((Below.refl _ _).alloc (Nat.le_refl _) _).alloc (by simp) _
  have F1 := fun V (hV : Below ((w.alloc (.cells #[.int .i64 id, .slice a n c] 43)).alloc (.cells #[.int .i64 0, .int .i64 0, .int .i64 0, .int .i64 0, .int .i64 0, .int .i64 0, .int .i64 0, .bool false, .bool false] 133)).heap.size ((w.alloc (.cells #[.int .i64 id, .slice a n c] 43)).alloc (.cells #[.int .i64 0, .int .i64 0, .int .i64 0, .int .i64 0, .int .i64 0, .int .i64 0, .int .i64 0, .bool false, .bool false] 133)) V) (k : Int) => first_any id cs a n c k V ((h.below hb0).below hV)
  obtain ⟨p1, hp1⟩ : ∃ p, firstV a (firstOf (keyC 1) cs) = p := ⟨_, rfl⟩
  obtain ⟨p3, hp3⟩ : ∃ p, firstV a (firstOf (keyC 3) cs) = p := ⟨_, rfl⟩
  obtain ⟨p2, hp2⟩ : ∃ p, firstV a (firstOf (keyC 2) cs) = p := ⟨_, rfl⟩
  obtain ⟨b, off, i, x', ha, h1, -, -, h2, -, hcx⟩ : ∃ (b off i : Nat) (x' : Cmp), a = some ⟨b, off, none⟩ ∧ cs.find? (keyC 1) = some x' ∧ True ∧ True ∧ firstV a (firstOf (keyC 1) cs) = .pointer (some ⟨b, off + i * 5, none⟩) ∧ True ∧ CompAt w b (off + i * 5) x' := by
    rcases first_case w a n c cs 1 h with ⟨h1, h2⟩ | ⟨b, off, i, x, h0, h1, -, -, h2, -, hc⟩
    · rw [hx] at h1; cases h1
    · exact ⟨b, off, i, x, h0, h1, trivial, trivial, h2, trivial, hc⟩
  rw [hx] at h1
  obtain rfl := Option.some.inj h1
  obtain ⟨b', off', j, y', ha', h3, -, -, h4, -, hcy⟩ : ∃ (b off i : Nat) (x' : Cmp), a = some ⟨b, off, none⟩ ∧ cs.find? (keyC 3) = some x' ∧ True ∧ True ∧ firstV a (firstOf (keyC 3) cs) = .pointer (some ⟨b, off + i * 5, none⟩) ∧ True ∧ CompAt w b (off + i * 5) x' := by
    rcases first_case w a n c cs 3 h with ⟨h1, h2⟩ | ⟨b, off, i, x, h0, h1, -, -, h2, -, hc⟩
    · rw [hy] at h1; cases h1
    · exact ⟨b, off, i, x, h0, h1, trivial, trivial, h2, trivial, hc⟩
  rw [hy] at h3
  obtain rfl := Option.some.inj h3
  have h6 : firstV a (firstOf (keyC 2) cs) = .pointer none := by
    rcases first_case w a n c cs 2 h with ⟨h1, h2⟩ | ⟨b, off, i, x, h0, h1, -, -, h2, -, hc⟩
    · exact h2
    · rw [hv] at h1; cases h1
  have hbm : bodyM ⟨id, cs⟩ = some ⟨id, x.a, x.b, 0, 0, y.a, y.b, isOne y.c, true⟩ := by simp only [bodyM, hx, hy, hv]
  rw [hbm]
  obtain rfl : p1 = .pointer (some ⟨b, off + i * 5, none⟩) := by rw [← hp1, h2]
  obtain rfl : p3 = .pointer (some ⟨b', off' + j * 5, none⟩) := by rw [← hp3, h4]
  obtain rfl : p2 = .pointer none := by rw [← hp2, h6]
  obtain ⟨q1, hq1⟩ : ∃ q, off + i * 5 = q := ⟨_, rfl⟩
  obtain ⟨q3, hq3⟩ : ∃ q, off' + j * 5 = q := ⟨_, rfl⟩
  rw [hq1] at hp1 hcx
  rw [hq3] at hp3 hcy
  have G1 := Lib.hid (fun V hV => by have := F1 V hV 1; rw [hp1] at this; exact this)
  have G3 := Lib.hid (fun V hV => by have := F1 V hV 3; rw [hp3] at this; exact this)
  have G2 := Lib.hid (fun V hV => by have := F1 V hV 2; rw [hp2] at this; exact this)
  have HC := Lib.hid (And.intro hcx hcy)

  clear F1 hp1 hp2 hp3 h hb0 h1 h2 h3 h4 h6 hx hy hv ha ha' hcx hcy hbm hq1 hq3
  clear off off' i j
  obtain ⟨r1, hr1⟩ : ∃ r, isOne y.c = r := ⟨_, rfl⟩
  have e1 : ((y.c : Int) == 1) = r1 := by rw [← hr1]; unfold isOne; rfl
  rw [hr1]
  clear hr1
  obtain ⟨r2, hr2⟩ : ∃ r, isOne y.d = r := ⟨_, rfl⟩
  have e2 : ((y.d : Int) == 1) = r2 := by rw [← hr2]; unfold isOne; rfl
  clear hr2
  have HE := Lib.hid (And.intro e1 e2)
  clear e1 e2
  go_enter Tryz.func86, Tryz.ntmps86
  go_wp2
  have hB1 : Bk ((w.alloc (.cells #[.int .i64 id, .slice a n c] 43)).alloc (.cells #[.int .i64 0, .int .i64 0, .int .i64 0, .int .i64 0, .int .i64 0, .int .i64 0, .int .i64 0, .bool false, .bool false] 133)) w.heap.size #[.int .i64 id, .slice a n c] 43 := (Bk.made _ _ _).alloc _
  have k0 := cell_regrown (hB1.cell (v := .int .i64 id) 0 rfl)
  have k1 := cell_regrown (hB1.cell (v := .slice a n c) 1 rfl)
  refine wp_region_low2 noPosts 8 (by kernel_rfl) (by kernel_rfl) ?_
  simp only [List.take, List.drop]
  iterate 1 (refine low2_step (fun K hK => ?_); go_simp; first | (refine hK _ ?_; clear hK K) | (apply Exists.intro; refine ⟨fun p => ?_, hK _ ?_⟩; clear hK K))
  refine low2_reads 90 #[.agg #[.int .i64 id, .slice a n c], .int .u8 1] _ (by rfl) (fun w => by go_simp; try rfl) rfl (by kernel_rfl) (fun V1 hV hG => G1.out V1 hV) ?_
  iterate 1 (refine low2_step (fun K hK => ?_); go_simp; first | (refine hK _ ?_; clear hK K) | (apply Exists.intro; refine ⟨fun p => ?_, hK _ ?_⟩; clear hK K))
  refine low2_reads 90 #[.agg #[.int .i64 id, .slice a n c], .int .u8 3] _ (by rfl) (fun w => by go_simp; try rfl) rfl (by kernel_rfl) (fun V1 hV hG => G3.out V1 hV) ?_
  iterate 1 (refine low2_step (fun K hK => ?_); go_simp; first | (refine hK _ ?_; clear hK K) | (apply Exists.intro; refine ⟨fun p => ?_, hK _ ?_⟩; clear hK K))
  refine low2_reads 90 #[.agg #[.int .i64 id, .slice a n c], .int .u8 2] _ (by rfl) (fun w => by go_simp; try rfl) rfl (by kernel_rfl) (fun V1 hV hG => G2.out V1 hV) ?_
  iterate 2 (refine low2_step (fun K hK => ?_); go_simp; first | (refine hK _ ?_; clear hK K) | (apply Exists.intro; refine ⟨fun p => ?_, hK _ ?_⟩; clear hK K))
  refine low2_nil ?_
  intro W2 hC
  have B1 := hB1.below hC.1
  replace HC := Lib.hid (And.intro (CompAt.below (below_cc (w := w) hC.1 (by go_grown)).1 _ _ _ HC.out.1) (CompAt.below (below_cc (w := w) hC.1 (by go_grown)).1 _ _ _ HC.out.2))
  have B2 : Bk W2 (w.heap.size + 1) #[.int .i64 0, .int .i64 0, .int .i64 0, .int .i64 0, .int .i64 0, .int .i64 0, .int .i64 0, .bool false, .bool false] 133 := Bk.below (Bk.at_ (by simp)) hC.1
  obtain ⟨hgg, hs⟩ := below_cc (w := w) hC.1 (by go_grown)
  clear hC k0 k1 hB1
  have lt := B2.lt
  go_wp2
  obtain ⟨⟨⟨x0, x1, x2, x3, x4⟩, -, -⟩, ⟨y0, y1, y2, y3, y4⟩, -, -⟩ := HC.out
  have x2' : W2.cell? ⟨b, q1 + 1 + 1, none⟩ = some (.int .i64 x.b) := x2
  have y2' : W2.cell? ⟨b', q3 + 1 + 1, none⟩ = some (.int .i64 y.b) := y2
  have y3' : W2.cell? ⟨b', q3 + 1 + 2, none⟩ = some (.int .i64 y.c) := y3
  have y4' : W2.cell? ⟨b', q3 + 1 + 3, none⟩ = some (.int .i64 y.d) := y4
  clear x0 x2 x3 x4 y0 y2 y3 y4
  have lb1 : b < W2.heap.size := World.block_lt_of_cell? W2 _ x1
  have lb2 : b' < W2.heap.size := World.block_lt_of_cell? W2 _ y1
  have k0 := cell_regrown (B1.cell (v := .int .i64 id) 0 rfl)
  have e1 := HE.out.1
  have e2 := HE.out.2
  replace x1 := cell_regrown x1
  replace x2' := cell_regrown x2'
  replace y1 := cell_regrown y1
  replace y2' := cell_regrown y2'
  replace y3' := cell_regrown y3'
  replace y4' := cell_regrown y4'
  clear lb1 lb2
  cases r2
  · refine wp_region_low2 noPosts 41 (by kernel_rfl) (by kernel_rfl) ?_
    simp only [List.take, List.drop]
    iterate 40 (refine low2_step (fun K hK => ?_); go_simp; first | (refine hK _ ?_; clear hK K) | (apply Exists.intro; refine ⟨fun p => ?_, hK _ ?_⟩; clear hK K))
    refine low2_new (.cells #[.int .i64 0, .int .i64 0, .int .i64 0, .int .i64 0, .int .i64 0, .int .i64 0, .int .i64 0, .bool false, .bool false] 133) (by rfl) (fun w => by go_simp; try rfl) ?_
    intro g
    refine low2_nil ?_
    intro W3 hC
    obtain ⟨zg, B7⟩ : _ ∧ Bk W3 g #[.int .i64 0, .int .i64 0, .int .i64 0, .int .i64 0, .int .i64 0, .int .i64 0, .int .i64 0, .bool false, .bool false] 133 := hC.made 40 _ rfl
    have lu2 := B2.lt
    have n27 : w.heap.size + 1 ≠ g := Nat.ne_of_lt (Nat.lt_of_lt_of_le lu2 zg)
    have HC3 := Lib.hid (CompAt.below hC.1 _ _ _ HC.out.1)
    replace B1 := B1.below hC.1
    replace B2 := B2.below hC.1
    obtain ⟨hgg, hs3⟩ := below_cc (w := w) hC.1 hgg
    have hzg : w.heap.size ≤ g := Nat.le_trans hs zg
    clear hC k0 x1 x2' y1 y2' y3' y4' e1 e2 lt hs zg
    have s0 := B7.cell (v := .int .i64 0) 0 rfl
    have sf0 := B7.free 0
    have s1 := B7.cell (v := .int .i64 0) 1 rfl
    have sf1 := B7.free 1
    have s2 := B7.cell (v := .int .i64 0) 2 rfl
    have sf2 := B7.free 2
    have s3 := B7.cell (v := .int .i64 0) 3 rfl
    have sf3 := B7.free 3
    have s4 := B7.cell (v := .int .i64 0) 4 rfl
    have sf4 := B7.free 4
    have s5 := B7.cell (v := .int .i64 0) 5 rfl
    have sf5 := B7.free 5
    have s6 := B7.cell (v := .int .i64 0) 6 rfl
    have sf6 := B7.free 6
    have s7 := B7.cell (v := .bool false) 7 rfl
    have sf7 := B7.free 7
    have s8 := B7.cell (v := .bool false) 8 rfl
    have sf8 := B7.free 8
    have lt7 := B7.lt
    go_upto_region 5 with fail
    refine wp_name (fun V => Bk V g #[.int .i64 id, .int .i64 x.a, .int .i64 x.b, .int .i64 0, .int .i64 0, .int .i64 y.a, .int .i64 y.b, .bool r1, .bool true] 133 ∧ Below w.heap.size w V ∧ Bk V (w.heap.size + 1) #[.int .i64 0, .int .i64 0, .int .i64 0, .int .i64 0, .int .i64 0, .int .i64 0, .int .i64 0, .bool false, .bool false] 133 ∧ V.heap.size = W3.heap.size) ⟨(Bk.store9 B7 hgg hzg).1, (Bk.store9 B7 hgg hzg).2, (((((((((B2.far (p := ⟨g, 0, none⟩) n27 _).far (p := ⟨g, 1, none⟩) n27 _).far (p := ⟨g, 2, none⟩) n27 _).far (p := ⟨g, 3, none⟩) n27 _).far (p := ⟨g, 4, none⟩) n27 _).far (p := ⟨g, 5, none⟩) n27 _).far (p := ⟨g, 6, none⟩) n27 _).far (p := ⟨g, 7, none⟩) n27 _).far (p := ⟨g, 8, none⟩) n27 _), by simp [World.setCell]⟩ ?_
    clear s0 sf0 s1 sf1 s2 sf2 s3 sf3 s4 sf4 s5 sf5 s6 sf6 s7 sf7 s8 sf8 B7 B2 B1
    rintro V ⟨B7, hgg, B2, hVs⟩
    have s0 := B7.cell (v := .int .i64 id) 0 rfl
    have sf0 := B7.free 0
    have s1 := B7.cell (v := .int .i64 x.a) 1 rfl
    have sf1 := B7.free 1
    have s2 := B7.cell (v := .int .i64 x.b) 2 rfl
    have sf2 := B7.free 2
    have s3 := B7.cell (v := .int .i64 0) 3 rfl
    have sf3 := B7.free 3
    have s4 := B7.cell (v := .int .i64 0) 4 rfl
    have sf4 := B7.free 4
    have s5 := B7.cell (v := .int .i64 y.a) 5 rfl
    have sf5 := B7.free 5
    have s6 := B7.cell (v := .int .i64 y.b) 6 rfl
    have sf6 := B7.free 6
    have s7 := B7.cell (v := .bool r1) 7 rfl
    have sf7 := B7.free 7
    have s8 := B7.cell (v := .bool true) 8 rfl
    have sf8 := B7.free 8
    have t0 := B2.cell (v := .int .i64 0) 0 rfl
    have tf0 := B2.free 0
    have t1 := B2.cell (v := .int .i64 0) 1 rfl
    have tf1 := B2.free 1
    have t2 := B2.cell (v := .int .i64 0) 2 rfl
    have tf2 := B2.free 2
    have t3 := B2.cell (v := .int .i64 0) 3 rfl
    have tf3 := B2.free 3
    have t4 := B2.cell (v := .int .i64 0) 4 rfl
    have tf4 := B2.free 4
    have t5 := B2.cell (v := .int .i64 0) 5 rfl
    have tf5 := B2.free 5
    have t6 := B2.cell (v := .int .i64 0) 6 rfl
    have tf6 := B2.free 6
    have t7 := B2.cell (v := .bool false) 7 rfl
    have tf7 := B2.free 7
    have t8 := B2.cell (v := .bool false) 8 rfl
    have tf8 := B2.free 8
    have lt7 := B7.lt
    have lt2 := B2.lt
    go_wp2
    refine post_name (fun V => Bk V (w.heap.size + 1) #[.int .i64 id, .int .i64 x.a, .int .i64 x.b, .int .i64 0, .int .i64 0, .int .i64 y.a, .int .i64 y.b, .bool r1, .bool true] 133 ∧ Below w.heap.size w V) (Bk.store9 B2 hgg (Nat.le_succ _)) ?_
    rintro V2 ⟨BV, hbV⟩
    clear s0 sf0 s1 sf1 s2 sf2 s3 sf3 s4 sf4 s5 sf5 s6 sf6 s7 sf7 s8 sf8 t0 tf0 t1 tf1 t2 tf2 t3 tf3 t4 tf4 t5 tf5 t6 tf6 t7 tf7 t8 tf8
    have v0 := BV.cell (v := .int .i64 id) 0 rfl
    have v1 := BV.cell (v := .int .i64 x.a) 1 rfl
    have v2 := BV.cell (v := .int .i64 x.b) 2 rfl
    have v3 := BV.cell (v := .int .i64 0) 3 rfl
    have v4 := BV.cell (v := .int .i64 0) 4 rfl
    have v5 := BV.cell (v := .int .i64 y.a) 5 rfl
    have v6 := BV.cell (v := .int .i64 y.b) 6 rfl
    have v7 := BV.cell (v := .bool r1) 7 rfl
    have v8 := BV.cell (v := .bool true) 8 rfl
    exact bodyPost_ret (v := .tuple #[.agg #[.int .i64 id, .int .i64 x.a, .int .i64 x.b, .int .i64 0, .int .i64 0, .int .i64 y.a, .int .i64 y.b, .bool r1, .bool true], .bool true]) (by simp [results, Tryz.results86, go_sem, v0, v1, v2, v3, v4, v5, v6, v7, v8]; try rfl) rfl ⟨rfl, hbV⟩

  · refine wp_region_low2 noPosts 41 (by kernel_rfl) (by kernel_rfl) ?_
    simp only [List.take, List.drop]
    iterate 40 (refine low2_step (fun K hK => ?_); go_simp; first | (refine hK _ ?_; clear hK K) | (apply Exists.intro; refine ⟨fun p => ?_, hK _ ?_⟩; clear hK K))
    refine low2_new (.cells #[.int .i64 0, .int .i64 0, .int .i64 0, .int .i64 0, .int .i64 0, .int .i64 0, .int .i64 0, .bool false, .bool false] 133) (by rfl) (fun w => by go_simp; try rfl) ?_
    intro g
    refine low2_nil ?_
    intro W3 hC
    obtain ⟨zg, B7⟩ : _ ∧ Bk W3 g #[.int .i64 0, .int .i64 0, .int .i64 0, .int .i64 0, .int .i64 0, .int .i64 0, .int .i64 0, .bool false, .bool false] 133 := hC.made 40 _ rfl
    have lu2 := B2.lt
    have n27 : w.heap.size + 1 ≠ g := Nat.ne_of_lt (Nat.lt_of_lt_of_le lu2 zg)
    have HC3 := Lib.hid (CompAt.below hC.1 _ _ _ HC.out.1)
    replace B1 := B1.below hC.1
    replace B2 := B2.below hC.1
    obtain ⟨hgg, hs3⟩ := below_cc (w := w) hC.1 hgg
    have hzg : w.heap.size ≤ g := Nat.le_trans hs zg
    clear hC k0 x1 x2' y1 y2' y3' y4' e1 e2 lt hs zg
    have s0 := B7.cell (v := .int .i64 0) 0 rfl
    have sf0 := B7.free 0
    have s1 := B7.cell (v := .int .i64 0) 1 rfl
    have sf1 := B7.free 1
    have s2 := B7.cell (v := .int .i64 0) 2 rfl
    have sf2 := B7.free 2
    have s3 := B7.cell (v := .int .i64 0) 3 rfl
    have sf3 := B7.free 3
    have s4 := B7.cell (v := .int .i64 0) 4 rfl
    have sf4 := B7.free 4
    have s5 := B7.cell (v := .int .i64 0) 5 rfl
    have sf5 := B7.free 5
    have s6 := B7.cell (v := .int .i64 0) 6 rfl
    have sf6 := B7.free 6
    have s7 := B7.cell (v := .bool false) 7 rfl
    have sf7 := B7.free 7
    have s8 := B7.cell (v := .bool false) 8 rfl
    have sf8 := B7.free 8
    have lt7 := B7.lt
    go_upto_region 5 with fail
    refine wp_name (fun V => Bk V g #[.int .i64 id, .int .i64 x.a, .int .i64 x.b, .int .i64 0, .int .i64 0, .int .i64 y.a, .int .i64 y.b, .bool r1, .bool true] 133 ∧ Below w.heap.size w V ∧ Bk V (w.heap.size + 1) #[.int .i64 0, .int .i64 0, .int .i64 0, .int .i64 0, .int .i64 0, .int .i64 0, .int .i64 0, .bool false, .bool false] 133 ∧ V.heap.size = W3.heap.size) ⟨(Bk.store9 B7 hgg hzg).1, (Bk.store9 B7 hgg hzg).2, (((((((((B2.far (p := ⟨g, 0, none⟩) n27 _).far (p := ⟨g, 1, none⟩) n27 _).far (p := ⟨g, 2, none⟩) n27 _).far (p := ⟨g, 3, none⟩) n27 _).far (p := ⟨g, 4, none⟩) n27 _).far (p := ⟨g, 5, none⟩) n27 _).far (p := ⟨g, 6, none⟩) n27 _).far (p := ⟨g, 7, none⟩) n27 _).far (p := ⟨g, 8, none⟩) n27 _), by simp [World.setCell]⟩ ?_
    clear s0 sf0 s1 sf1 s2 sf2 s3 sf3 s4 sf4 s5 sf5 s6 sf6 s7 sf7 s8 sf8 B7 B2 B1
    rintro V ⟨B7, hgg, B2, hVs⟩
    have s0 := B7.cell (v := .int .i64 id) 0 rfl
    have sf0 := B7.free 0
    have s1 := B7.cell (v := .int .i64 x.a) 1 rfl
    have sf1 := B7.free 1
    have s2 := B7.cell (v := .int .i64 x.b) 2 rfl
    have sf2 := B7.free 2
    have s3 := B7.cell (v := .int .i64 0) 3 rfl
    have sf3 := B7.free 3
    have s4 := B7.cell (v := .int .i64 0) 4 rfl
    have sf4 := B7.free 4
    have s5 := B7.cell (v := .int .i64 y.a) 5 rfl
    have sf5 := B7.free 5
    have s6 := B7.cell (v := .int .i64 y.b) 6 rfl
    have sf6 := B7.free 6
    have s7 := B7.cell (v := .bool r1) 7 rfl
    have sf7 := B7.free 7
    have s8 := B7.cell (v := .bool true) 8 rfl
    have sf8 := B7.free 8
    have t0 := B2.cell (v := .int .i64 0) 0 rfl
    have tf0 := B2.free 0
    have t1 := B2.cell (v := .int .i64 0) 1 rfl
    have tf1 := B2.free 1
    have t2 := B2.cell (v := .int .i64 0) 2 rfl
    have tf2 := B2.free 2
    have t3 := B2.cell (v := .int .i64 0) 3 rfl
    have tf3 := B2.free 3
    have t4 := B2.cell (v := .int .i64 0) 4 rfl
    have tf4 := B2.free 4
    have t5 := B2.cell (v := .int .i64 0) 5 rfl
    have tf5 := B2.free 5
    have t6 := B2.cell (v := .int .i64 0) 6 rfl
    have tf6 := B2.free 6
    have t7 := B2.cell (v := .bool false) 7 rfl
    have tf7 := B2.free 7
    have t8 := B2.cell (v := .bool false) 8 rfl
    have tf8 := B2.free 8
    have lt7 := B7.lt
    have lt2 := B2.lt
    go_wp2
    refine post_name (fun V => Bk V (w.heap.size + 1) #[.int .i64 id, .int .i64 x.a, .int .i64 x.b, .int .i64 0, .int .i64 0, .int .i64 y.a, .int .i64 y.b, .bool r1, .bool true] 133 ∧ Below w.heap.size w V) (Bk.store9 B2 hgg (Nat.le_succ _)) ?_
    rintro V2 ⟨BV, hbV⟩
    clear s0 sf0 s1 sf1 s2 sf2 s3 sf3 s4 sf4 s5 sf5 s6 sf6 s7 sf7 s8 sf8 t0 tf0 t1 tf1 t2 tf2 t3 tf3 t4 tf4 t5 tf5 t6 tf6 t7 tf7 t8 tf8
    have v0 := BV.cell (v := .int .i64 id) 0 rfl
    have v1 := BV.cell (v := .int .i64 x.a) 1 rfl
    have v2 := BV.cell (v := .int .i64 x.b) 2 rfl
    have v3 := BV.cell (v := .int .i64 0) 3 rfl
    have v4 := BV.cell (v := .int .i64 0) 4 rfl
    have v5 := BV.cell (v := .int .i64 y.a) 5 rfl
    have v6 := BV.cell (v := .int .i64 y.b) 6 rfl
    have v7 := BV.cell (v := .bool r1) 7 rfl
    have v8 := BV.cell (v := .bool true) 8 rfl
    exact bodyPost_ret (v := .tuple #[.agg #[.int .i64 id, .int .i64 x.a, .int .i64 x.b, .int .i64 0, .int .i64 0, .int .i64 y.a, .int .i64 y.b, .bool r1, .bool true], .bool true]) (by simp [results, Tryz.results86, go_sem, v0, v1, v2, v3, v4, v5, v6, v7, v8]; try rfl) rfl ⟨rfl, hbV⟩

end Go.Proofs.YtlcjkomfjgddeaaGreatDoor
