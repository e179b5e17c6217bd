/- The step of a scene as plain data; stores into its memory. -/
import Derived.Test.YtlcjkomfjgddeaaGreatDoorM19
set_option linter.unusedVariables false
set_option linter.unusedSimpArgs false
namespace Go.Proofs.YtlcjkomfjgddeaaGreatDoor
open Go Go.RowKit Go.Sort

def signI (v : Int) : Int := if v < 0 then -1 else 1
/-- a body moved along an axis, and its speed behind that -/
def moveAx (l : List Bdy) (b : Bdy) (ax v : Int) : Bdy × Int :=
  (shI b ax (signI v * (runB b ax (signI v) (max v (-v)) l).1), if (runB b ax (signI v) (max v (-v)) l).1 < max v (-v) then 0 else v)
def moveB (l : List Bdy) (k : Nat) (b : Bdy) (gx gy : Int) : List Bdy :=
  if b.fixed = true then l else
  (l.set k (moveAx l b 0 (clampV (b.vx + gx))).1).set k
    { (moveAx (l.set k (moveAx l b 0 (clampV (b.vx + gx))).1) (moveAx l b 0 (clampV (b.vx + gx))).1 1 (clampV (b.vy + gy))).1 with
      vx := (moveAx l b 0 (clampV (b.vx + gx))).2, vy := (moveAx (l.set k (moveAx l b 0 (clampV (b.vx + gx))).1) (moveAx l b 0 (clampV (b.vx + gx))).1 1 (clampV (b.vy + gy))).2 }
/-- the bodies behind the moves of the first k -/
def stepB (gx gy : Int) (l : List Bdy) : Nat → List Bdy
  | 0 => l
  | k + 1 => match (stepB gx gy l k)[k]? with
    | some b => moveB (stepB gx gy l k) k b gx gy
    | none => stepB gx gy l k
theorem moveAx_ok (l : List Bdy) (b : Bdy) (ax v : Int) (hax : ax = 0 ∨ ax = 1) (hb : okBdy b) (hf : b.fixed = false) (hv : -4096 ≤ v ∧ v ≤ 4096) :
    okBdy (moveAx l b ax v).1 ∧ (moveAx l b ax v).1.fixed = false ∧ (moveAx l b ax v).1.id = b.id ∧ -4096 ≤ (moveAx l b ax v).2 ∧ (moveAx l b ax v).2 ≤ 4096 := by
  obtain ⟨hid, ⟨hx, hy⟩, hv0, hwh, hr⟩ := hb
  have hsg : signI v = 1 ∨ signI v = -1 := by unfold signI; split <;> simp
  have hal : -1048576 ≤ along b ax ∧ along b ax ≤ 1048576 := by
    unfold along; rcases hax with rfl | rfl
    · rw [if_pos rfl]; exact hx
    · rw [if_neg (by decide)]; exact hy
  have hbd := runB_bd b ax (signI v) (max v (-v)) l (by omega) (by rcases hsg with h | h <;> rw [h] <;> omega)
  obtain ⟨f, hf0⟩ : ∃ f, (runB b ax (signI v) (max v (-v)) l).1 = f := ⟨_, rfl⟩
  unfold moveAx
  rw [hf0] at hbd ⊢
  obtain ⟨f0, f1, f2⟩ := hbd
  have hnew : -1048576 ≤ along b ax + signI v * f ∧ along b ax + signI v * f ≤ 1048576 := by
    rcases hsg with h | h <;> rw [h] at f2 ⊢ <;> omega
  refine ⟨?_, ?_, ?_, ?_⟩
  · unfold shI
    unfold along at hnew
    rcases hax with rfl | rfl
    · rw [if_pos rfl] at hnew ⊢; exact ⟨hid, ⟨hnew, hy⟩, hv0, hwh, hr⟩
    · rw [if_neg (by decide)] at hnew ⊢; exact ⟨hid, ⟨hx, hnew⟩, hv0, hwh, hr⟩
  · unfold shI; split <;> exact hf
  · unfold shI; split <;> rfl
  · simp only; split <;> omega
theorem okVel {b : Bdy} {vx vy : Int} (hb : okBdy b) (hf : b.fixed = false) (h1 : -4096 ≤ vx ∧ vx ≤ 4096) (h2 : -4096 ≤ vy ∧ vy ≤ 4096) : okBdy { b with vx := vx, vy := vy } := by
  obtain ⟨hid, hxy, hv0, hwh, hr, hfx⟩ := hb
  exact ⟨hid, hxy, ⟨h1, h2⟩, hwh, hr, fun h => absurd (hf.symm.trans h) (by decide)⟩
theorem moveB_ok {l : List Bdy} {k : Nat} {b : Bdy} {gx gy : Int} (hl : ∀ x ∈ l, okBdy x) (hk : l[k]? = some b) : (∀ x ∈ moveB l k b gx gy, okBdy x) ∧ (moveB l k b gx gy).length = l.length ∧ (moveB l k b gx gy).map Bdy.id = l.map Bdy.id := by
  unfold moveB
  split
  · exact ⟨hl, rfl, rfl⟩
  · rename_i hf
    have hf : b.fixed = false := by simpa using hf
    have hb := hl b (List.mem_iff_getElem?.2 ⟨k, hk⟩)
    have hlt := (List.getElem?_eq_some_iff.1 hk).1
    have a1 := moveAx_ok l b 0 (clampV (b.vx + gx)) (.inl rfl) hb hf (clampV_bd _)
    obtain ⟨r0, hr0⟩ : ∃ r, moveAx l b 0 (clampV (b.vx + gx)) = r := ⟨_, rfl⟩
    rw [hr0] at a1 ⊢
    have a2 := moveAx_ok (l.set k r0.1) r0.1 1 (clampV (b.vy + gy)) (.inr rfl) a1.1 a1.2.1 (clampV_bd _)
    obtain ⟨r1, hr1⟩ : ∃ r, moveAx (l.set k r0.1) r0.1 1 (clampV (b.vy + gy)) = r := ⟨_, rfl⟩
    rw [hr1] at a2 ⊢
    refine ⟨fun x hx => ?_, by simp, ?_⟩
    · rcases List.mem_or_eq_of_mem_set hx with h | rfl
      · rcases List.mem_or_eq_of_mem_set h with h | rfl
        · exact hl x h
        · exact a1.1
      · exact okVel a2.1 a2.2.1 a1.2.2.2 a2.2.2.2
    · rw [List.set_set, List.map_set]
      have h1 : (Bdy.id { r1.1 with vx := r0.2, vy := r1.2 }) = b.id := a2.2.2.1.trans a1.2.2.1
      rw [h1]
      apply List.ext_getElem?
      intro i
      rw [List.getElem?_set]
      split
      · rename_i h; subst h
        simp [hk, hlt]
        have h2 := (List.getElem?_eq_some_iff.1 hk).2
        rw [h2]
      · rfl
theorem stepB_ok {l : List Bdy} {gx gy : Int} (hl : ∀ x ∈ l, okBdy x) : ∀ k, (∀ x ∈ stepB gx gy l k, okBdy x) ∧ (stepB gx gy l k).length = l.length ∧ (stepB gx gy l k).map Bdy.id = l.map Bdy.id
  | 0 => ⟨hl, rfl, rfl⟩
  | k + 1 => by
    have h := stepB_ok hl k (gx := gx) (gy := gy)
    unfold stepB
    split
    · rename_i b hb
      have h2 := moveB_ok (gx := gx) (gy := gy) h.1 hb
      exact ⟨h2.1, h2.2.1.trans h.2.1, h2.2.2.trans h.2.2⟩
    · exact h
theorem Bk.store15 {B g : Nat} {t : TypeId} {w1 w : World} {x0 x1 x2 x3 x4 x5 x6 x7 x8 x9 x10 x11 x12 x13 x14 y0 y1 y2 y3 y4 y5 y6 y7 y8 y9 y10 y11 y12 y13 y14 : Value} (h : Bk w g #[x0, x1, x2, x3, x4, x5, x6, x7, x8, x9, x10, x11, x12, x13, x14] t) (hB : Below B w1 w) (hg : B ≤ g) :
    Bk (((((((((((((((w.setCell ⟨g, 0, none⟩ y0).setCell ⟨g, 1, none⟩ y1).setCell ⟨g, 2, none⟩ y2).setCell ⟨g, 3, none⟩ y3).setCell ⟨g, 4, none⟩ y4).setCell ⟨g, 5, none⟩ y5).setCell ⟨g, 6, none⟩ y6).setCell ⟨g, 7, none⟩ y7).setCell ⟨g, 8, none⟩ y8).setCell ⟨g, 9, none⟩ y9).setCell ⟨g, 10, none⟩ y10).setCell ⟨g, 11, none⟩ y11).setCell ⟨g, 12, none⟩ y12).setCell ⟨g, 13, none⟩ y13).setCell ⟨g, 14, none⟩ y14) g #[y0, y1, y2, y3, y4, y5, y6, y7, y8, y9, y10, y11, y12, y13, y14] t ∧ Below B w1 (((((((((((((((w.setCell ⟨g, 0, none⟩ y0).setCell ⟨g, 1, none⟩ y1).setCell ⟨g, 2, none⟩ y2).setCell ⟨g, 3, none⟩ y3).setCell ⟨g, 4, none⟩ y4).setCell ⟨g, 5, none⟩ y5).setCell ⟨g, 6, none⟩ y6).setCell ⟨g, 7, none⟩ y7).setCell ⟨g, 8, none⟩ y8).setCell ⟨g, 9, none⟩ y9).setCell ⟨g, 10, none⟩ y10).setCell ⟨g, 11, none⟩ y11).setCell ⟨g, 12, none⟩ y12).setCell ⟨g, 13, none⟩ y13).setCell ⟨g, 14, none⟩ y14) := by
  have P1 : Bk (w.setCell ⟨g, 0, none⟩ y0) g #[y0, x1, x2, x3, x4, x5, x6, x7, x8, x9, x10, x11, x12, x13, x14] t := h.put 0 y0
  have G1 := hB.setCell (p := ⟨g, 0, none⟩) hg y0
  have P2 : Bk ((w.setCell ⟨g, 0, none⟩ y0).setCell ⟨g, 1, none⟩ y1) g #[y0, y1, x2, x3, x4, x5, x6, x7, x8, x9, x10, x11, x12, x13, x14] t := P1.put 1 y1
  have G2 := G1.setCell (p := ⟨g, 1, none⟩) hg y1
  have P3 : Bk (((w.setCell ⟨g, 0, none⟩ y0).setCell ⟨g, 1, none⟩ y1).setCell ⟨g, 2, none⟩ y2) g #[y0, y1, y2, x3, x4, x5, x6, x7, x8, x9, x10, x11, x12, x13, x14] t := P2.put 2 y2
  have G3 := G2.setCell (p := ⟨g, 2, none⟩) hg y2
  have P4 : Bk ((((w.setCell ⟨g, 0, none⟩ y0).setCell ⟨g, 1, none⟩ y1).setCell ⟨g, 2, none⟩ y2).setCell ⟨g, 3, none⟩ y3) g #[y0, y1, y2, y3, x4, x5, x6, x7, x8, x9, x10, x11, x12, x13, x14] t := P3.put 3 y3
  have G4 := G3.setCell (p := ⟨g, 3, none⟩) hg y3
  have P5 : Bk (((((w.setCell ⟨g, 0, none⟩ y0).setCell ⟨g, 1, none⟩ y1).setCell ⟨g, 2, none⟩ y2).setCell ⟨g, 3, none⟩ y3).setCell ⟨g, 4, none⟩ y4) g #[y0, y1, y2, y3, y4, x5, x6, x7, x8, x9, x10, x11, x12, x13, x14] t := P4.put 4 y4
  have G5 := G4.setCell (p := ⟨g, 4, none⟩) hg y4
  have P6 : Bk ((((((w.setCell ⟨g, 0, none⟩ y0).setCell ⟨g, 1, none⟩ y1).setCell ⟨g, 2, none⟩ y2).setCell ⟨g, 3, none⟩ y3).setCell ⟨g, 4, none⟩ y4).setCell ⟨g, 5, none⟩ y5) g #[y0, y1, y2, y3, y4, y5, x6, x7, x8, x9, x10, x11, x12, x13, x14] t := P5.put 5 y5
  have G6 := G5.setCell (p := ⟨g, 5, none⟩) hg y5
  have P7 : Bk (((((((w.setCell ⟨g, 0, none⟩ y0).setCell ⟨g, 1, none⟩ y1).setCell ⟨g, 2, none⟩ y2).setCell ⟨g, 3, none⟩ y3).setCell ⟨g, 4, none⟩ y4).setCell ⟨g, 5, none⟩ y5).setCell ⟨g, 6, none⟩ y6) g #[y0, y1, y2, y3, y4, y5, y6, x7, x8, x9, x10, x11, x12, x13, x14] t := P6.put 6 y6
  have G7 := G6.setCell (p := ⟨g, 6, none⟩) hg y6
  have P8 : Bk ((((((((w.setCell ⟨g, 0, none⟩ y0).setCell ⟨g, 1, none⟩ y1).setCell ⟨g, 2, none⟩ y2).setCell ⟨g, 3, none⟩ y3).setCell ⟨g, 4, none⟩ y4).setCell ⟨g, 5, none⟩ y5).setCell ⟨g, 6, none⟩ y6).setCell ⟨g, 7, none⟩ y7) g #[y0, y1, y2, y3, y4, y5, y6, y7, x8, x9, x10, x11, x12, x13, x14] t := P7.put 7 y7
  have G8 := G7.setCell (p := ⟨g, 7, none⟩) hg y7
  have P9 : Bk (((((((((w.setCell ⟨g, 0, none⟩ y0).setCell ⟨g, 1, none⟩ y1).setCell ⟨g, 2, none⟩ y2).setCell ⟨g, 3, none⟩ y3).setCell ⟨g, 4, none⟩ y4).setCell ⟨g, 5, none⟩ y5).setCell ⟨g, 6, none⟩ y6).setCell ⟨g, 7, none⟩ y7).setCell ⟨g, 8, none⟩ y8) g #[y0, y1, y2, y3, y4, y5, y6, y7, y8, x9, x10, x11, x12, x13, x14] t := P8.put 8 y8
  have G9 := G8.setCell (p := ⟨g, 8, none⟩) hg y8
  have P10 : Bk ((((((((((w.setCell ⟨g, 0, none⟩ y0).setCell ⟨g, 1, none⟩ y1).setCell ⟨g, 2, none⟩ y2).setCell ⟨g, 3, none⟩ y3).setCell ⟨g, 4, none⟩ y4).setCell ⟨g, 5, none⟩ y5).setCell ⟨g, 6, none⟩ y6).setCell ⟨g, 7, none⟩ y7).setCell ⟨g, 8, none⟩ y8).setCell ⟨g, 9, none⟩ y9) g #[y0, y1, y2, y3, y4, y5, y6, y7, y8, y9, x10, x11, x12, x13, x14] t := P9.put 9 y9
  have G10 := G9.setCell (p := ⟨g, 9, none⟩) hg y9
  have P11 : Bk (((((((((((w.setCell ⟨g, 0, none⟩ y0).setCell ⟨g, 1, none⟩ y1).setCell ⟨g, 2, none⟩ y2).setCell ⟨g, 3, none⟩ y3).setCell ⟨g, 4, none⟩ y4).setCell ⟨g, 5, none⟩ y5).setCell ⟨g, 6, none⟩ y6).setCell ⟨g, 7, none⟩ y7).setCell ⟨g, 8, none⟩ y8).setCell ⟨g, 9, none⟩ y9).setCell ⟨g, 10, none⟩ y10) g #[y0, y1, y2, y3, y4, y5, y6, y7, y8, y9, y10, x11, x12, x13, x14] t := P10.put 10 y10
  have G11 := G10.setCell (p := ⟨g, 10, none⟩) hg y10
  have P12 : Bk ((((((((((((w.setCell ⟨g, 0, none⟩ y0).setCell ⟨g, 1, none⟩ y1).setCell ⟨g, 2, none⟩ y2).setCell ⟨g, 3, none⟩ y3).setCell ⟨g, 4, none⟩ y4).setCell ⟨g, 5, none⟩ y5).setCell ⟨g, 6, none⟩ y6).setCell ⟨g, 7, none⟩ y7).setCell ⟨g, 8, none⟩ y8).setCell ⟨g, 9, none⟩ y9).setCell ⟨g, 10, none⟩ y10).setCell ⟨g, 11, none⟩ y11) g #[y0, y1, y2, y3, y4, y5, y6, y7, y8, y9, y10, y11, x12, x13, x14] t := P11.put 11 y11
  have G12 := G11.setCell (p := ⟨g, 11, none⟩) hg y11
  have P13 : Bk (((((((((((((w.setCell ⟨g, 0, none⟩ y0).setCell ⟨g, 1, none⟩ y1).setCell ⟨g, 2, none⟩ y2).setCell ⟨g, 3, none⟩ y3).setCell ⟨g, 4, none⟩ y4).setCell ⟨g, 5, none⟩ y5).setCell ⟨g, 6, none⟩ y6).setCell ⟨g, 7, none⟩ y7).setCell ⟨g, 8, none⟩ y8).setCell ⟨g, 9, none⟩ y9).setCell ⟨g, 10, none⟩ y10).setCell ⟨g, 11, none⟩ y11).setCell ⟨g, 12, none⟩ y12) g #[y0, y1, y2, y3, y4, y5, y6, y7, y8, y9, y10, y11, y12, x13, x14] t := P12.put 12 y12
  have G13 := G12.setCell (p := ⟨g, 12, none⟩) hg y12
  have P14 : Bk ((((((((((((((w.setCell ⟨g, 0, none⟩ y0).setCell ⟨g, 1, none⟩ y1).setCell ⟨g, 2, none⟩ y2).setCell ⟨g, 3, none⟩ y3).setCell ⟨g, 4, none⟩ y4).setCell ⟨g, 5, none⟩ y5).setCell ⟨g, 6, none⟩ y6).setCell ⟨g, 7, none⟩ y7).setCell ⟨g, 8, none⟩ y8).setCell ⟨g, 9, none⟩ y9).setCell ⟨g, 10, none⟩ y10).setCell ⟨g, 11, none⟩ y11).setCell ⟨g, 12, none⟩ y12).setCell ⟨g, 13, none⟩ y13) g #[y0, y1, y2, y3, y4, y5, y6, y7, y8, y9, y10, y11, y12, y13, x14] t := P13.put 13 y13
  have G14 := G13.setCell (p := ⟨g, 13, none⟩) hg y13
  have P15 : Bk (((((((((((((((w.setCell ⟨g, 0, none⟩ y0).setCell ⟨g, 1, none⟩ y1).setCell ⟨g, 2, none⟩ y2).setCell ⟨g, 3, none⟩ y3).setCell ⟨g, 4, none⟩ y4).setCell ⟨g, 5, none⟩ y5).setCell ⟨g, 6, none⟩ y6).setCell ⟨g, 7, none⟩ y7).setCell ⟨g, 8, none⟩ y8).setCell ⟨g, 9, none⟩ y9).setCell ⟨g, 10, none⟩ y10).setCell ⟨g, 11, none⟩ y11).setCell ⟨g, 12, none⟩ y12).setCell ⟨g, 13, none⟩ y13).setCell ⟨g, 14, none⟩ y14) g #[y0, y1, y2, y3, y4, y5, y6, y7, y8, y9, y10, y11, y12, y13, y14] t := P14.put 14 y14
  have G15 := G14.setCell (p := ⟨g, 14, none⟩) hg y14
  exact ⟨P15, G15⟩
theorem RowB.stored {base : Nat} {w : World} {g n cap : Nat} {l : List Bdy} (h : RowB base w (.slice (some ⟨g, 0, none⟩) n cap) l) {j r : Nat} {x y : Bdy} {u : Value} (hx : l[j]? = some x) (hr : r < 9) (hu : (bv x).set r u = bv y) :
    RowB base (w.setCell ⟨g, j * 9 + r, none⟩ u) (.slice (some ⟨g, 0, none⟩) n cap) (l.set j y) := by
  obtain rfl := h.len
  refine ⟨?_, by simpa using h.2⟩
  have := (h.1.stored (j * 9 + r) u).1
  rw [List.length_set]
  unfold bvs at this ⊢
  rw [flat_set bv 9 bv_len l j r x y u hx hr hu] at this
  exact this
theorem RowB.store {base : Nat} {w : World} {g n cap : Nat} {l : List Bdy} (h : RowB base w (.slice (some ⟨g, 0, none⟩) n cap) l) {j : Nat} {x : Bdy} (hx : l[j]? = some x) (y : Bdy) :
    RowB base (((((((((w.setCell ⟨g, j * 9, none⟩ (.int .i64 y.id)).setCell ⟨g, j * 9 + 1, none⟩ (.int .i64 y.x)).setCell ⟨g, j * 9 + 2, none⟩ (.int .i64 y.y)).setCell ⟨g, j * 9 + 3, none⟩ (.int .i64 y.vx)).setCell ⟨g, j * 9 + 4, none⟩ (.int .i64 y.vy)).setCell ⟨g, j * 9 + 5, none⟩ (.int .i64 y.w)).setCell ⟨g, j * 9 + 6, none⟩ (.int .i64 y.h)).setCell ⟨g, j * 9 + 7, none⟩ (.bool y.round)).setCell ⟨g, j * 9 + 8, none⟩ (.bool y.fixed)) (.slice (some ⟨g, 0, none⟩) n cap) (l.set j y) := by
  obtain ⟨i, a, b, c, d, e, f, r, z⟩ := x
  have hj := (List.getElem?_eq_some_iff.1 hx).1
  have at_ : ∀ z : Bdy, (l.set j z)[j]? = some z := fun z => by rw [List.getElem?_set_self hj]
  have h0 := h.stored (r := 0) (y := ⟨y.id, a, b, c, d, e, f, r, z⟩) (u := .int .i64 y.id) hx (by decide) rfl
  have h1 := h0.stored (r := 1) (y := ⟨y.id, y.x, b, c, d, e, f, r, z⟩) (u := .int .i64 y.x) (at_ _) (by decide) rfl
  rw [List.set_set] at h1
  have h2 := h1.stored (r := 2) (y := ⟨y.id, y.x, y.y, c, d, e, f, r, z⟩) (u := .int .i64 y.y) (at_ _) (by decide) rfl
  rw [List.set_set] at h2
  have h3 := h2.stored (r := 3) (y := ⟨y.id, y.x, y.y, y.vx, d, e, f, r, z⟩) (u := .int .i64 y.vx) (at_ _) (by decide) rfl
  rw [List.set_set] at h3
  have h4 := h3.stored (r := 4) (y := ⟨y.id, y.x, y.y, y.vx, y.vy, e, f, r, z⟩) (u := .int .i64 y.vy) (at_ _) (by decide) rfl
  rw [List.set_set] at h4
  have h5 := h4.stored (r := 5) (y := ⟨y.id, y.x, y.y, y.vx, y.vy, y.w, f, r, z⟩) (u := .int .i64 y.w) (at_ _) (by decide) rfl
  rw [List.set_set] at h5
  have h6 := h5.stored (r := 6) (y := ⟨y.id, y.x, y.y, y.vx, y.vy, y.w, y.h, r, z⟩) (u := .int .i64 y.h) (at_ _) (by decide) rfl
  rw [List.set_set] at h6
  have h7 := h6.stored (r := 7) (y := ⟨y.id, y.x, y.y, y.vx, y.vy, y.w, y.h, y.round, z⟩) (u := .bool y.round) (at_ _) (by decide) rfl
  rw [List.set_set] at h7
  have h8 := h7.stored (r := 8) (y := y) (u := .bool y.fixed) (at_ _) (by decide) rfl
  rw [List.set_set] at h8
  exact h8
theorem RowB.storeV {base : Nat} {w : World} {g n cap : Nat} {l : List Bdy} (h : RowB base w (.slice (some ⟨g, 0, none⟩) n cap) l) {j : Nat} {x : Bdy} (hx : l[j]? = some x) (vx vy : Int) :
    RowB base ((w.setCell ⟨g, j * 9 + 3, none⟩ (.int .i64 vx)).setCell ⟨g, j * 9 + 4, none⟩ (.int .i64 vy)) (.slice (some ⟨g, 0, none⟩) n cap) (l.set j { x with vx := vx, vy := vy }) := by
  obtain ⟨i, a, b, c, d, e, f, r, z⟩ := x
  have hj := (List.getElem?_eq_some_iff.1 hx).1
  have h0 := h.stored (r := 3) (y := ⟨i, a, b, vx, d, e, f, r, z⟩) (u := .int .i64 vx) hx (by decide) rfl
  have h1 := h0.stored (x := ⟨i, a, b, vx, d, e, f, r, z⟩) (r := 4) (y := ⟨i, a, b, vx, vy, e, f, r, z⟩) (u := .int .i64 vy) (by rw [List.getElem?_set_self hj]) (by decide) rfl
  rw [List.set_set] at h1
  exact h1
theorem RowB.form {base : Nat} {w : World} {s : Value} {l : List Bdy} (h : RowB base w s l) (hl : 0 < l.length) : ∃ g cap, s = .slice (some ⟨g, 0, none⟩) l.length cap ∧ base ≤ g ∧ g < w.heap.size ∧ (∀ o, w.frozen? ⟨g, o, none⟩ = false) := by
  have h0 := h.1
  rcases h.1.2 with ⟨h1, h2⟩ | ⟨g, cap, cur, hv, hg, hh, h3⟩
  · omega
  · subst hv
    exact ⟨g, cap, rfl, hg, (Array.getElem?_eq_some_iff.1 hh).1, fun o => h0.frozenAt o⟩
theorem RowB.bods {base : Nat} {w : World} {s : Option Addr × Nat × Nat} {l : List Bdy} (h : RowB base w (.slice s.1 s.2.1 s.2.2) l) : BodsAt w.heap.size w s l := by
  obtain ⟨a, n, c⟩ := s
  refine ⟨h.len, ?_⟩
  have h0 := h
  rcases h.1.2 with ⟨h1, h2⟩ | ⟨g, cap, cur, hv, hg, hh, h3⟩
  · exact .inl (List.eq_nil_of_length_eq_zero h2)
  · cases hv
    exact .inr ⟨g, 0, rfl, (Array.getElem?_eq_some_iff.1 hh).1, h.2, fun i x hx => by rw [Nat.zero_add]; exact h0.at hx⟩
theorem infoS : (Tryz.prog.info? 148).map (fun i => (i.zero, i.size, i.bytes)) = some (some (.agg #[.int .i64 0, .int .u8 0, .int .i64 0]), 3, 24) := by kernel_rfl
end Go.Proofs.YtlcjkomfjgddeaaGreatDoor
