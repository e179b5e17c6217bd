/- Blocks known whole, carried over calls, new blocks and stores. -/
import Derived.Test.YtghfggfgndgkjaaGreatDoorRegion
import Derived.Test.YtghfggfgndgkjaaGreatDoorWide1
set_option linter.unusedVariables false
set_option linter.unusedSimpArgs false
namespace Go.Proofs.YtghfggfgndgkjaaGreatDoor
open Go Go.RowKit Go.Sort

/-- block g holds just these cells, and may be written -/
def Bk (w : World) (g : Nat) (cs : Array Value) (t : TypeId) : Prop := w.heap[g]? = some (.cells cs t)
section
variable {w w' : World} {g : Nat} {t : TypeId} {cs : Array Value}
theorem Bk.lt (h : Bk w g cs t) : g < w.heap.size := by
  unfold Bk at h
  rcases Nat.lt_or_ge g w.heap.size with h1 | h1
  · exact h1
  · rw [Array.getElem?_eq_none h1] at h; cases h
theorem Bk.apart (h : Bk w g cs t) (k : Nat) : g ≠ w.heap.size + k := Nat.ne_of_lt (Nat.lt_of_lt_of_le h.lt (Nat.le_add_right _ _))
theorem Bk.cell (h : Bk w g cs t) (i : Nat) {v : Value} (hv : cs[i]? = some v) : w.cell? ⟨g, i, none⟩ = some v := by
  unfold Bk at h
  simp [World.cell?, h, hv]
theorem Bk.free (h : Bk w g cs t) (i : Nat) : w.frozen? ⟨g, i, none⟩ = false := by
  unfold Bk at h
  simp [World.frozen?, h]
theorem Bk.made (w : World) (cs : Array Value) (t : TypeId) : Bk (w.alloc (.cells cs t)) w.heap.size cs t := by
  show (w.heap.push _)[w.heap.size]? = _
  simp
theorem Bk.at_ {g : Nat} {w : World} {cs : Array Value} {t : TypeId} (hg : g = w.heap.size) : Bk (w.alloc (.cells cs t)) g cs t := by subst hg; exact Bk.made w cs t
theorem Bk.below (h : Bk w g cs t) (hb : Below w.heap.size w w') : Bk w' g cs t := (hb.block g h.lt).trans h
theorem Bk.alloc (h : Bk w g cs t) (o : Obj) : Bk (w.alloc o) g cs t := (Below.heap_alloc w o g h.lt).trans h
theorem Bk.put (h : Bk w g cs t) (i : Nat) (u : Value) : Bk (w.setCell ⟨g, i, none⟩ u) g (cs.setIfInBounds i u) t := by
  unfold Bk at h ⊢
  simp [World.setCell, Array.getElem?_modify, h]
theorem Bk.far (h : Bk w g cs t) {p : Addr} (hp : g ≠ p.block) (u : Value) : Bk (w.setCell p u) g cs t := (Below.heap_setCell w p u g hp).trans h
theorem Bk.drewN (h : Bk w g cs t) (n : Nat) : Bk (w.drewN n) g cs t := h
theorem cells1 {a : Value} (h : Bk w g #[a] t) : w.cell? ⟨g, 0, none⟩ = some a := h.cell 0 rfl
theorem cells2 {a b : Value} (h : Bk w g #[a, b] t) : w.cell? ⟨g, 0, none⟩ = some a ∧ w.cell? ⟨g, 1, none⟩ = some b := ⟨h.cell 0 rfl, h.cell 1 rfl⟩
theorem cells3 {a b c : Value} (h : Bk w g #[a, b, c] t) : w.cell? ⟨g, 0, none⟩ = some a ∧ w.cell? ⟨g, 1, none⟩ = some b ∧ w.cell? ⟨g, 2, none⟩ = some c := ⟨h.cell 0 rfl, h.cell 1 rfl, h.cell 2 rfl⟩
theorem free2 {a b : Value} (h : Bk w g #[a, b] t) : w.frozen? ⟨g, 0, none⟩ = false ∧ w.frozen? ⟨g, 1, none⟩ = false := ⟨h.free 0, h.free 1⟩
theorem free3 {a b c : Value} (h : Bk w g #[a, b, c] t) : w.frozen? ⟨g, 0, none⟩ = false ∧ w.frozen? ⟨g, 1, none⟩ = false ∧ w.frozen? ⟨g, 2, none⟩ = false := ⟨h.free 0, h.free 1, h.free 2⟩
theorem Bk.puts1 {a x : Value} (h : Bk w g #[a] t) : Bk (w.setCell ⟨g, 0, none⟩ x) g #[x] t := h.put 0 x
theorem Bk.puts2 {a b x y : Value} (h : Bk w g #[a, b] t) : Bk ((w.setCell ⟨g, 0, none⟩ x).setCell ⟨g, 1, none⟩ y) g #[x, y] t := (h.put 0 x).put 1 y
theorem Bk.puts3 {a b c x y z : Value} (h : Bk w g #[a, b, c] t) : Bk (((w.setCell ⟨g, 0, none⟩ x).setCell ⟨g, 1, none⟩ y).setCell ⟨g, 2, none⟩ z) g #[x, y, z] t := ((h.put 0 x).put 1 y).put 2 z
theorem Bk.putsA {a b c x y : Value} (h : Bk w g #[a, b, c] t) : Bk ((w.setCell ⟨g, 0, none⟩ x).setCell ⟨g, 1, none⟩ y) g #[x, y, c] t := (h.put 0 x).put 1 y
/-- behind a store of a whole struct into a block at or behind B -/
theorem Bk.store2 {B : Nat} {w1 : World} {a b x y : Value} (h : Bk w g #[a, b] t) (hB : Below B w1 w) (hg : B ≤ g) : Bk ((w.setCell ⟨g, 0, none⟩ x).setCell ⟨g, 1, none⟩ y) g #[x, y] t ∧ Below B w1 ((w.setCell ⟨g, 0, none⟩ x).setCell ⟨g, 1, none⟩ y) :=
  ⟨(h.put 0 x).put 1 y, (hB.setCell (p := ⟨g, 0, none⟩) hg x).setCell (p := ⟨g, 1, none⟩) hg y⟩
theorem Bk.store3 {B : Nat} {w1 : World} {a b c x y z : Value} (h : Bk w g #[a, b, c] t) (hB : Below B w1 w) (hg : B ≤ g) :
    Bk (((w.setCell ⟨g, 0, none⟩ x).setCell ⟨g, 1, none⟩ y).setCell ⟨g, 2, none⟩ z) g #[x, y, z] t ∧ Below B w1 (((w.setCell ⟨g, 0, none⟩ x).setCell ⟨g, 1, none⟩ y).setCell ⟨g, 2, none⟩ z) :=
  ⟨((h.put 0 x).put 1 y).put 2 z, ((hB.setCell (p := ⟨g, 0, none⟩) hg x).setCell (p := ⟨g, 1, none⟩) hg y).setCell (p := ⟨g, 2, none⟩) hg z⟩
end
/-- the world at hand gets a name, and what is wanted of it is said -/
theorem wp_name {P : Program} {Q : Exit → Act → World → Prop} {c : Code} {a : Act} {w : World} (S : World → Prop) (h0 : S w) (h : ∀ W, S W → c.wp P Q a W) : c.wp P Q a w := h w h0
theorem post_name {P : Program} {fn : Func} {R : Ending → World → Prop} {e : Exit} {a : Act} {w : World} (S : World → Prop) (h0 : S w) (h : ∀ W, S W → bodyPost P fn R e a W) : bodyPost P fn R e a w := h w h0
/-- the same cell in a world that has new blocks alone -/
theorem cell_grow {w : World} {d : Nat} {os : Array Obj} {p : Addr} (h : (w.cell? p).isSome = true) : (grow (redrawn w d) os).cell? p = w.cell? p := by
  obtain ⟨v, hv⟩ := Option.isSome_iff_exists.1 h
  rw [cell_regrown hv, hv]
theorem cls_bk {w0 w : World} {Γ : Made} (h : Cls w0 Γ w) {i g : Nat} {cs : Array Value} {t : TypeId} (hi : Γ i = some (g, .cells cs t)) : Bk w g cs t ∧ w0.heap.size ≤ g := ⟨(h.made i g _ hi).2, (h.made i g _ hi).1⟩
theorem cls_ne {w0 w : World} {Γ : Made} (h : Cls w0 Γ w) {i j g g' : Nat} {o o' : Obj} (hi : Γ i = some (g, o)) (hj : Γ j = some (g', o')) (hne : i ≠ j) : g ≠ g' := by
  rintro rfl; exact hne (h.apart i j g o o' hi hj)
end Go.Proofs.YtghfggfgndgkjaaGreatDoor
