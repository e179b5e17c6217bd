/- client.Predict, where it predicts. -/
import Derived.Test.YtlcjkomfjgddeaaGreatDoorM29
import Derived.Test.YtlcjkomfjgddeaaGreatDoorM30
import Derived.Deep.RegionHeld3
set_option linter.unusedVariables false
set_option linter.unusedSimpArgs false
namespace Go.Proofs.YtlcjkomfjgddeaaGreatDoor
open Go Go.RowKit Go.Sort
set_option maxRecDepth 100000
attribute [local go_sem] opLow opUpon opLow2 opUpon2

abbrev mineA (id : Int) : Array Value := #[.int .u8 4, .int .i64 id, .int .i64 0, .int .i64 0, .int .i64 0]
def aOf (w0 : World) (id : Int) : Array Value → Value → World → World → Prop := fun _ v w1 w2 => w0.heap.size ≤ w1.heap.size ∧ ∃ g, v = .func (.func 62) #[] #[.pointer (some ⟨g, 0, none⟩)] ∧ Bk w2 g (mineA id) 48 ∧ w1.heap.size ≤ g
/-- the blocks of the parameters, and the result's -/
structure PI (w : World) (t : Int) (a : Option Addr) (n c : Nat) (gx gy : Int) (X : Array Value) (V : World) : Prop where
  b4 : Bk V w.heap.size #[.int .i64 t, .slice a n c] 26
  b6 : Bk V (w.heap.size + 1) #[.int .i64 gx, .int .i64 gy] 23
  b7 : Bk V (w.heap.size + 1 + 1) X 37
  b8 : Bk V (w.heap.size + 1 + 1 + 1) #[.int .i64 0, .slice none 0 0] 26
  bel : Below w.heap.size w V
theorem PI.below {w : World} {t : Int} {a : Option Addr} {n c : Nat} {gx gy : Int} {X : Array Value} {V V' : World} (h : PI w t a n c gx gy X V) (hb : Below V.heap.size V V') : PI w t a n c gx gy X V' :=
  ⟨h.b4.below hb, h.b6.below hb, h.b7.below hb, h.b8.below hb, (below_cc hb h.bel).1⟩
/-- an owner's component is no row that holds a speed -/
theorem mine_ne {w : World} {base gm g n cap j : Nat} {id : Int} {l : List Cmp} {x : Cmp} (hm : Bk w gm (mineA id) 48) (h : RowC base w (.slice (some ⟨g, 0, none⟩) n cap) l) (hx : l[j]? = some x) (hk : x.k = 2) : gm ≠ g := by
  intro e
  subst e
  obtain ⟨g', cap', cur, hv, -, -, -, hc, -⟩ := h.comp hx
  cases hv
  rw [Nat.zero_add] at hc
  have hq := hm
  unfold Bk at hq
  have : w.cell? ⟨gm, j * 5, none⟩ = (mineA id)[j * 5]? := by
    rcases Nat.eq_zero_or_pos j with h0 | h0
    · subst h0; exact hm.cell 0 rfl
    · have h1 : (mineA id)[j * 5]? = none := Array.getElem?_eq_none (by simp [mineA]; omega)
      rw [h1]
      simp [World.cell?, hq, mineA]
      omega
  rw [this] at hc
  rcases Nat.eq_zero_or_pos j with h0 | h0
  · subst h0
    simp [mineA, hk] at hc
  · rw [Array.getElem?_eq_none (by simp [mineA]; omega)] at hc
    cases hc
def PredPost (w : World) (t id gx gy X Y : Int) (es : List Ent) (e : Ending) (w' : World) : Prop :=
  ∃ a n c, e = .returned (.tuple #[Wv (t + 1) a n c, .int .i64 0]) ∧ Fresh w.heap.size w' (.slice a n c) (predM id gx gy X Y es) ∧ Below w.heap.size w w'
/-- what holds at the head of a round over the entities -/
structure SI (V2 : World) (t id X Y : Int) (gm g11 g12 : Nat) (aE : Option Addr) (nE cE : Nat) (l : List Ent) (ss : List Value) (V : World) : Prop where
  bel : Below V2.heap.size V2 V
  bm : Bk V gm (mineA id) 48
  b11 : Bk V g11 #[.int .i64 t, .slice aE nE cE] 26
  b12 : Bk V g12 #[.int .i64 X, .int .i64 Y] 23
  fr : FreshS V2.heap.size V (.slice aE nE cE) l ss
theorem SI.below {V2 : World} {t id X Y : Int} {gm g11 g12 : Nat} {aE : Option Addr} {nE cE : Nat} {l : List Ent} {ss : List Value} {V V' : World} (h : SI V2 t id X Y gm g11 g12 aE nE cE l ss V) (hb : Below V.heap.size V V') : SI V2 t id X Y gm g11 g12 aE nE cE l ss V' :=
  ⟨(below_cc hb h.bel).1, h.bm.below hb, h.b11.below hb, h.b12.below hb, h.fr.below hb⟩
theorem still_ok (id X Y : Int) (hX : -4096 ≤ X ∧ X ≤ 4096) (hY : -4096 ≤ Y ∧ Y ≤ 4096) (e : Ent) (hf : ∀ x ∈ e.cs, fits x = true) : (stillE id X Y e).id = e.id ∧ ∀ x ∈ (stillE id X Y e).cs, fits x = true := by
  unfold stillE
  split
  · exact ⟨rfl, hf⟩
  · rename_i v hv
    split
    · refine ⟨rfl, fun x hx => ?_⟩
      rcases List.mem_or_eq_of_mem_set hx with h1 | rfl
      · exact hf x h1
      · have hfv := hf v (List.mem_iff_getElem?.2 ⟨_, hv⟩)
        have hk : v.k = 2 := by
          have hlt := (List.getElem?_eq_some_iff.1 hv).1
          have := List.findIdx_getElem (p := keyC 2) (xs := e.cs) (w := hlt)
          rw [(List.getElem?_eq_some_iff.1 hv).2] at this
          unfold keyC at this
          simpa using this
        obtain ⟨k, a, b, c, d⟩ := v
        simp only at hk
        subst hk
        simp only [fits, inLim, Cmp.v, putXY, Bool.and_eq_true, decide_eq_true_eq] at hfv ⊢
        obtain ⟨⟨h1, ⟨⟨⟨h3, h4⟩, h5⟩, h6⟩⟩, h7⟩ := hfv
        have e1 : lim 2 0 = (-4096, 4096) := by decide
        have e2 : lim 2 1 = (-4096, 4096) := by decide
        refine ⟨⟨⟨rfl, rfl⟩, ⟨⟨⟨?_, ?_⟩, h5⟩, h6⟩⟩, h7⟩
        · rw [e1]; exact hX
        · rw [e2]; exact hY
    · exact ⟨rfl, fun x hx => hf x (List.mem_of_mem_eraseIdx hx)⟩
theorem wst64 (x y : Int) : -4096 ≤ wst x (vfar x y) 64 ∧ wst x (vfar x y) 64 ≤ 4096 := by
  have := (wst_any x (vfar x y) 64 (vfar_bd x y).1).2.2.1
  omega
theorem wst64' (x y : Int) : -4096 ≤ wst y (vfar x y) 64 ∧ wst y (vfar x y) 64 ≤ 4096 := by
  have := (wst_any y (vfar x y) 64 (vfar_bd x y).2.1).2.2.1
  omega
theorem firstOf_neg {α : Type} {p : α → Bool} {l : List α} (h : firstOf p l < 0) : firstOf p l = -1 ∧ l[l.findIdx p]? = none := by
  unfold firstOf at h ⊢
  split at h
  · omega
  · rename_i hq
    rw [if_neg hq]
    refine ⟨rfl, List.getElem?_eq_none ?_⟩
    have : l.findIdx p = l.length := List.findIdx_eq_length.2 (fun x hx => by
      rcases hp : p x with _ | _
      · rfl
      · exact absurd (List.any_eq_true.2 ⟨x, hx, hp⟩) hq)
    omega
theorem firstOf_pos {α : Type} {p : α → Bool} {l : List α} (h : ¬ firstOf p l < 0) : ∃ (j : Nat) (x : α), firstOf p l = (j : Int) ∧ l.findIdx p = j ∧ l[j]? = some x ∧ p x = true := by
  have hany : l.any p = true := (firstOf_iff p l).1 (by omega)
  have hlt := List.findIdx_lt_length.2 (List.any_eq_true.1 hany)
  refine ⟨l.findIdx p, l[l.findIdx p], ?_, rfl, List.getElem?_eq_getElem hlt, List.findIdx_getElem⟩
  unfold firstOf
  rw [if_pos hany]
/-- the first k entities of the client taken -/
def zipL (f : Ent → Ent → Ent) (es ns : List Ent) (k : Nat) : List Ent := (es.zipWith f ns).take k ++ es.drop k
theorem zipL_at (f : Ent → Ent → Ent) {es ns : List Ent} (hl : es.length = ns.length) {k : Nat} {e : Ent} (h : es[k]? = some e) : (zipL f es ns k)[k]? = some e := by
  have hk := (List.getElem?_eq_some_iff.1 h).1
  unfold zipL
  have h1 : ((es.zipWith f ns).take k).length = k := by rw [List.length_take, List.length_zipWith]; omega
  rw [List.getElem?_append_right (by omega), h1, Nat.sub_self, List.getElem?_drop]
  simpa using h
theorem zipL_set (f : Ent → Ent → Ent) {es ns : List Ent} (hl : es.length = ns.length) {k : Nat} {e m : Ent} (h : es[k]? = some e) (hm : ns[k]? = some m) : (zipL f es ns k).set k (f e m) = zipL f es ns (k + 1) := by
  have hk := (List.getElem?_eq_some_iff.1 h).1
  have h1 : ((es.zipWith f ns).take k).length = k := by rw [List.length_take, List.length_zipWith]; omega
  have h2 : (es.zipWith f ns)[k]? = some (f e m) := by rw [List.getElem?_zipWith, h, hm]
  unfold zipL
  rw [List.set_append_right _ _ (by omega), h1, Nat.sub_self, drop_at h, List.set_cons_zero, take_succ h2, List.append_assoc]
  rfl
theorem zipL_stay (f : Ent → Ent → Ent) {es ns : List Ent} (hl : es.length = ns.length) {k : Nat} {e m : Ent} (h : es[k]? = some e) (hm : ns[k]? = some m) (hf : f e m = e) : zipL f es ns (k + 1) = zipL f es ns k := by
  rw [← zipL_set f hl h hm, hf, set_self (zipL_at f hl h)]
theorem zipL_all (f : Ent → Ent → Ent) {es ns : List Ent} (hl : es.length = ns.length) : zipL f es ns es.length = es.zipWith f ns := by
  unfold zipL
  rw [List.take_of_length_le (by rw [List.length_zipWith]; omega)]
  simp
end Go.Proofs.YtlcjkomfjgddeaaGreatDoor
