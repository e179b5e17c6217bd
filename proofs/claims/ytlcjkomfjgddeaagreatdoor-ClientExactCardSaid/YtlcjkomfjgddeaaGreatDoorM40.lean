/- marcheslaw27.base. -/
import Derived.Test.YtlcjkomfjgddeaaGreatDoorM39
set_option linter.unusedVariables false
set_option linter.unusedSimpArgs false
namespace Go.Proofs.YtlcjkomfjgddeaaGreatDoor
open Go Go.RowKit Go.Sort
set_option maxRecDepth 100000
attribute [local go_sem] opLow opUpon opLow2 opUpon2

theorem comps_bk {w : World} {g cap : Nat} {t : TypeId} {l : List Cmp} (hk : ∀ x ∈ l, 0 ≤ x.k ∧ x.k ≤ 255) (hl : l.length < 1099511627776) (hB : Bk w g (cvs l).toArray t) : CompsAt w (.slice (some ⟨g, 0, none⟩) l.length cap) l := by
  refine .inr ⟨g, 0, cap, rfl, hl, fun i x hx => ?_⟩
  have key : ∀ r, r < 5 → w.cell? ⟨g, 0 + i * 5 + r, none⟩ = (cv x)[r]? := fun r hr => by
    have h1 := flat_at cv 5 cv_len l i r x hx hr
    rw [Nat.zero_add]
    have h2 : (cv x)[r]? = some ((cv x)[r]'(by rw [cv_len]; exact hr)) := List.getElem?_eq_getElem _
    rw [h2]
    refine hB.cell (i * 5 + r) ?_
    rw [← h2, ← h1]
    simp [cvs]
  exact ⟨⟨key 0 (by omega), key 1 (by omega), key 2 (by omega), key 3 (by omega), key 4 (by omega)⟩, hk x (List.mem_iff_getElem?.2 ⟨i, hx⟩)⟩
/-- the entities of the chapter's example -/
def baseM (x y : Int) : List Ent := [⟨1, [⟨1, x, y, 0, 0⟩, ⟨2, 0, 0, 0, 0⟩, ⟨3, 5, 5, 0, 0⟩, ⟨4, 2, 0, 0, 0⟩]⟩, ⟨2, [⟨1, 30, 0, 0, 0⟩, ⟨3, 5, 5, 0, 1⟩]⟩]
theorem rowC_bk {base : Nat} {w : World} {g : Nat} {l : List Cmp} (hk : ∀ x ∈ l, 0 ≤ x.k ∧ x.k ≤ 255) (hl : l.length < 1099511627776) (hg : base ≤ g) (hB : Bk w g (cvs l).toArray 48) : RowC base w (.slice (some ⟨g, 0, none⟩) l.length l.length) l :=
  ⟨⟨cvs_len l, .inr ⟨g, l.length, (cvs l).toArray, rfl, hg, hB, Nat.le_refl _, by unfold maxLen; omega, by simp [cvs_len], by rw [List.take_of_length_le (by simp [cvs_len])]⟩⟩, hk, hl⟩
/-- a fresh world reads the same where its blocks are the same -/
theorem Fresh.agree {base : Nat} {w w' : World} {v : Value} {es : List Ent} (h : Fresh base w v es) (hb : ∀ b, base ≤ b → b < w.heap.size → w'.heap[b]? = w.heap[b]?) : Fresh base w' v es := by
  have row : ∀ (e size n : Nat) (v : Value) (xs : List Value), w.ownsRow base e size v n xs → w'.ownsRow base e size v n xs := fun e size n v xs hr => by
    refine ⟨hr.1, ?_⟩
    rcases hr.2 with h1 | ⟨g, cap, cur, hv, hg, hh, hrr⟩
    · exact .inl h1
    · refine .inr ⟨g, cap, cur, hv, hg, ?_, hrr⟩
      have hlt : g < w.heap.size := (Array.getElem?_eq_some_iff.1 hh).1
      rw [hb g hg hlt]; exact hh
  obtain ⟨h0, ss, h1, h2, h3, h4⟩ := h
  exact ⟨h0, ss, h1, row _ _ _ _ _ h2, fun i s e hs he => ⟨row _ _ _ _ _ (h3 i s e hs he).1, (h3 i s e hs he).2⟩, h4⟩
def FPost (w : World) (W : Wld) (e : Ending) (w' : World) : Prop :=
  ∃ a n c, e = .returned (Wv W.t a n c) ∧ Fresh w.heap.size w' (.slice a n c) W.es ∧ Below w.heap.size w w'
def WPost (w : World) (W : Wld) (e : Ending) (w' : World) : Prop :=
  ∃ a n c, e = .returned (Wv W.t a n c) ∧ EntsAt w' (.slice a n c) W.es ∧ Below w.heap.size w w'
set_option maxHeartbeats 8000000 in
theorem base_fresh (t x y : Int) (w : World) :
    Calls Tryz.prog 18 #[.int .i64 t, .int .i64 x, .int .i64 y] w (FPost w ⟨t, baseM x y⟩) := by
  go_enter Tryz.func18, Tryz.ntmps18
  go_wp2_with fail
  refine (comp_2 1 x y (w.heap.size + 1) 2 _ ((Bk.at_ (t := 3) (cs := #[.int .i64 x, .int .i64 y]) (by simp)).cell 0 rfl) ((Bk.at_ (t := 3) (cs := #[.int .i64 x, .int .i64 y]) (by simp)).cell 1 rfl)).mono ?_
  rintro e V1 ⟨rfl, hb1⟩
  have B6 : Bk V1 w.heap.size #[.int .i64 0, .slice none 0 0] 26 := ((Bk.made _ _ _).alloc _).below hb1
  obtain ⟨hb, hs⟩ := below_cc (w := w) hb1 (by go_grown)
  clear hb1
  go_wp2_with fail
  refine (comp_0 2 0 0 _).mono ?_
  rintro e V2 ⟨rfl, hb1⟩
  replace B6 := B6.below hb1
  obtain ⟨hb, hs⟩ := below_cc hb1 hb
  clear hb1
  go_wp2_with fail
  refine (comp_2 3 5 5 V2.heap.size 2 _ ((Bk.made V2 #[.int .i64 5, .int .i64 5] 3).cell 0 rfl) ((Bk.made V2 #[.int .i64 5, .int .i64 5] 3).cell 1 rfl)).mono ?_
  rintro e V3 ⟨rfl, hb1⟩
  replace B6 := (B6.alloc _).below hb1
  obtain ⟨hb, hs⟩ := below_cc hb1 (hb.alloc hs _)
  clear hb1
  go_wp2_with fail
  refine (comp_1 4 2 V3.heap.size 1 _ ((Bk.made V3 #[.int .i64 2] 3).cell 0 rfl)).mono ?_
  rintro e V4 ⟨rfl, hb1⟩
  replace B6 := (B6.alloc _).below hb1
  obtain ⟨hb, hs⟩ := below_cc hb1 (hb.alloc hs _)
  clear hb1
  unfold C
  simp only
  go_wp2_with fail
  refine (comp_2 1 30 0 (V4.heap.size + 1) 2 _ ((Bk.at_ (t := 3) (cs := #[.int .i64 30, .int .i64 0]) (by simp)).cell 0 rfl) ((Bk.at_ (t := 3) (cs := #[.int .i64 30, .int .i64 0]) (by simp)).cell 1 rfl)).mono ?_
  rintro e V5 ⟨rfl, hb1⟩
  have BA : Bk V5 V4.heap.size #[.int .u8 1, .int .i64 x, .int .i64 y, .int .i64 0, .int .i64 0, .int .u8 2, .int .i64 0, .int .i64 0, .int .i64 0, .int .i64 0, .int .u8 3, .int .i64 5, .int .i64 5, .int .i64 0, .int .i64 0, .int .u8 4, .int .i64 2, .int .i64 0, .int .i64 0, .int .i64 0] 48 := ((Bk.made _ _ _).alloc _).below hb1
  replace B6 := ((B6.alloc _).alloc _).below hb1
  obtain ⟨hb, hs5⟩ := below_cc hb1 ((hb.alloc hs _).alloc (by simp; omega) _)
  obtain ⟨gA, hgA⟩ : ∃ g, V4.heap.size = g := ⟨_, rfl⟩
  rw [hgA] at BA ⊢
  have hgAw : w.heap.size ≤ gA := by omega
  clear hb1 hgA hs
  go_wp2_with fail
  refine (comp_4 3 5 5 0 1 V5.heap.size 4 _ ((Bk.made V5 #[.int .i64 5, .int .i64 5, .int .i64 0, .int .i64 1] 3).cell 0 rfl) ((Bk.made V5 #[.int .i64 5, .int .i64 5, .int .i64 0, .int .i64 1] 3).cell 1 rfl) ((Bk.made V5 #[.int .i64 5, .int .i64 5, .int .i64 0, .int .i64 1] 3).cell 2 rfl) ((Bk.made V5 #[.int .i64 5, .int .i64 5, .int .i64 0, .int .i64 1] 3).cell 3 rfl)).mono ?_
  rintro e V6 ⟨rfl, hb1⟩
  replace BA := (BA.alloc _).below hb1
  replace B6 := (B6.alloc _).below hb1
  obtain ⟨hb, hs⟩ := below_cc hb1 (hb.alloc hs5 _)
  have lA := BA.lt
  have l6 := B6.lt
  have q0 := B6.cell (v := .int .i64 0) 0 rfl
  have q1 := B6.cell (v := .slice none 0 0) 1 rfl
  have f0 := B6.free 0
  have f1 := B6.free 1
  clear hb1 hs5
  unfold C
  simp only
  have nA : gA ≠ w.heap.size := bk_types BA B6 (by decide)
  have hbb := ((((hb.setCell (p := ⟨w.heap.size, 0, none⟩) (Nat.le_refl _) (.int .i64 t)).setCell (p := ⟨w.heap.size, 1, none⟩) (Nat.le_refl _) (.slice (some ⟨V6.heap.size + 1, 0, none⟩) 2 2)).alloc (by simp; exact hs) (.cells #[.int .u8 1, .int .i64 30, .int .i64 0, .int .i64 0, .int .i64 0, .int .u8 3, .int .i64 5, .int .i64 5, .int .i64 0, .int .i64 1] 48)).alloc (by simp; omega) (.cells #[.int .i64 1, .slice (some ⟨gA, 0, none⟩) 4 4, .int .i64 2, .slice (some ⟨V6.heap.size, 0, none⟩) 2 2] 43))
  have HX := Lib.hid (And.intro hbb (And.intro ((((B6.put 0 (.int .i64 t)).put 1 (.slice (some ⟨V6.heap.size + 1, 0, none⟩) 2 2)).alloc (.cells #[.int .u8 1, .int .i64 30, .int .i64 0, .int .i64 0, .int .i64 0, .int .u8 3, .int .i64 5, .int .i64 5, .int .i64 0, .int .i64 1] 48)).alloc (.cells #[.int .i64 1, .slice (some ⟨gA, 0, none⟩) 4 4, .int .i64 2, .slice (some ⟨V6.heap.size, 0, none⟩) 2 2] 43)) (And.intro ((((BA.far (p := ⟨w.heap.size, 0, none⟩) nA (.int .i64 t)).far (p := ⟨w.heap.size, 1, none⟩) nA (.slice (some ⟨V6.heap.size + 1, 0, none⟩) 2 2)).alloc (.cells #[.int .u8 1, .int .i64 30, .int .i64 0, .int .i64 0, .int .i64 0, .int .u8 3, .int .i64 5, .int .i64 5, .int .i64 0, .int .i64 1] 48)).alloc (.cells #[.int .i64 1, .slice (some ⟨gA, 0, none⟩) 4 4, .int .i64 2, .slice (some ⟨V6.heap.size, 0, none⟩) 2 2] 43)) (And.intro (Bk.alloc (Bk.at_ (g := V6.heap.size) (w := (V6.setCell ⟨w.heap.size, 0, none⟩ (.int .i64 t)).setCell ⟨w.heap.size, 1, none⟩ (.slice (some ⟨V6.heap.size + 1, 0, none⟩) 2 2)) (cs := #[.int .u8 1, .int .i64 30, .int .i64 0, .int .i64 0, .int .i64 0, .int .u8 3, .int .i64 5, .int .i64 5, .int .i64 0, .int .i64 1]) (t := 48) (by simp)) (.cells #[.int .i64 1, .slice (some ⟨gA, 0, none⟩) 4 4, .int .i64 2, .slice (some ⟨V6.heap.size, 0, none⟩) 2 2] 43)) (Bk.at_ (g := V6.heap.size + 1) (w := ((V6.setCell ⟨w.heap.size, 0, none⟩ (.int .i64 t)).setCell ⟨w.heap.size, 1, none⟩ (.slice (some ⟨V6.heap.size + 1, 0, none⟩) 2 2)).alloc (.cells #[.int .u8 1, .int .i64 30, .int .i64 0, .int .i64 0, .int .i64 0, .int .u8 3, .int .i64 5, .int .i64 5, .int .i64 0, .int .i64 1] 48)) (cs := #[.int .i64 1, .slice (some ⟨gA, 0, none⟩) 4 4, .int .i64 2, .slice (some ⟨V6.heap.size, 0, none⟩) 2 2]) (t := 43) (by simp))))))
  have hne : gA ≠ V6.heap.size := Nat.ne_of_lt lA
  have HNE := Lib.hid hne
  clear hbb nA hne
  go_wp2
  refine post_name (fun V => Below w.heap.size w V ∧ Bk V w.heap.size #[.int .i64 t, .slice (some ⟨V6.heap.size + 1, 0, none⟩) 2 2] 26 ∧ Bk V gA #[.int .u8 1, .int .i64 x, .int .i64 y, .int .i64 0, .int .i64 0, .int .u8 2, .int .i64 0, .int .i64 0, .int .i64 0, .int .i64 0, .int .u8 3, .int .i64 5, .int .i64 5, .int .i64 0, .int .i64 0, .int .u8 4, .int .i64 2, .int .i64 0, .int .i64 0, .int .i64 0] 48 ∧ Bk V V6.heap.size #[.int .u8 1, .int .i64 30, .int .i64 0, .int .i64 0, .int .i64 0, .int .u8 3, .int .i64 5, .int .i64 5, .int .i64 0, .int .i64 1] 48 ∧ Bk V (V6.heap.size + 1) #[.int .i64 1, .slice (some ⟨gA, 0, none⟩) 4 4, .int .i64 2, .slice (some ⟨V6.heap.size, 0, none⟩) 2 2] 43) HX.out ?_
  clear HX q0 q1 f0 f1 l6 lA
  rintro V7 ⟨hbV, BV, CA, CB, CE⟩
  have hne := HNE.out
  have y0 := BV.cell (v := .int .i64 t) 0 rfl
  have y1 := BV.cell (v := .slice (some ⟨V6.heap.size + 1, 0, none⟩) 2 2) 1 rfl
  refine bodyPost_ret (v := Wv t (some ⟨V6.heap.size + 1, 0, none⟩) 2 2) (by simp [results, Tryz.results18, go_sem, y0, y1]; try rfl) rfl ⟨_, _, _, rfl, ?_, hbV⟩
  have h1 : RowC w.heap.size V7 (.slice (some ⟨gA, 0, none⟩) 4 4) [⟨1, x, y, 0, 0⟩, ⟨2, 0, 0, 0, 0⟩, ⟨3, 5, 5, 0, 0⟩, ⟨4, 2, 0, 0, 0⟩] := rowC_bk (l := [⟨1, x, y, 0, 0⟩, ⟨2, 0, 0, 0, 0⟩, ⟨3, 5, 5, 0, 0⟩, ⟨4, 2, 0, 0, 0⟩]) (fun z hz => by simp at hz; rcases hz with rfl | rfl | rfl | rfl <;> simp) (by simp) hgAw CA
  have h2 : RowC w.heap.size V7 (.slice (some ⟨V6.heap.size, 0, none⟩) 2 2) [⟨1, 30, 0, 0, 0⟩, ⟨3, 5, 5, 0, 1⟩] := rowC_bk (l := [⟨1, 30, 0, 0, 0⟩, ⟨3, 5, 5, 0, 1⟩]) (fun z hz => by simp at hz; rcases hz with rfl | rfl <;> simp) (by simp) hs CB
  refine ⟨by simp [baseM], [.slice (some ⟨gA, 0, none⟩) 4 4, .slice (some ⟨V6.heap.size, 0, none⟩) 2 2], by simp [baseM], ⟨by simp [baseM, evs, ev], .inr ⟨V6.heap.size + 1, 2, _, rfl, by omega, CE, by simp [baseM], by unfold maxLen; omega, by simp, by simp [baseM, evs, ev]⟩⟩, ?_, ?_⟩
  · intro i s e hs he
    match i, hs, he with
    | 0, hs, he =>
      simp [baseM] at hs he
      subst hs he
      exact h1
    | 1, hs, he =>
      simp [baseM] at hs he
      subst hs he
      exact h2
    | n + 2, hs, he => simp [baseM] at he
  · intro i j s t b hij hs ht hb
    match i, j, hij, hs, ht with
    | 0, 1, _, hs, ht =>
      simp at hs ht
      subst hs ht
      simp [Value.ownBlock] at hb ⊢
      subst hb
      exact fun e => hne e.symm
    | 0, 0, hij, _, _ => omega
    | 1, 1, hij, _, _ => omega
    | i, n + 2, _, _, ht => simp at ht
    | n + 1, 0, hij, _, _ => omega
    | n + 2, 1, hij, _, _ => omega
theorem base_any (t x y : Int) (w : World) :
    Calls Tryz.prog 18 #[.int .i64 t, .int .i64 x, .int .i64 y] w (WPost w ⟨t, baseM x y⟩) :=
  (base_fresh t x y w).mono fun e w' ⟨a, n, c, he, hF, hb⟩ => ⟨a, n, c, he, hF.ents, hb⟩
end Go.Proofs.YtlcjkomfjgddeaaGreatDoor
