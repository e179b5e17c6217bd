/- Lists of components and entities in memory; store.Right, store.Valid. -/
import Derived.Test.YtjjodmkblpdnhaaDoorStore1
import Derived.Test.YtjjodmkblpdnhaaDoorFixed2
set_option linter.unusedVariables false
set_option linter.unusedSimpArgs false
namespace Go.Proofs.YtjjodmkblpdnhaaDoor
open Go Go.RowKit Go.Sort
set_option maxRecDepth 100000
attribute [local go_sem] opLow opUpon opLow2 opUpon2

/-- a list in memory: its elements lie one behind the other, P says how each lies -/
def ListAt {α : Type} (P : World → Nat → Nat → α → Prop) (sz : Nat) (w : World) (v : Value) (l : List α) : Prop :=
  (v = .slice none 0 0 ∧ l = []) ∨ ∃ b off cap, v = .slice (some ⟨b, off, none⟩) l.length cap ∧ l.length < 1099511627776 ∧ ∀ i x, l[i]? = some x → P w b (off + i * sz) x
theorem ListAt.below {α : Type} {P : World → Nat → Nat → α → Prop} {sz : Nat} {w w' : World} {v : Value} {l : List α} (hP : ∀ b o x, P w b o x → P w' b o x) (h : ListAt P sz w v l) : ListAt P sz w' v l := by
  rcases h with h | ⟨b, off, cap, h1, h2, h3⟩
  · exact .inl h
  · exact .inr ⟨b, off, cap, h1, h2, fun i x hx => hP _ _ _ (h3 i x hx)⟩
theorem ListAt.form {α : Type} {P : World → Nat → Nat → α → Prop} {sz : Nat} {w : World} {v : Value} {l : List α} (h : ListAt P sz w v l) : ∃ a n cap, v = .slice a n cap := by
  rcases h with ⟨rfl, _⟩ | ⟨b, off, cap, rfl, _⟩
  · exact ⟨_, _, _, rfl⟩
  · exact ⟨_, _, _, rfl⟩
/-- the cells of a component -/
def CompAt (w : World) (b o : Nat) (x : Cmp) : Prop :=
  (w.cell? ⟨b, o, none⟩ = some (.int .u8 x.k) ∧ w.cell? ⟨b, o + 1, none⟩ = some (.int .i64 x.a) ∧ w.cell? ⟨b, o + 2, none⟩ = some (.int .i64 x.b) ∧ w.cell? ⟨b, o + 3, none⟩ = some (.int .i64 x.c) ∧ w.cell? ⟨b, o + 4, none⟩ = some (.int .i64 x.d)) ∧ 0 ≤ x.k ∧ x.k ≤ 255
theorem CompAt.below {w w' : World} (hb : Below w.heap.size w w') (b o : Nat) (x : Cmp) (h : CompAt w b o x) : CompAt w' b o x :=
  ⟨⟨cell_later hb h.1.1, cell_later hb h.1.2.1, cell_later hb h.1.2.2.1, cell_later hb h.1.2.2.2.1, cell_later hb h.1.2.2.2.2⟩, h.2⟩
def CompsAt : World → Value → List Cmp → Prop := ListAt CompAt 5
theorem CompsAt.below {w w' : World} {v : Value} {l : List Cmp} (h : CompsAt w v l) (hb : Below w.heap.size w w') : CompsAt w' v l := ListAt.below (CompAt.below hb) h
/-- the cells of an entity -/
def EntAt (w : World) (b o : Nat) (e : Ent) : Prop := w.cell? ⟨b, o, none⟩ = some (.int .i64 e.id) ∧ ∃ a n cap, w.cell? ⟨b, o + 1, none⟩ = some (.slice a n cap) ∧ CompsAt w (.slice a n cap) e.cs
theorem EntAt.below {w w' : World} (hb : Below w.heap.size w w') (b o : Nat) (x : Ent) (h : EntAt w b o x) : EntAt w' b o x := by
  obtain ⟨h1, a, n, cap, h2, h3⟩ := h
  exact ⟨cell_later hb h1, a, n, cap, cell_later hb h2, h3.below hb⟩
def EntsAt : World → Value → List Ent → Prop := ListAt EntAt 2
theorem EntsAt.below {w w' : World} {v : Value} {l : List Ent} (h : EntsAt w v l) (hb : Below w.heap.size w w') : EntsAt w' v l := ListAt.below (EntAt.below hb) h
/-- the cells of a world -/
def WldAt (w : World) (b o : Nat) (W : Wld) : Prop := w.cell? ⟨b, o, none⟩ = some (.int .i64 W.t) ∧ ∃ a n cap, w.cell? ⟨b, o + 1, none⟩ = some (.slice a n cap) ∧ EntsAt w (.slice a n cap) W.es
theorem WldAt.below {w w' : World} (hb : Below w.heap.size w w') (b o : Nat) (x : Wld) (h : WldAt w b o x) : WldAt w' b o x := by
  obtain ⟨h1, a, n, cap, h2, h3⟩ := h
  exact ⟨cell_later hb h1, a, n, cap, cell_later hb h2, h3.below hb⟩
def HistAt : World → Value → List Wld → Prop := ListAt WldAt 2
theorem HistAt.below {w w' : World} {v : Value} {l : List Wld} (h : HistAt w v l) (hb : Below w.heap.size w w') : HistAt w' v l := ListAt.below (WldAt.below hb) h

theorem kindOf_any (x : Cmp) (w : World) : Calls Tryd.prog 52 #[C x] w fun e w' => e = .returned (.int .u8 x.k) ∧ Below w.heap.size w w' := by
  go_enter Tryd.func52, Tryd.ntmps52
  go_wp2
  go_returns
  exact ⟨rfl, by go_grown⟩
theorem idOf_any (i : Int) (a : Option Addr) (n c : Nat) (w : World) : Calls Tryd.prog 38 #[.agg #[.int .i64 i, .slice a n c]] w fun e w' => e = .returned (.int .i64 i) ∧ Below w.heap.size w w' := by
  go_enter Tryd.func38, Tryd.ntmps38
  go_wp2
  go_returns
  exact ⟨rfl, by go_grown⟩
theorem at_lt {α : Type} {l : List α} {i : Nat} (h : i < l.length) : ∃ x, l[i]? = some x := ⟨l[i], List.getElem?_eq_getElem h⟩
theorem rises_no {l : List Int} {i : Nat} {a b : Int} (h : i + 1 < l.length) (hk : l.getD i 0 = a ∧ l.getD (i + 1) 0 = b) (hab : b ≤ a) : decide (Rises l) = false := by
  rw [decide_eq_false_iff_not]
  intro hr
  have := hr i (by omega)
  omega
theorem rises_yes {l : List Int} {j : Nat} (hj : l.length ≤ j + 1) (h : ∀ i, i < j → l.getD i 0 < l.getD (i + 1) 0) : decide (Rises l) = true := by
  rw [decide_eq_true_iff]
  exact fun i hi => h i (by omega)
/-- the first element of which p holds; -1, if there is none -/
def firstOf {α : Type} (p : α → Bool) (l : List α) : Int := if l.any p = true then ((l.findIdx p : Nat) : Int) else -1
theorem firstOf_yes {α : Type} {p : α → Bool} {l : List α} {j : Nat} {x : α} (hx : l[j]? = some x) (hp : p x = true) (h : ∀ i y, i < j → l[i]? = some y → p y = false) : firstOf p l = j := by
  obtain ⟨hj, rfl⟩ := List.getElem?_eq_some_iff.1 hx
  have h1 : l.any p = true := List.any_eq_true.2 ⟨_, List.getElem_mem hj, hp⟩
  have h2 : l.findIdx p = j := (List.findIdx_eq hj).2 ⟨hp, fun i hi => h i _ hi (List.getElem?_eq_getElem _)⟩
  unfold firstOf
  rw [if_pos h1, h2]
theorem firstOf_no {α : Type} {p : α → Bool} {l : List α} (h : ∀ (i : Nat) (y : α), l[i]? = some y → p y = false) : firstOf p l = -1 := by
  unfold firstOf
  rw [if_neg]
  intro h1
  obtain ⟨x, hx, hp⟩ := List.any_eq_true.1 h1
  obtain ⟨i, hi⟩ := List.mem_iff_getElem?.1 hx
  rw [h i x hi] at hp; cases hp
theorem firstOf_iff {α : Type} (p : α → Bool) (l : List α) : 0 ≤ firstOf p l ↔ l.any p = true := by
  unfold firstOf
  split
  · rename_i h; exact ⟨fun _ => h, fun _ => by omega⟩
  · rename_i h; exact ⟨fun h' => by omega, fun h' => absurd h' h⟩
theorem ret_i64 {a b : Int} (h : a = b) : Ending.returned (.int .i64 a) = .returned (.int .i64 b) := by rw [h]
set_option maxHeartbeats 4000000 in
theorem risingComp_any (l : List Cmp) (v : Value) (w : World) (h : CompsAt w v l) :
    Calls Tryd.prog 54 #[v, .func (.func 52) #[] #[]] w fun e w' => e = .returned (.bool (decide (Rises (l.map Cmp.k)))) ∧ Below w.heap.size w w' := by
  rcases h with ⟨rfl, rfl⟩ | ⟨b, off, cap, rfl, hl, hc⟩
  · go_enter Tryd.func54, Tryd.ntmps54
    go_wp2
    refine wp_loop_rounds 1 ?_
    rw [rounds_succ]
    go_wp2
    go_returns
    exact ⟨ret_bool (by decide), by go_grown⟩
  · obtain ⟨n, hn⟩ : ∃ n, l.length = n := ⟨_, rfl⟩
    have HN := Lib.hid hn
    rw [hn] at hl ⊢
    clear hn
    go_enter Tryd.func54, Tryd.ntmps54
    go_wp2
    go_loopw [5] (fun v5 wr => ∃ j : Nat, (j + 1 ≤ n ∨ j = 0) ∧ v5 = .int .i64 ((j : Int) + 1) ∧ Hid (∀ i, i < j → (l.map Cmp.k).getD i 0 < (l.map Cmp.k).getD (i + 1) 0) ∧ Below w.heap.size w wr) (fun v5 _ => n + 1 - (intOf v5).toNat)
    case atStart => exact ⟨0, .inr rfl, rfl, Lib.hid (fun i hi => absurd hi (by omega)), by go_grown⟩
    case round =>
      obtain ⟨j, hj, rfl, HJ, hb⟩ := hrel
      by_cases hlt : j + 1 < n
      · obtain ⟨x, hx⟩ := at_lt (l := l) (i := j) (by rw [HN.out]; omega)
        obtain ⟨y, hy⟩ := at_lt (l := l) (i := j + 1) (by rw [HN.out]; omega)
        obtain ⟨⟨x0, x1, x2, x3, x4⟩, xk⟩ := hc j x hx
        obtain ⟨⟨y0, y1, y2, y3, y4⟩, yk⟩ := hc (j + 1) y hy
        have HK := Lib.hid (And.intro (map_at Cmp.k hx) (map_at Cmp.k hy))
        clear hx hy
        replace x0 := cell_regrown (cell_later hb x0)
        replace x1 := cell_regrown (cell_later hb x1)
        replace x2 := cell_regrown (cell_later hb x2)
        replace x3 := cell_regrown (cell_later hb x3)
        replace x4 := cell_regrown (cell_later hb x4)
        replace y0 := cell_regrown (cell_later hb y0)
        replace y1 := cell_regrown (cell_later hb y1)
        replace y2 := cell_regrown (cell_later hb y2)
        replace y3 := cell_regrown (cell_later hb y3)
        replace y4 := cell_regrown (cell_later hb y4)
        go_wp2
        have e1 : IntKind.i64.wrap (j : Int) = (j : Int) := by rw [IntKind.wrap_i64]; omega
        have e2 : (j : Int) < n := by omega
        have e3 : (j : Int) + 1 < n := by omega
        have e4 : ((j : Int) + 1).toNat = j + 1 := by omega
        have e5 : (0 : Int) ≤ (j : Int) + 1 := by omega
        refine wp_region_low 13 (by kernel_rfl) (by kernel_rfl) ?_
        simp only [List.take, List.drop]
        iterate 13 (refine low_step (fun K hK => ?_); go_simp; first | (refine hK _ ?_; clear hK K) | (apply Exists.intro; refine ⟨fun p => ?_, hK _ ?_⟩; (first | with_reducible exact kindOf_any _ _); clear hK K))
        refine low_nil ?_
        intro W1 hC
        have hb1 := hC.1
        obtain ⟨hb', hs'⟩ := below_c (w := w) hb1 hb
        clear x0 x1 x2 x3 x4 y0 y1 y2 y3 y4 hC hb1 hb
        by_cases hle : Cmp.k y ≤ Cmp.k x
        · go_wp2
          go_returns
          exact ⟨ret_bool (rises_no (by rw [List.length_map, HN.out]; exact hlt) HK.out hle).symm, hb'⟩
        · go_wp2
          go_roundw
          case rel => exact ⟨j + 1, by omega, by go_num, Lib.hid (fun i hi => by
            rcases Nat.lt_succ_iff_lt_or_eq.1 hi with h | h
            · exact HJ.out i h
            · rw [h, HK.out.1, HK.out.2]; omega), hb'⟩
          case measure => simp [intOf]; omega
      · go_wp2
        go_returns
        exact ⟨ret_bool (rises_yes (by rw [List.length_map, HN.out]; omega) HJ.out).symm, hb⟩
set_option maxHeartbeats 4000000 in
theorem risingEntity_any (l : List Ent) (v : Value) (w : World) (h : EntsAt w v l) :
    Calls Tryd.prog 37 #[v, .func (.func 38) #[] #[]] w fun e w' => e = .returned (.bool (decide (Rises (l.map Ent.id)))) ∧ Below w.heap.size w w' := by
  rcases h with ⟨rfl, rfl⟩ | ⟨b, off, cap, rfl, hl, hc⟩
  · go_enter Tryd.func37, Tryd.ntmps37
    go_wp2
    refine wp_loop_rounds 1 ?_
    rw [rounds_succ]
    go_wp2
    go_returns
    exact ⟨ret_bool (by decide), by go_grown⟩
  · obtain ⟨n, hn⟩ : ∃ n, l.length = n := ⟨_, rfl⟩
    have HN := Lib.hid hn
    rw [hn] at hl ⊢
    clear hn
    go_enter Tryd.func37, Tryd.ntmps37
    go_wp2
    go_loopw [5] (fun v5 wr => ∃ j : Nat, (j + 1 ≤ n ∨ j = 0) ∧ v5 = .int .i64 ((j : Int) + 1) ∧ Hid (∀ i, i < j → (l.map Ent.id).getD i 0 < (l.map Ent.id).getD (i + 1) 0) ∧ Below w.heap.size w wr) (fun v5 _ => n + 1 - (intOf v5).toNat)
    case atStart => exact ⟨0, .inr rfl, rfl, Lib.hid (fun i hi => absurd hi (by omega)), by go_grown⟩
    case round =>
      obtain ⟨j, hj, rfl, HJ, hb⟩ := hrel
      by_cases hlt : j + 1 < n
      · obtain ⟨x, hx⟩ := at_lt (l := l) (i := j) (by rw [HN.out]; omega)
        obtain ⟨y, hy⟩ := at_lt (l := l) (i := j + 1) (by rw [HN.out]; omega)
        obtain ⟨x0, xa, xn, xc, x1, xh⟩ := hc j x hx
        obtain ⟨y0, ya, yn, yc, y1, yh⟩ := hc (j + 1) y hy
        have HK := Lib.hid (And.intro (map_at Ent.id hx) (map_at Ent.id hy))
        clear hx hy
        replace x0 := cell_regrown (cell_later hb x0)
        replace x1 := cell_regrown (cell_later hb x1)
        replace y0 := cell_regrown (cell_later hb y0)
        replace y1 := cell_regrown (cell_later hb y1)
        go_wp2
        have e1 : IntKind.i64.wrap (j : Int) = (j : Int) := by rw [IntKind.wrap_i64]; omega
        have e2 : (j : Int) < n := by omega
        have e3 : (j : Int) + 1 < n := by omega
        have e4 : ((j : Int) + 1).toNat = j + 1 := by omega
        have e5 : (0 : Int) ≤ (j : Int) + 1 := by omega
        refine wp_region_low 13 (by kernel_rfl) (by kernel_rfl) ?_
        simp only [List.take, List.drop]
        iterate 13 (refine low_step (fun K hK => ?_); go_simp; first | (refine hK _ ?_; clear hK K) | (apply Exists.intro; refine ⟨fun p => ?_, hK _ ?_⟩; (first | with_reducible exact idOf_any _ _ _ _ _); clear hK K))
        refine low_nil ?_
        intro W1 hC
        have hb1 := hC.1
        obtain ⟨hb', hs'⟩ := below_c (w := w) hb1 hb
        clear x0 x1 y0 y1 hC hb1 hb
        by_cases hle : Ent.id y ≤ Ent.id x
        · go_wp2
          go_returns
          exact ⟨ret_bool (rises_no (by rw [List.length_map, HN.out]; exact hlt) HK.out hle).symm, hb'⟩
        · go_wp2
          go_roundw
          case rel => exact ⟨j + 1, by omega, by go_num, Lib.hid (fun i hi => by
            rcases Nat.lt_succ_iff_lt_or_eq.1 hi with h | h
            · exact HJ.out i h
            · rw [h, HK.out.1, HK.out.2]; omega), hb'⟩
          case measure => simp [intOf]; omega
      · go_wp2
        go_returns
        exact ⟨ret_bool (rises_yes (by rw [List.length_map, HN.out]; omega) HJ.out).symm, hb⟩
theorem unfit_any (x : Cmp) (w : World) (hR : RG w) (k0 : 0 ≤ x.k ∧ x.k ≤ 255) :
    Calls Tryd.prog 56 #[C x] w fun e w' => e = .returned (.bool (!fits x)) ∧ Below w.heap.size w w' := by
  have hb0 := (Below.refl w.heap.size w).alloc (Nat.le_refl _) (.cells #[.int .u8 x.k, .int .i64 x.a, .int .i64 x.b, .int .i64 x.c, .int .i64 x.d] 67)
  go_enter Tryd.func56, Tryd.ntmps56
  go_wp2_with fail
  with_reducible refine (fits_any x _ (hR.below hb0) k0.1 k0.2).mono ?_
  rintro e w1 ⟨rfl, hb⟩
  obtain ⟨hg1, hs1⟩ := below_c (w := w) hb hb0
  go_wp2
  go_returns
  exact ⟨rfl, hg1⟩
set_option maxHeartbeats 4000000 in
theorem indexComp_any (l : List Cmp) (v : Value) (w : World) (h : CompsAt w v l) (hR : RG w) :
    Calls Tryd.prog 68 #[v, .func (.func 56) #[] #[]] w fun e w' => e = .returned (.int .i64 (firstOf (fun x => !fits x) l)) ∧ Below w.heap.size w w' := by
  rcases h with ⟨rfl, rfl⟩ | ⟨b, off, cap, rfl, hl, hc⟩
  · go_enter Tryd.func68, Tryd.ntmps68
    go_wp2
    refine wp_loop_rounds 1 ?_
    rw [rounds_succ]
    go_wp2
    go_returns
    exact ⟨rfl, by go_grown⟩
  · obtain ⟨n, hn⟩ : ∃ n, l.length = n := ⟨_, rfl⟩
    have HN := Lib.hid hn
    rw [hn] at hl ⊢
    clear hn
    go_enter Tryd.func68, Tryd.ntmps68
    go_wp2
    go_loopw [8] (fun v8 wr => ∃ j : Nat, j ≤ n ∧ v8 = .int .i64 j ∧ Hid (∀ i x, i < j → l[i]? = some x → (fun x => !fits x) x = false) ∧ Below w.heap.size w wr) (fun v8 _ => n - (intOf v8).toNat)
    case atStart => exact ⟨0, by omega, rfl, Lib.hid (fun i x hi => absurd hi (by omega)), by go_grown⟩
    case round =>
      obtain ⟨j, hj, rfl, HJ, hb⟩ := hrel
      by_cases hlt : j < n
      · obtain ⟨x, hx⟩ := at_lt (l := l) (i := j) (by rw [HN.out]; omega)
        have hP := hc j x hx
        obtain ⟨⟨x0, x1, x2, x3, x4⟩, xk⟩ := hP
        have HX := Lib.hid (And.intro hx (hc j x hx))
        clear hx
        replace x0 := cell_later hb x0
        replace x1 := cell_later hb x1
        replace x2 := cell_later hb x2
        replace x3 := cell_later hb x3
        replace x4 := cell_later hb x4
        go_wp2_with fail
        with_reducible refine (unfit_any x _ (hR.below hb) xk).mono ?_
        rintro e W1 ⟨rfl, hb1⟩
        obtain ⟨hb', hs'⟩ := below_c (w := w) hb1 hb
        clear x0 x1 x2 x3 x4 hb1 hb
        by_cases hbad : (fun x => !fits x) x = true
        · have HB := Lib.hid hbad
          simp only at hbad
          go_wp2
          go_returns
          exact ⟨ret_i64 (firstOf_yes HX.out.1 HB.out HJ.out).symm, hb'⟩
        · have hbad : (fun x => !fits x) x = false := by simpa using hbad
          have HB := Lib.hid hbad
          simp only at hbad
          go_wp2
          go_roundw
          case rel => exact ⟨j + 1, by omega, by go_num, Lib.hid (fun i y hi hy => by
            rcases Nat.lt_succ_iff_lt_or_eq.1 hi with h | h
            · exact HJ.out i y h hy
            · subst h
              rw [HX.out.1] at hy
              cases hy
              exact HB.out), hb'⟩
          case measure => simp [intOf]; omega
      · go_wp2
        go_returns
        exact ⟨ret_i64 (firstOf_no (fun i x hx => HJ.out i x (by have := (List.getElem?_eq_some_iff.1 hx).1; have := HN.out; omega) hx)).symm, hb⟩
theorem containsComp_any (l : List Cmp) (v : Value) (w : World) (h : CompsAt w v l) (hR : RG w) :
    Calls Tryd.prog 55 #[v, .func (.func 56) #[] #[]] w fun e w' => e = .returned (.bool (l.any (fun x => !fits x))) ∧ Below w.heap.size w w' := by
  obtain ⟨z, hz⟩ : ∃ z, firstOf (fun x => !fits x) l = z := ⟨_, rfl⟩
  have HZ := Lib.hid (show (0 ≤ z ↔ l.any (fun x => !fits x) = true) by rw [← hz]; exact firstOf_iff _ _)
  go_enter Tryd.func55, Tryd.ntmps55
  go_wp2_with fail
  with_reducible refine (indexComp_any l _ _ h hR).mono ?_
  rw [hz]
  clear hz
  rintro e W1 ⟨rfl, hb⟩
  go_wp2
  go_returns
  exact ⟨ret_bool (by rw [Bool.eq_iff_iff, ← HZ.out]; simp), hb⟩
theorem not_any {α : Type} (l : List α) (p : α → Bool) (q : α → Prop) [DecidablePred q] (h : ∀ x, p x = !decide (q x)) : (!l.any p) = decide (∀ x ∈ l, q x) := by
  rw [Bool.eq_iff_iff]
  simp only [Bool.not_eq_true', decide_eq_true_eq]
  constructor
  · intro h1 x hx
    have := List.any_eq_false.1 h1 x hx
    rw [h] at this
    simpa using this
  · intro h1
    rw [List.any_eq_false]
    intro x hx
    rw [h]
    simpa using h1 x hx
theorem right_eq (e : Ent) : decide (Right e) = (decide (1 ≤ e.id) && decide (e.id ≤ 65536) && decide (Rises (e.cs.map Cmp.k)) && !e.cs.any (fun x => !fits x)) := by
  rw [not_any e.cs (fun x => !fits x) (fun x => fits x = true) (fun x => by simp)]
  unfold Right
  simp [and_assoc, Bool.and_assoc]
theorem ListAt.len {α : Type} {P : World → Nat → Nat → α → Prop} {sz : Nat} {w : World} {a : Option Addr} {n cap : Nat} {l : List α} (h : ListAt P sz w (.slice a n cap) l) : n = l.length := by
  rcases h with ⟨h, rfl⟩ | ⟨b, off, c, h, _⟩
  · injection h with _ h _
  · injection h with _ h _
set_option maxHeartbeats 4000000 in
theorem right_any (e : Ent) (a : Option Addr) (n c : Nat) (w : World) (hR : RG w) (h : CompsAt w (.slice a n c) e.cs) :
    Calls Tryd.prog 41 #[.agg #[.int .i64 e.id, .slice a n c]] w fun e' w' => e' = .returned (.bool (decide (Right e))) ∧ Below w.heap.size w w' := by
  obtain ⟨id, cs⟩ := e
  simp only at h
  have hb0 := (Below.refl w.heap.size w).alloc (Nat.le_refl _) (.cells #[.int .i64 id, .slice a n c] 47)
  have HE := Lib.hid (right_eq ⟨id, cs⟩)
  by_cases h1 : 1 ≤ id
  · by_cases h2 : id ≤ 65536
    · obtain ⟨r, hr⟩ : ∃ r, decide (Rises (cs.map Cmp.k)) = r := ⟨_, rfl⟩
      obtain ⟨z, hz⟩ : ∃ z, cs.any (fun x => !fits x) = z := ⟨_, rfl⟩
      have HZ := Lib.hid (And.intro hr hz)
      clear hr hz
      go_enter Tryd.func41, Tryd.ntmps41
      go_wp2_with fail
      with_reducible refine (risingComp_any cs _ _ (h.below hb0)).mono ?_
      rw [HZ.out.1]
      rintro e w1 ⟨rfl, hb⟩
      have B1 := Bk.below (g := w.heap.size) (cs := #[.int .i64 id, .slice a n c]) (t := 47) (Bk.made _ _ _) hb
      have c1 := B1.cell (v := .slice a n c) 1 rfl
      obtain ⟨hg1, hs1⟩ := below_c (w := w) hb hb0
      have h' := h.below hg1
      have hR' := hR.below hg1
      clear hb hb0
      cases r
      · go_wp2
        go_returns
        exact ⟨ret_bool (by rw [HE.out, HZ.out.1]; simp), hg1⟩
      · go_wp2_with fail
        with_reducible refine (containsComp_any cs _ _ h' hR').mono ?_
        rw [HZ.out.2]
        rintro e w2 ⟨rfl, hb2⟩
        obtain ⟨hg2, hs2⟩ := below_c (w := w) hb2 hg1
        go_wp2
        go_returns
        exact ⟨ret_bool (by rw [HE.out, HZ.out.1, HZ.out.2]; simp [h1, h2]), hg2⟩
    · go_enter Tryd.func41, Tryd.ntmps41
      go_wp2
      go_returns
      exact ⟨ret_bool (by rw [HE.out]; simp; omega), by go_grown⟩
  · go_enter Tryd.func41, Tryd.ntmps41
    go_wp2
    go_returns
    exact ⟨ret_bool (by rw [HE.out]; simp; omega), by go_grown⟩
theorem wrong_any (e : Ent) (a : Option Addr) (n c : Nat) (w : World) (hR : RG w) (h : CompsAt w (.slice a n c) e.cs) :
    Calls Tryd.prog 40 #[.agg #[.int .i64 e.id, .slice a n c]] w fun e' w' => e' = .returned (.bool (!decide (Right e))) ∧ Below w.heap.size w w' := by
  have hb0 := (Below.refl w.heap.size w).alloc (Nat.le_refl _) (.cells #[.int .i64 e.id, .slice a n c] 47)
  go_enter Tryd.func40, Tryd.ntmps40
  go_wp2_with fail
  with_reducible refine (right_any e a n c _ (hR.below hb0) (h.below hb0)).mono ?_
  rintro e' w1 ⟨rfl, hb⟩
  obtain ⟨hg1, hs1⟩ := below_c (w := w) hb hb0
  go_wp2
  go_returns
  exact ⟨rfl, hg1⟩
set_option maxHeartbeats 4000000 in
theorem indexEntity_any (l : List Ent) (v : Value) (w : World) (h : EntsAt w v l) (hR : RG w) :
    Calls Tryd.prog 53 #[v, .func (.func 40) #[] #[]] w fun e w' => e = .returned (.int .i64 (firstOf (fun x => !decide (Right x)) l)) ∧ Below w.heap.size w w' := by
  rcases h with ⟨rfl, rfl⟩ | ⟨b, off, cap, rfl, hl, hc⟩
  · go_enter Tryd.func53, Tryd.ntmps53
    go_wp2
    refine wp_loop_rounds 1 ?_
    rw [rounds_succ]
    go_wp2
    go_returns
    exact ⟨rfl, by go_grown⟩
  · obtain ⟨n, hn⟩ : ∃ n, l.length = n := ⟨_, rfl⟩
    have HN := Lib.hid hn
    rw [hn] at hl ⊢
    clear hn
    go_enter Tryd.func53, Tryd.ntmps53
    go_wp2
    go_loopw [8] (fun v8 wr => ∃ j : Nat, j ≤ n ∧ v8 = .int .i64 j ∧ Hid (∀ i x, i < j → l[i]? = some x → (fun x => !decide (Right x)) x = false) ∧ Below w.heap.size w wr) (fun v8 _ => n - (intOf v8).toNat)
    case atStart => exact ⟨0, by omega, rfl, Lib.hid (fun i x hi => absurd hi (by omega)), by go_grown⟩
    case round =>
      obtain ⟨j, hj, rfl, HJ, hb⟩ := hrel
      by_cases hlt : j < n
      · obtain ⟨x, hx⟩ := at_lt (l := l) (i := j) (by rw [HN.out]; omega)
        have hP := hc j x hx
        obtain ⟨x0, xa, xn, xc, x1, xh⟩ := hP
        have HX := Lib.hid (And.intro hx (hc j x hx))
        clear hx
        replace x0 := cell_later hb x0
        replace x1 := cell_later hb x1
        go_wp2_with fail
        with_reducible refine (wrong_any x _ _ _ _ (hR.below hb) (xh.below hb)).mono ?_
        rintro e W1 ⟨rfl, hb1⟩
        obtain ⟨hb', hs'⟩ := below_c (w := w) hb1 hb
        clear x0 x1 hb1 hb
        by_cases hbad : (fun x => !decide (Right x)) x = true
        · have HB := Lib.hid hbad
          simp only at hbad
          go_wp2
          go_returns
          exact ⟨ret_i64 (firstOf_yes HX.out.1 HB.out HJ.out).symm, hb'⟩
        · have hbad : (fun x => !decide (Right x)) x = false := by simpa using hbad
          have HB := Lib.hid hbad
          simp only at hbad
          go_wp2
          go_roundw
          case rel => exact ⟨j + 1, by omega, by go_num, Lib.hid (fun i y hi hy => by
            rcases Nat.lt_succ_iff_lt_or_eq.1 hi with h | h
            · exact HJ.out i y h hy
            · subst h
              rw [HX.out.1] at hy
              cases hy
              exact HB.out), hb'⟩
          case measure => simp [intOf]; omega
      · go_wp2
        go_returns
        exact ⟨ret_i64 (firstOf_no (fun i x hx => HJ.out i x (by have := (List.getElem?_eq_some_iff.1 hx).1; have := HN.out; omega) hx)).symm, hb⟩
theorem containsEntity_any (l : List Ent) (v : Value) (w : World) (h : EntsAt w v l) (hR : RG w) :
    Calls Tryd.prog 39 #[v, .func (.func 40) #[] #[]] w fun e w' => e = .returned (.bool (l.any (fun x => !decide (Right x)))) ∧ Below w.heap.size w w' := by
  obtain ⟨z, hz⟩ : ∃ z, firstOf (fun x => !decide (Right x)) l = z := ⟨_, rfl⟩
  have HZ := Lib.hid (show (0 ≤ z ↔ l.any (fun x => !decide (Right x)) = true) by rw [← hz]; exact firstOf_iff _ _)
  go_enter Tryd.func39, Tryd.ntmps39
  go_wp2_with fail
  with_reducible refine (indexEntity_any l _ _ h hR).mono ?_
  rw [hz]
  clear hz
  rintro e W1 ⟨rfl, hb⟩
  go_wp2
  go_returns
  exact ⟨ret_bool (by rw [Bool.eq_iff_iff, ← HZ.out]; simp), hb⟩
theorem valid_eq (W : Wld) : decide (Valid W) = (decide (0 ≤ W.t) && decide (W.t ≤ 1073741824) && decide (W.es.length ≤ 64) && decide (Rises (W.es.map Ent.id)) && !W.es.any (fun x => !decide (Right x))) := by
  rw [not_any W.es (fun x => !decide (Right x)) Right (fun x => rfl)]
  unfold Valid
  simp [and_assoc, Bool.and_assoc]
set_option maxHeartbeats 4000000 in
theorem valid_any (W : Wld) (a : Option Addr) (n c : Nat) (w : World) (hR : RG w) (h : EntsAt w (.slice a n c) W.es) :
    Calls Tryd.prog 22 #[.agg #[.int .i64 W.t, .slice a n c]] w fun e' w' => e' = .returned (.bool (decide (Valid W))) ∧ Below w.heap.size w w' := by
  obtain ⟨t, es⟩ := W
  simp only at h
  have hb0 := (Below.refl w.heap.size w).alloc (Nat.le_refl _) (.cells #[.int .i64 t, .slice a n c] 27)
  have HE := Lib.hid (valid_eq ⟨t, es⟩)
  have HL := Lib.hid (show n = es.length from h.len)
  by_cases h1 : 0 ≤ t
  · by_cases h2 : t ≤ 1073741824
    · by_cases h3 : n ≤ 64
      · obtain ⟨r, hr⟩ : ∃ r, decide (Rises (es.map Ent.id)) = r := ⟨_, rfl⟩
        obtain ⟨z, hz⟩ : ∃ z, es.any (fun x => !decide (Right x)) = z := ⟨_, rfl⟩
        have HZ := Lib.hid (And.intro hr hz)
        clear hr hz
        go_enter Tryd.func22, Tryd.ntmps22
        go_wp2_with fail
        with_reducible refine (risingEntity_any es _ _ (h.below hb0)).mono ?_
        rw [HZ.out.1]
        rintro e w1 ⟨rfl, hb⟩
        have B1 := Bk.below (g := w.heap.size) (cs := #[.int .i64 t, .slice a n c]) (t := 27) (Bk.made _ _ _) hb
        have c1 := B1.cell (v := .slice a n c) 1 rfl
        obtain ⟨hg1, hs1⟩ := below_c (w := w) hb hb0
        have h' := h.below hg1
        have hR' := hR.below hg1
        clear hb hb0
        cases r
        · go_wp2
          go_returns
          exact ⟨ret_bool (by rw [HE.out, HZ.out.1]; simp), hg1⟩
        · go_wp2_with fail
          with_reducible refine (containsEntity_any es _ _ h' hR').mono ?_
          rw [HZ.out.2]
          rintro e w2 ⟨rfl, hb2⟩
          obtain ⟨hg2, hs2⟩ := below_c (w := w) hb2 hg1
          go_wp2
          go_returns
          exact ⟨ret_bool (by rw [HE.out, HZ.out.1, HZ.out.2, ← HL.out]; simp [h1, h2, h3]), hg2⟩
      · go_enter Tryd.func22, Tryd.ntmps22
        go_wp2
        go_returns
        exact ⟨ret_bool (by rw [HE.out, ← HL.out]; simp [h3]), by go_grown⟩
    · go_enter Tryd.func22, Tryd.ntmps22
      go_wp2
      go_returns
      exact ⟨ret_bool (by rw [HE.out]; simp; omega), by go_grown⟩
  · go_enter Tryd.func22, Tryd.ntmps22
    go_wp2
    go_returns
    exact ⟨ret_bool (by rw [HE.out]; simp; omega), by go_grown⟩
end Go.Proofs.YtjjodmkblpdnhaaDoor
