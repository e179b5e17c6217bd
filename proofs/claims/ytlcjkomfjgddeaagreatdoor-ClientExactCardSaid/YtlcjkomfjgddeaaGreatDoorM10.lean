/- Binary searches; store.find, store.Get. store.find, store.Get. -/
import Derived.Test.YtlcjkomfjgddeaaGreatDoorM09
set_option linter.unusedVariables false
set_option linter.unusedSimpArgs false
namespace Go.Proofs.YtlcjkomfjgddeaaGreatDoor
open Go Go.RowKit Go.Sort
set_option maxRecDepth 100000
attribute [local go_sem] opLow opUpon opLow2 opUpon2

/-- cmp.Compare -/
def cmpI (a b : Int) : Int := if a < b then -1 else if b < a then 1 else 0
/-- the first place at which f is not negative -/
def lowerOf {α : Type} (f : α → Int) (l : List α) : Nat := l.findIdx (fun x => decide (0 ≤ f x))
def hitOf {α : Type} (f : α → Int) (l : List α) : Option α := (l[lowerOf f l]?).filter (fun x => decide (f x = 0))
def Mono {α : Type} (f : α → Int) (l : List α) : Prop := ∀ (a b : Nat) (x y : α), a ≤ b → l[a]? = some x → l[b]? = some y → f y < 0 → f x < 0
theorem lowerOf_is {α : Type} {f : α → Int} {l : List α} {i : Nat} (hi : i ≤ l.length) (h1 : ∀ (z : Nat) (x : α), z < i → l[z]? = some x → f x < 0) (h2 : ∀ (z : Nat) (x : α), i ≤ z → l[z]? = some x → 0 ≤ f x) : lowerOf f l = i := by
  unfold lowerOf
  rcases Nat.lt_or_ge i l.length with h | h
  · refine (List.findIdx_eq h).2 ⟨by simpa using h2 i l[i] (Nat.le_refl _) (List.getElem?_eq_getElem h), fun z hz => ?_⟩
    have := h1 z l[z] hz (List.getElem?_eq_getElem _)
    simp; omega
  · have e : i = l.length := Nat.le_antisymm hi h
    subst e
    rw [List.findIdx_eq_length]
    intro x hx
    obtain ⟨z, hz⟩ := List.mem_iff_getElem?.1 hx
    have := h1 z x (List.getElem?_eq_some_iff.1 hz).1 hz
    simp; omega
theorem hit_yes {α : Type} {f : α → Int} {l : List α} {i : Nat} {x : α} (hi : lowerOf f l = i) (hx : l[i]? = some x) : (hitOf f l).isSome = decide (f x = 0) := by
  unfold hitOf
  rw [hi, hx]
  by_cases h : f x = 0 <;> simp [Option.filter, h]
theorem hit_none {α : Type} {f : α → Int} {l : List α} (hi : lowerOf f l = l.length) : (hitOf f l).isSome = false := by
  unfold hitOf
  rw [hi, List.getElem?_eq_none (Nat.le_refl _)]; rfl
theorem ret_hit {a : Int} {b : Bool} {a' : Int} {b' : Bool} (h1 : a = a') (h2 : b = b') : Ending.returned (.tuple #[.int .i64 a, .bool b]) = .returned (.tuple #[.int .i64 a', .bool b']) := by rw [h1, h2]
theorem nan_uint8 (a : Int) (w : World) : Calls Tryz.prog 106 #[.int .u8 a] w fun e w' => e = .returned (.bool false) ∧ Below w.heap.size w w' := by
  go_enter Tryz.func106, Tryz.ntmps106
  go_wp2
  go_returns
  exact ⟨ret_bool (by simp), by go_grown⟩
theorem compare_uint8 (a b : Int) (w : World) : Calls Tryz.prog 71 #[.int .u8 a, .int .u8 b] w fun e w' => e = .returned (.int .i64 (cmpI a b)) ∧ Below w.heap.size w w' := by
  rcases (by omega : a < b ∨ b < a ∨ a = b) with h | h | h
  all_goals
    go_enter Tryz.func71, Tryz.ntmps71
    go_wp2_with fail
    with_reducible refine (nan_uint8 _ _).mono ?_
    rintro e w1 ⟨rfl, hb⟩
    go_wp2_with fail
    with_reducible refine (nan_uint8 _ _).mono ?_
    rintro e w2 ⟨rfl, hb2⟩
    obtain ⟨hg2, hs2⟩ := below_c (w := w) hb2 hb
    go_wp2
    go_returns
    exact ⟨ret_i64 (by unfold cmpI; (repeat' split) <;> omega), hg2⟩
theorem nan_int (a : Int) (w : World) : Calls Tryz.prog 128 #[.int .i64 a] w fun e w' => e = .returned (.bool false) ∧ Below w.heap.size w w' := by
  go_enter Tryz.func128, Tryz.ntmps128
  go_wp2
  go_returns
  exact ⟨ret_bool (by simp), by go_grown⟩
theorem compare_int (a b : Int) (w : World) : Calls Tryz.prog 105 #[.int .i64 a, .int .i64 b] w fun e w' => e = .returned (.int .i64 (cmpI a b)) ∧ Below w.heap.size w w' := by
  rcases (by omega : a < b ∨ b < a ∨ a = b) with h | h | h
  all_goals
    go_enter Tryz.func105, Tryz.ntmps105
    go_wp2_with fail
    with_reducible refine (nan_int _ _).mono ?_
    rintro e w1 ⟨rfl, hb⟩
    go_wp2_with fail
    with_reducible refine (nan_int _ _).mono ?_
    rintro e w2 ⟨rfl, hb2⟩
    obtain ⟨hg2, hs2⟩ := below_c (w := w) hb2 hb
    go_wp2
    go_returns
    exact ⟨ret_i64 (by unfold cmpI; (repeat' split) <;> omega), hg2⟩
theorem place1Comp_any (x : Cmp) (k : Int) (g : Nat) (w : World) (hp : w.cell? ⟨g, 0, none⟩ = some (.func (.func 49) #[] #[])) :
    Calls Tryz.prog 70 #[C x, .int .u8 k, .pointer (some ⟨g, 0, none⟩)] w fun e w' => e = .returned (.int .i64 (cmpI x.k k)) ∧ Below w.heap.size w w' := by
  have hb0 := (Below.refl w.heap.size w).alloc (Nat.le_refl _) (.cells #[.int .u8 x.k, .int .i64 x.a, .int .i64 x.b, .int .i64 x.c, .int .i64 x.d] 48)
  have lt := World.block_lt_of_cell? w _ hp
  simp only at lt
  go_enter Tryz.func70, Tryz.ntmps70
  go_wp2_with fail
  with_reducible refine (kindOf_any _ _).mono ?_
  rintro e w1 ⟨rfl, hb⟩
  obtain ⟨hg1, hs1⟩ := below_c (w := w) hb hb0
  go_wp2_with fail
  with_reducible refine (compare_uint8 _ _ _).mono ?_
  rintro e w2 ⟨rfl, hb2⟩
  obtain ⟨hg2, hs2⟩ := below_c (w := w) hb2 hg1
  go_wp2
  go_returns
  exact ⟨rfl, hg2⟩
theorem place1Entity_any (i : Int) (a : Option Addr) (n c : Nat) (k : Int) (g : Nat) (w : World) (hp : w.cell? ⟨g, 0, none⟩ = some (.func (.func 51) #[] #[])) :
    Calls Tryz.prog 104 #[.agg #[.int .i64 i, .slice a n c], .int .i64 k, .pointer (some ⟨g, 0, none⟩)] w fun e w' => e = .returned (.int .i64 (cmpI i k)) ∧ Below w.heap.size w w' := by
  have hb0 := (Below.refl w.heap.size w).alloc (Nat.le_refl _) (.cells #[.int .i64 i, .slice a n c] 43)
  have lt := World.block_lt_of_cell? w _ hp
  simp only at lt
  go_enter Tryz.func104, Tryz.ntmps104
  go_wp2_with fail
  with_reducible refine (idOf_any _ _ _ _ _).mono ?_
  rintro e w1 ⟨rfl, hb⟩
  obtain ⟨hg1, hs1⟩ := below_c (w := w) hb hb0
  go_wp2_with fail
  with_reducible refine (compare_int _ _ _).mono ?_
  rintro e w2 ⟨rfl, hb2⟩
  obtain ⟨hg2, hs2⟩ := below_c (w := w) hb2 hg1
  go_wp2
  go_returns
  exact ⟨rfl, hg2⟩
set_option maxHeartbeats 8000000 in
theorem bsearchComp_any (l : List Cmp) (v : Value) (k : Int) (w : World) (h : CompsAt w v l) (hm : Mono (fun (x : Cmp) => cmpI x.k k) l) (g : Nat) (hp : w.cell? ⟨g, 0, none⟩ = some (.func (.func 49) #[] #[])) :
    Calls Tryz.prog 69 #[v, .int .u8 k, .func (.func 70) #[] #[.pointer (some ⟨g, 0, none⟩)]] w fun e w' => e = .returned (.tuple #[.int .i64 (lowerOf (fun (x : Cmp) => cmpI x.k k) l : Nat), .bool (hitOf (fun (x : Cmp) => cmpI x.k k) l).isSome]) ∧ Below w.heap.size w w' := by
  rcases h with ⟨⟨a0, rfl⟩, rfl⟩ | ⟨b, off, cap, rfl, hl, hc⟩
  · go_enter Tryz.func69, Tryz.ntmps69
    go_wp2
    refine wp_loop_rounds 1 ?_
    rw [rounds_succ]
    go_wp2
    go_returns
    exact ⟨rfl, by go_grown⟩
  · obtain ⟨n, hn⟩ : ∃ n, l.length = n := ⟨_, rfl⟩
    have HN := Lib.hid hn
    rw [hn] at hl ⊢
    clear hn
    go_enter Tryz.func69, Tryz.ntmps69
    go_wp2
    go_loopw [9, 10] (fun v9 v10 wr => ∃ i j : Nat, v9 = .int .i64 i ∧ v10 = .int .i64 j ∧ i ≤ j ∧ j ≤ n ∧ Hid ((∀ (z : Nat) (x : Cmp), z < i → l[z]? = some x → cmpI x.k k < 0) ∧ (∀ (z : Nat) (x : Cmp), j ≤ z → l[z]? = some x → 0 ≤ cmpI x.k k)) ∧ Below w.heap.size w wr) (fun v9 v10 _ => (intOf v10).toNat - (intOf v9).toNat)
    case atStart => exact ⟨0, n, rfl, rfl, by omega, by omega, Lib.hid ⟨fun z x hz => absurd hz (by omega), fun z x hz hx => absurd (List.getElem?_eq_some_iff.1 hx).1 (by have := HN.out; omega)⟩, by go_grown⟩
    case round =>
      obtain ⟨i, j, rfl, rfl, hij, hj, HI, hb⟩ := hrel
      by_cases hlt : i < j
      · have hmid : (((i : Int) + j) / 2).toNat = (i + j) / 2 := by omega
        obtain ⟨m, hm0⟩ : ∃ m, (i + j) / 2 = m := ⟨_, rfl⟩
        have hm1 : i ≤ m ∧ m < j := by omega
        obtain ⟨m1, m2⟩ := hm1
        have hm3 : ((i : Int) + j) / 2 = (m : Int) := by omega
        obtain ⟨x, hx⟩ := at_lt (l := l) (i := m) (by rw [HN.out]; omega)
        obtain ⟨⟨x0, x1, x2, x3, x4⟩, xk⟩ := hc m x hx
        have HX := Lib.hid hx
        clear hx hmid hm0
        replace x0 := cell_later hb x0
        replace x1 := cell_later hb x1
        replace x2 := cell_later hb x2
        replace x3 := cell_later hb x3
        replace x4 := cell_later hb x4
        go_wp2_with fail
        with_reducible refine (place1Comp_any x k g _ (cell_later hb hp)).mono ?_
        rintro e W1 ⟨rfl, hb1⟩
        obtain ⟨hb', hs'⟩ := below_c (w := w) hb1 hb
        clear x0 x1 x2 x3 x4 hb1 hb
        obtain ⟨f, hf⟩ : ∃ f : Int, cmpI x.k k = f := ⟨_, rfl⟩
        have HF := Lib.hid hf
        rw [hf]
        clear hf
        by_cases hneg : f < 0
        · go_wp2
          go_roundw
          case rel => exact ⟨m + 1, j, by go_num, rfl, by omega, by omega, Lib.hid ⟨fun z y hz hy => hm z m y x (by omega) hy HX.out (show cmpI x.k k < 0 by rw [HF.out]; exact hneg), HI.out.2⟩, hb'⟩
          case measure => simp [intOf]; omega
        · go_wp2
          go_roundw
          case rel => exact ⟨i, m, rfl, rfl, by omega, by omega, Lib.hid ⟨HI.out.1, fun z y hz hy => Int.not_lt.1 (fun hn => by have h5 : cmpI x.k k < 0 := hm m z x y hz HX.out hy hn; rw [HF.out] at h5; omega)⟩, hb'⟩
          case measure => simp [intOf]; omega
      · obtain rfl : i = j := by omega
        have HL := Lib.hid (lowerOf_is (f := fun (x : Cmp) => cmpI x.k k) (by rw [HN.out]; exact hj) HI.out.1 HI.out.2)
        by_cases hin : i < n
        · obtain ⟨x, hx⟩ := at_lt (l := l) (i := i) (by rw [HN.out]; omega)
          obtain ⟨⟨x0, x1, x2, x3, x4⟩, xk⟩ := hc i x hx
          have HX := Lib.hid hx
          clear hx
          replace x0 := cell_later hb x0
          replace x1 := cell_later hb x1
          replace x2 := cell_later hb x2
          replace x3 := cell_later hb x3
          replace x4 := cell_later hb x4
          go_wp2_with fail
          with_reducible refine (place1Comp_any x k g _ (cell_later hb hp)).mono ?_
          rintro e W1 ⟨rfl, hb1⟩
          obtain ⟨hb', hs'⟩ := below_c (w := w) hb1 hb
          go_wp2
          go_returns
          exact ⟨ret_hit (by rw [HL.out]) (by rw [hit_yes HL.out HX.out, Bool.eq_iff_iff]; simp), hb'⟩
        · go_wp2
          go_returns
          exact ⟨ret_hit (by rw [HL.out]) (by rw [hit_none (by rw [HL.out, HN.out]; omega)]), hb⟩
set_option maxHeartbeats 8000000 in
theorem bsearchEntity_any (l : List Ent) (v : Value) (k : Int) (w : World) (h : EntsAt w v l) (hm : Mono (fun (x : Ent) => cmpI x.id k) l) (g : Nat) (hp : w.cell? ⟨g, 0, none⟩ = some (.func (.func 51) #[] #[])) :
    Calls Tryz.prog 103 #[v, .int .i64 k, .func (.func 104) #[] #[.pointer (some ⟨g, 0, none⟩)]] w fun e w' => e = .returned (.tuple #[.int .i64 (lowerOf (fun (x : Ent) => cmpI x.id k) l : Nat), .bool (hitOf (fun (x : Ent) => cmpI x.id k) l).isSome]) ∧ Below w.heap.size w w' := by
  rcases h with ⟨⟨a0, rfl⟩, rfl⟩ | ⟨b, off, cap, rfl, hl, hc⟩
  · go_enter Tryz.func103, Tryz.ntmps103
    go_wp2
    refine wp_loop_rounds 1 ?_
    rw [rounds_succ]
    go_wp2
    go_returns
    exact ⟨rfl, by go_grown⟩
  · obtain ⟨n, hn⟩ : ∃ n, l.length = n := ⟨_, rfl⟩
    have HN := Lib.hid hn
    rw [hn] at hl ⊢
    clear hn
    go_enter Tryz.func103, Tryz.ntmps103
    go_wp2
    go_loopw [9, 10] (fun v9 v10 wr => ∃ i j : Nat, v9 = .int .i64 i ∧ v10 = .int .i64 j ∧ i ≤ j ∧ j ≤ n ∧ Hid ((∀ (z : Nat) (x : Ent), z < i → l[z]? = some x → cmpI x.id k < 0) ∧ (∀ (z : Nat) (x : Ent), j ≤ z → l[z]? = some x → 0 ≤ cmpI x.id k)) ∧ Below w.heap.size w wr) (fun v9 v10 _ => (intOf v10).toNat - (intOf v9).toNat)
    case atStart => exact ⟨0, n, rfl, rfl, by omega, by omega, Lib.hid ⟨fun z x hz => absurd hz (by omega), fun z x hz hx => absurd (List.getElem?_eq_some_iff.1 hx).1 (by have := HN.out; omega)⟩, by go_grown⟩
    case round =>
      obtain ⟨i, j, rfl, rfl, hij, hj, HI, hb⟩ := hrel
      by_cases hlt : i < j
      · have hmid : (((i : Int) + j) / 2).toNat = (i + j) / 2 := by omega
        obtain ⟨m, hm0⟩ : ∃ m, (i + j) / 2 = m := ⟨_, rfl⟩
        have hm1 : i ≤ m ∧ m < j := by omega
        obtain ⟨m1, m2⟩ := hm1
        have hm3 : ((i : Int) + j) / 2 = (m : Int) := by omega
        obtain ⟨x, hx⟩ := at_lt (l := l) (i := m) (by rw [HN.out]; omega)
        obtain ⟨x0, xa, xn, xc, x1, xh⟩ := hc m x hx
        have HX := Lib.hid hx
        clear hx hmid hm0
        replace x0 := cell_later hb x0
        replace x1 := cell_later hb x1
        go_wp2_with fail
        with_reducible refine (place1Entity_any x.id _ _ _ k g _ (cell_later hb hp)).mono ?_
        rintro e W1 ⟨rfl, hb1⟩
        obtain ⟨hb', hs'⟩ := below_c (w := w) hb1 hb
        clear x0 x1 hb1 hb
        obtain ⟨f, hf⟩ : ∃ f : Int, cmpI x.id k = f := ⟨_, rfl⟩
        have HF := Lib.hid hf
        rw [hf]
        clear hf
        by_cases hneg : f < 0
        · go_wp2
          go_roundw
          case rel => exact ⟨m + 1, j, by go_num, rfl, by omega, by omega, Lib.hid ⟨fun z y hz hy => hm z m y x (by omega) hy HX.out (show cmpI x.id k < 0 by rw [HF.out]; exact hneg), HI.out.2⟩, hb'⟩
          case measure => simp [intOf]; omega
        · go_wp2
          go_roundw
          case rel => exact ⟨i, m, rfl, rfl, by omega, by omega, Lib.hid ⟨HI.out.1, fun z y hz hy => Int.not_lt.1 (fun hn => by have h5 : cmpI x.id k < 0 := hm m z x y hz HX.out hy hn; rw [HF.out] at h5; omega)⟩, hb'⟩
          case measure => simp [intOf]; omega
      · obtain rfl : i = j := by omega
        have HL := Lib.hid (lowerOf_is (f := fun (x : Ent) => cmpI x.id k) (by rw [HN.out]; exact hj) HI.out.1 HI.out.2)
        by_cases hin : i < n
        · obtain ⟨x, hx⟩ := at_lt (l := l) (i := i) (by rw [HN.out]; omega)
          obtain ⟨x0, xa, xn, xc, x1, xh⟩ := hc i x hx
          have HX := Lib.hid hx
          clear hx
          replace x0 := cell_later hb x0
          replace x1 := cell_later hb x1
          go_wp2_with fail
          with_reducible refine (place1Entity_any x.id _ _ _ k g _ (cell_later hb hp)).mono ?_
          rintro e W1 ⟨rfl, hb1⟩
          obtain ⟨hb', hs'⟩ := below_c (w := w) hb1 hb
          go_wp2
          go_returns
          exact ⟨ret_hit (by rw [HL.out]) (by rw [hit_yes HL.out HX.out, Bool.eq_iff_iff]; simp), hb'⟩
        · go_wp2
          go_returns
          exact ⟨ret_hit (by rw [HL.out]) (by rw [hit_none (by rw [HL.out, HN.out]; omega)]), hb⟩
theorem rises_le {l : List Int} (h : Rises l) : ∀ (b a : Nat), a ≤ b → b < l.length → l.getD a 0 ≤ l.getD b 0
  | 0, a, ha, hb => by obtain rfl : a = 0 := by omega
                       exact Int.le_refl _
  | b + 1, a, ha, hb => by
    rcases Nat.lt_succ_iff_lt_or_eq.1 (Nat.lt_succ_of_le ha) with h1 | h1
    · have := rises_le h b a (by omega) (by omega)
      have := h b (by omega)
      omega
    · rw [h1]; exact Int.le_refl _
theorem rises_lt {l : List Int} (h : Rises l) {a b : Nat} (hab : a < b) (hb : b < l.length) : l.getD a 0 < l.getD b 0 := by
  have h1 := h a (by omega)
  have h2 := rises_le h b (a + 1) (by omega) hb
  omega
theorem mono_rises {α : Type} {key : α → Int} {l : List α} (h : Rises (l.map key)) (k : Int) : Mono (fun x => cmpI (key x) k) l := fun a b x y hab hx hy hf => by
  have hb := (List.getElem?_eq_some_iff.1 hy).1
  have h1 := rises_le h b a hab (by simpa using hb)
  rw [map_at key hx, map_at key hy] at h1
  simp only [cmpI] at hf ⊢
  split at hf <;> split <;> omega
theorem cmp_zero (a b : Int) : cmpI a b = 0 ↔ a = b := by unfold cmpI; (repeat' split) <;> omega
theorem hit_some {α : Type} {f : α → Int} {l : List α} {x : α} (h : hitOf f l = some x) : l[lowerOf f l]? = some x ∧ f x = 0 := by
  unfold hitOf at h
  rw [Option.filter_eq_some_iff] at h
  exact ⟨h.1, by simpa using h.2⟩
theorem hit_find {α : Type} {key : α → Int} {l : List α} (h : Rises (l.map key)) (k : Int) : hitOf (fun x => cmpI (key x) k) l = l.find? (fun x => decide (key x = k)) := by
  obtain ⟨i, hi⟩ : ∃ i, lowerOf (fun x => cmpI (key x) k) l = i := ⟨_, rfl⟩
  have low : ∀ (z : Nat) (y : α), z < i → l[z]? = some y → key y < k := fun z y hz hy => by
    have h1 : z < l.findIdx (fun x => decide (0 ≤ cmpI (key x) k)) := by rw [← hi] at hz; exact hz
    have h2 := List.not_of_lt_findIdx h1
    obtain ⟨hz', rfl⟩ := List.getElem?_eq_some_iff.1 hy
    simp only [decide_eq_true_eq, decide_eq_false_iff_not] at h2
    unfold cmpI at h2
    split at h2 <;> omega
  rcases Nat.lt_or_ge i l.length with hlt | hge
  · have hx : l[i]? = some l[i] := List.getElem?_eq_getElem hlt
    have h0 : 0 ≤ cmpI (key l[i]) k := by
      have h1 : l.findIdx (fun x => decide (0 ≤ cmpI (key x) k)) = i := hi
      have h2 := (List.findIdx_eq hlt).1 h1
      simpa using h2.1
    unfold hitOf
    rw [hi, hx]
    by_cases he : key l[i] = k
    · have e1 : cmpI (key l[i]) k = 0 := (cmp_zero _ _).2 he
      rw [Option.filter_some_pos (by simpa using e1)]
      symm
      rw [List.find?_eq_some_iff_getElem]
      refine ⟨by simpa using he, i, hlt, rfl, fun j hj => ?_⟩
      have := low j l[j] hj (List.getElem?_eq_getElem _)
      simp; omega
    · have e1 : ¬ cmpI (key l[i]) k = 0 := fun e => he ((cmp_zero _ _).1 e)
      rw [Option.filter_some_neg (by simpa using e1)]
      symm
      rw [List.find?_eq_none]
      intro y hy
      obtain ⟨z, hz⟩ := List.mem_iff_getElem?.1 hy
      simp only [decide_eq_true_eq]
      rcases Nat.lt_or_ge z i with h1 | h1
      · have := low z y h1 hz; omega
      · have hzl := (List.getElem?_eq_some_iff.1 hz).1
        have h2 := rises_le h z i h1 (by simpa using hzl)
        rw [map_at key hx, map_at key hz] at h2
        unfold cmpI at h0
        split at h0
        · omega
        · omega
  · unfold hitOf
    rw [hi, List.getElem?_eq_none hge]
    symm
    rw [Option.filter_none, List.find?_eq_none]
    intro y hy
    obtain ⟨z, hz⟩ := List.mem_iff_getElem?.1 hy
    have hzl := (List.getElem?_eq_some_iff.1 hz).1
    have := low z y (by omega) hz
    simp; omega
theorem placeComp_any (l : List Cmp) (v : Value) (k : Int) (w : World) (h : CompsAt w v l) (hr : Rises (l.map Cmp.k)) :
    Calls Tryz.prog 48 #[v, .int .u8 k, .func (.func 49) #[] #[]] w fun e w' => e = .returned (.tuple #[.int .i64 (lowerOf (fun (x : Cmp) => cmpI x.k k) l : Nat), .bool (hitOf (fun (x : Cmp) => cmpI x.k k) l).isSome]) ∧ Below w.heap.size w w' := by
  have hb0 := (Below.refl w.heap.size w).alloc (Nat.le_refl _) (.cells #[.func (.func 49) #[] #[]] 97)
  have hm := mono_rises hr k
  have hc : (w.alloc (.cells #[.func (.func 49) #[] #[]] 97)).cell? ⟨w.heap.size, 0, none⟩ = some (.func (.func 49) #[] #[]) := (Bk.made w #[.func (.func 49) #[] #[]] 97).cell 0 rfl
  have H := Lib.hid (And.intro hm hc)
  clear hm hc
  go_enter Tryz.func48, Tryz.ntmps48
  go_wp2_with fail
  with_reducible refine (bsearchComp_any l _ k _ (h.below hb0) H.out.1 w.heap.size H.out.2).mono ?_
  rintro e w1 ⟨rfl, hb⟩
  obtain ⟨hg1, hs1⟩ := below_c (w := w) hb hb0
  go_wp2
  go_returns
  exact ⟨rfl, hg1⟩
theorem placeEntity_any (l : List Ent) (v : Value) (k : Int) (w : World) (h : EntsAt w v l) (hr : Rises (l.map Ent.id)) :
    Calls Tryz.prog 68 #[v, .int .i64 k, .func (.func 51) #[] #[]] w fun e w' => e = .returned (.tuple #[.int .i64 (lowerOf (fun (x : Ent) => cmpI x.id k) l : Nat), .bool (hitOf (fun (x : Ent) => cmpI x.id k) l).isSome]) ∧ Below w.heap.size w w' := by
  have hb0 := (Below.refl w.heap.size w).alloc (Nat.le_refl _) (.cells #[.func (.func 51) #[] #[]] 99)
  have hm := mono_rises hr k
  have hc : (w.alloc (.cells #[.func (.func 51) #[] #[]] 99)).cell? ⟨w.heap.size, 0, none⟩ = some (.func (.func 51) #[] #[]) := (Bk.made w #[.func (.func 51) #[] #[]] 99).cell 0 rfl
  have H := Lib.hid (And.intro hm hc)
  clear hm hc
  go_enter Tryz.func68, Tryz.ntmps68
  go_wp2_with fail
  with_reducible refine (bsearchEntity_any l _ k _ (h.below hb0) H.out.1 w.heap.size H.out.2).mono ?_
  rintro e w1 ⟨rfl, hb⟩
  obtain ⟨hg1, hs1⟩ := below_c (w := w) hb hb0
  go_wp2
  go_returns
  exact ⟨rfl, hg1⟩
end Go.Proofs.YtlcjkomfjgddeaaGreatDoor
namespace Go.Proofs.YtlcjkomfjgddeaaGreatDoor
open Go Go.RowKit Go.Sort
set_option maxRecDepth 100000
attribute [local go_sem] opLow opUpon opLow2 opUpon2

theorem Valid.rises {W : Wld} (h : Valid W) : Rises (W.es.map Ent.id) := h.2.2.1
theorem Right.rises {e : Ent} (h : Right e) : Rises (e.cs.map Cmp.k) := h.2.1
abbrev Wv (t : Int) (a : Option Addr) (n c : Nat) : Value := .agg #[.int .i64 t, .slice a n c]
theorem find_any (W : Wld) (a : Option Addr) (n c : Nat) (id : Int) (w : World) (hR : RG w) (h : EntsAt w (.slice a n c) W.es) (hV : Valid W) :
    Calls Tryz.prog 47 #[Wv W.t a n c, .int .i64 id] w fun e w' => e = .returned (.tuple #[.int .i64 (lowerOf (fun (x : Ent) => cmpI x.id id) W.es : Nat), .bool (hitOf (fun (x : Ent) => cmpI x.id id) W.es).isSome]) ∧ Below w.heap.size w w' := by
  obtain ⟨t, es⟩ := W
  simp only at h
  have hb0 := (Below.refl w.heap.size w).alloc (Nat.le_refl _) (.cells #[.int .i64 t, .slice a n c] 26)
  have HV := Lib.hid hV
  clear hV
  go_enter Tryz.func47, Tryz.ntmps47
  go_wp2_with fail
  with_reducible refine (valid_any ⟨t, es⟩ a n c _ (hR.below hb0) (h.below hb0)).mono ?_
  rw [decide_eq_true HV.out]
  rintro e w1 ⟨rfl, hb⟩
  have B1 := Bk.below (g := w.heap.size) (cs := #[.int .i64 t, .slice a n c]) (t := 26) (Bk.made _ _ _) hb
  have c1 := B1.cell (v := .slice a n c) 1 rfl
  obtain ⟨hg1, hs1⟩ := below_c (w := w) hb hb0
  go_wp2_with fail
  with_reducible refine (placeEntity_any es _ id _ (h.below hg1) (Valid.rises HV.out)).mono ?_
  rintro e w2 ⟨rfl, hb2⟩
  obtain ⟨hg2, hs2⟩ := below_c (w := w) hb2 hg1
  go_wp2
  go_returns
  exact ⟨rfl, hg2⟩
/-- a component of an entity of a world -/
def getM (W : Wld) (id kind : Int) : Option Cmp := (W.es.find? (fun e => decide (e.id = id))).bind (fun e => e.cs.find? (fun x => decide (x.k = kind)))
def getV (W : Wld) (id kind : Int) : Value := match getM W id kind with
  | some x => .tuple #[C x, .bool true]
  | none => .tuple #[C ⟨0, 0, 0, 0, 0⟩, .bool false]
theorem getV_none {W : Wld} {id kind : Int} (h : getM W id kind = none) : getV W id kind = .tuple #[C ⟨0, 0, 0, 0, 0⟩, .bool false] := by unfold getV; rw [h]
theorem getV_some {W : Wld} {id kind : Int} {x : Cmp} (h : getM W id kind = some x) : getV W id kind = .tuple #[C x, .bool true] := by unfold getV; rw [h]
set_option maxHeartbeats 4000000 in
theorem get_any (W : Wld) (a : Option Addr) (n c : Nat) (id kind : Int) (w : World) (hR : RG w) (h : EntsAt w (.slice a n c) W.es) (hV : Valid W) :
    Calls Tryz.prog 17 #[Wv W.t a n c, .int .i64 id, .int .u8 kind] w fun e w' => e = .returned (getV W id kind) ∧ Below w.heap.size w w' := by
  obtain ⟨t, es⟩ := W
  simp only at h
  have hb0 := ((Below.refl w.heap.size w).alloc (Nat.le_refl _) (.cells #[.int .i64 t, .slice a n c] 26)).alloc (by simp) (.cells #[.int .u8 0, .int .i64 0, .int .i64 0, .int .i64 0, .int .i64 0] 48)
  have HV := Lib.hid hV
  clear hV
  obtain ⟨i, hi⟩ : ∃ i, lowerOf (fun (x : Ent) => cmpI x.id id) es = i := ⟨_, rfl⟩
  obtain ⟨r, hr⟩ : ∃ r, hitOf (fun (x : Ent) => cmpI x.id id) es = r := ⟨_, rfl⟩
  have HI := Lib.hid (And.intro hi hr)
  have HG := Lib.hid (show es.find? (fun e => decide (e.id = id)) = r by rw [← hr, ← hit_find HV.out.2.2.1 id])
  go_enter Tryz.func17, Tryz.ntmps17
  go_wp2_with fail
  with_reducible refine (find_any ⟨t, es⟩ a n c id _ (hR.below hb0) (h.below hb0) HV.out).mono ?_
  simp only [hi, hr]
  clear hi hr
  rintro e w1 ⟨rfl, hb⟩
  have B1 : Bk w1 w.heap.size #[.int .i64 t, .slice a n c] 26 := Bk.below ((Bk.made _ _ _).alloc _) hb
  have B2 : Bk w1 (w.heap.size + 1) #[.int .u8 0, .int .i64 0, .int .i64 0, .int .i64 0, .int .i64 0] 48 := Bk.below (Bk.at_ (by simp)) hb
  obtain ⟨hg1, hs1⟩ := below_c (w := w) hb hb0
  clear hb hb0
  have c1 := B1.cell (v := .slice a n c) 1 rfl
  cases r with
  | none =>
    have z0 := B2.cell (v := .int .u8 0) 0 rfl
    have z1 := B2.cell (v := .int .i64 0) 1 rfl
    have z2 := B2.cell (v := .int .i64 0) 2 rfl
    have z3 := B2.cell (v := .int .i64 0) 3 rfl
    have z4 := B2.cell (v := .int .i64 0) 4 rfl
    have f0 := B2.free 0; have f1 := B2.free 1; have f2 := B2.free 2; have f3 := B2.free 3; have f4 := B2.free 4
    go_wp2
    refine post_name (fun V => Bk V (w.heap.size + 1) #[.int .u8 0, .int .i64 0, .int .i64 0, .int .i64 0, .int .i64 0] 48 ∧ Below w.heap.size w V) ⟨((((B2.put 0 _).put 1 _).put 2 _).put 3 _).put 4 _, by go_grown⟩ ?_
    rintro V ⟨BV, hbV⟩
    clear z0 z1 z2 z3 z4 f0 f1 f2 f3 f4
    have z0 := BV.cell (v := .int .u8 0) 0 rfl
    have z1 := BV.cell (v := .int .i64 0) 1 rfl
    have z2 := BV.cell (v := .int .i64 0) 2 rfl
    have z3 := BV.cell (v := .int .i64 0) 3 rfl
    have z4 := BV.cell (v := .int .i64 0) 4 rfl
    refine bodyPost_ret (v := .tuple #[C ⟨0, 0, 0, 0, 0⟩, .bool false]) (by simp [results, Tryz.results17, go_sem, z0, z1, z2, z3, z4]; try rfl) rfl ⟨by rw [getV_none (by unfold getM; rw [HG.out]; rfl)], hbV⟩
  | some x =>
    obtain ⟨hx, hid⟩ := hit_some HI.out.2
    rw [HI.out.1] at hx
    have hxr : Right x := HV.out.2.2.2 x (List.mem_iff_getElem?.2 ⟨_, hx⟩)
    rcases h with ⟨h, rfl⟩ | ⟨b, off, cap, h, hl, hc⟩
    · cases hx
    · injection h with h1 h2 h3
      subst h1 h3
      have hin : i < n := by rw [h2]; exact (List.getElem?_eq_some_iff.1 hx).1
      have hn2 : n < 1099511627776 := by rw [h2]; exact hl
      obtain ⟨-, xa, xn, xc, x1, xh⟩ := hc i x hx
      have y1 := cell_later hg1 x1
      have yh := xh.below hg1
      have HX := Lib.hid (And.intro hx hxr)
      clear hx hxr hid hl h2 hc xh x1
      obtain ⟨j, hj⟩ : ∃ j, lowerOf (fun (x : Cmp) => cmpI x.k kind) x.cs = j := ⟨_, rfl⟩
      obtain ⟨q, hq⟩ : ∃ q, hitOf (fun (x : Cmp) => cmpI x.k kind) x.cs = q := ⟨_, rfl⟩
      have HJ := Lib.hid (And.intro hj hq)
      have HQ := Lib.hid (show getM ⟨t, es⟩ id kind = q by unfold getM; simp only; rw [HG.out, ← hq, hit_find HX.out.2.2.1 kind]; rfl)
      go_wp2_with fail
      with_reducible refine (placeComp_any x.cs _ kind _ yh (Right.rises HX.out.2)).mono ?_
      simp only [hj, hq]
      clear hj hq
      rintro e w2 ⟨rfl, hb2⟩
      have B1 := B1.below hb2
      have B2 := B2.below hb2
      have y1 := cell_later hb2 y1
      have yh := yh.below hb2
      obtain ⟨hg2, hs2⟩ := below_c (w := w) hb2 hg1
      clear hb2
      have c1 := B1.cell (v := .slice (some ⟨b, off, none⟩) n c) 1 rfl
      have z0 := B2.cell (v := .int .u8 0) 0 rfl
      have z1 := B2.cell (v := .int .i64 0) 1 rfl
      have z2 := B2.cell (v := .int .i64 0) 2 rfl
      have z3 := B2.cell (v := .int .i64 0) 3 rfl
      have z4 := B2.cell (v := .int .i64 0) 4 rfl
      have f0 := B2.free 0; have f1 := B2.free 1; have f2 := B2.free 2; have f3 := B2.free 3; have f4 := B2.free 4
      cases q with
      | none =>
        go_wp2
        refine post_name (fun V => Bk V (w.heap.size + 1) #[.int .u8 0, .int .i64 0, .int .i64 0, .int .i64 0, .int .i64 0] 48 ∧ Below w.heap.size w V) ⟨((((B2.put 0 _).put 1 _).put 2 _).put 3 _).put 4 _, by go_grown⟩ ?_
        rintro V ⟨BV, hbV⟩
        clear z0 z1 z2 z3 z4 f0 f1 f2 f3 f4 c1 y1 B1 B2
        have z0 := BV.cell (v := .int .u8 0) 0 rfl
        have z1 := BV.cell (v := .int .i64 0) 1 rfl
        have z2 := BV.cell (v := .int .i64 0) 2 rfl
        have z3 := BV.cell (v := .int .i64 0) 3 rfl
        have z4 := BV.cell (v := .int .i64 0) 4 rfl
        refine bodyPost_ret (v := .tuple #[C ⟨0, 0, 0, 0, 0⟩, .bool false]) (by simp [results, Tryz.results17, go_sem, z0, z1, z2, z3, z4]; try rfl) rfl ⟨by rw [getV_none HQ.out], hbV⟩
      | some y =>
        obtain ⟨hy, -⟩ := hit_some HJ.out.2
        rw [HJ.out.1] at hy
        rcases yh with ⟨h, hnil⟩ | ⟨b2, off2, cap2, h, hl, hc⟩
        · rw [hnil] at hy; cases hy
        · injection h with h1 h2 h3
          subst h1 h3
          have hjn : j < xn := by rw [h2]; exact (List.getElem?_eq_some_iff.1 hy).1
          have hn3 : xn < 1099511627776 := by rw [h2]; exact hl
          obtain ⟨⟨u0, u1, u2, u3, u4⟩, -⟩ := hc j y hy
          clear hy hl h2 hc
          go_wp2
          refine post_name (fun V => Bk V (w.heap.size + 1) #[.int .u8 y.k, .int .i64 y.a, .int .i64 y.b, .int .i64 y.c, .int .i64 y.d] 48 ∧ Below w.heap.size w V) ⟨((((B2.put 0 _).put 1 _).put 2 _).put 3 _).put 4 _, by go_grown⟩ ?_
          rintro V ⟨BV, hbV⟩
          clear z0 z1 z2 z3 z4 f0 f1 f2 f3 f4 c1 y1 B1 B2 u0 u1 u2 u3 u4
          have z0 := BV.cell (v := .int .u8 y.k) 0 rfl
          have z1 := BV.cell (v := .int .i64 y.a) 1 rfl
          have z2 := BV.cell (v := .int .i64 y.b) 2 rfl
          have z3 := BV.cell (v := .int .i64 y.c) 3 rfl
          have z4 := BV.cell (v := .int .i64 y.d) 4 rfl
          refine bodyPost_ret (v := .tuple #[C y, .bool true]) (by simp [results, Tryz.results17, go_sem, z0, z1, z2, z3, z4]; try rfl) rfl ⟨by rw [getV_some HQ.out], hbV⟩
end Go.Proofs.YtlcjkomfjgddeaaGreatDoor
