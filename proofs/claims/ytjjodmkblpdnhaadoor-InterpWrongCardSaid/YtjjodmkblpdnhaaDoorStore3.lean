/- Binary searches; store.find, store.Get. -/
import Derived.Test.YtjjodmkblpdnhaaDoorStore2
set_option linter.unusedVariables false
set_option linter.unusedSimpArgs false
namespace Go.Proofs.YtjjodmkblpdnhaaDoor
open Go Go.RowKit Go.Sort
set_option maxRecDepth 100000
attribute [local go_sem] opLow opUpon opLow2 opUpon2

/-- cmp.Compare -/
def cmpI (a b : Int) : Int := if a < b then -1 else if b < a then 1 else 0
/-- the first place at which f is not negative -/
def lowerOf {α : Type} (f : α → Int) (l : List α) : Nat := l.findIdx (fun x => decide (0 ≤ f x))
def hitOf {α : Type} (f : α → Int) (l : List α) : Option α := (l[lowerOf f l]?).filter (fun x => decide (f x = 0))
def Mono {α : Type} (f : α → Int) (l : List α) : Prop := ∀ (a b : Nat) (x y : α), a ≤ b → l[a]? = some x → l[b]? = some y → f y < 0 → f x < 0
theorem lowerOf_is {α : Type} {f : α → Int} {l : List α} {i : Nat} (hi : i ≤ l.length) (h1 : ∀ (z : Nat) (x : α), z < i → l[z]? = some x → f x < 0) (h2 : ∀ (z : Nat) (x : α), i ≤ z → l[z]? = some x → 0 ≤ f x) : lowerOf f l = i := by
  unfold lowerOf
  rcases Nat.lt_or_ge i l.length with h | h
  · refine (List.findIdx_eq h).2 ⟨by simpa using h2 i l[i] (Nat.le_refl _) (List.getElem?_eq_getElem h), fun z hz => ?_⟩
    have := h1 z l[z] hz (List.getElem?_eq_getElem _)
    simp; omega
  · have e : i = l.length := Nat.le_antisymm hi h
    subst e
    rw [List.findIdx_eq_length]
    intro x hx
    obtain ⟨z, hz⟩ := List.mem_iff_getElem?.1 hx
    have := h1 z x (List.getElem?_eq_some_iff.1 hz).1 hz
    simp; omega
theorem hit_yes {α : Type} {f : α → Int} {l : List α} {i : Nat} {x : α} (hi : lowerOf f l = i) (hx : l[i]? = some x) : (hitOf f l).isSome = decide (f x = 0) := by
  unfold hitOf
  rw [hi, hx]
  by_cases h : f x = 0 <;> simp [Option.filter, h]
theorem hit_none {α : Type} {f : α → Int} {l : List α} (hi : lowerOf f l = l.length) : (hitOf f l).isSome = false := by
  unfold hitOf
  rw [hi, List.getElem?_eq_none (Nat.le_refl _)]; rfl
theorem ret_hit {a : Int} {b : Bool} {a' : Int} {b' : Bool} (h1 : a = a') (h2 : b = b') : Ending.returned (.tuple #[.int .i64 a, .bool b]) = .returned (.tuple #[.int .i64 a', .bool b']) := by rw [h1, h2]
theorem nan_uint8 (a : Int) (w : World) : Calls Tryd.prog 72 #[.int .u8 a] w fun e w' => e = .returned (.bool false) ∧ Below w.heap.size w w' := by
  go_enter Tryd.func72, Tryd.ntmps72
  go_wp2
  go_returns
  exact ⟨ret_bool (by simp), by go_grown⟩
theorem compare_uint8 (a b : Int) (w : World) : Calls Tryd.prog 67 #[.int .u8 a, .int .u8 b] w fun e w' => e = .returned (.int .i64 (cmpI a b)) ∧ Below w.heap.size w w' := by
  rcases (by omega : a < b ∨ b < a ∨ a = b) with h | h | h
  all_goals
    go_enter Tryd.func67, Tryd.ntmps67
    go_wp2_with fail
    with_reducible refine (nan_uint8 _ _).mono ?_
    rintro e w1 ⟨rfl, hb⟩
    go_wp2_with fail
    with_reducible refine (nan_uint8 _ _).mono ?_
    rintro e w2 ⟨rfl, hb2⟩
    obtain ⟨hg2, hs2⟩ := below_c (w := w) hb2 hb
    go_wp2
    go_returns
    exact ⟨ret_i64 (by unfold cmpI; (repeat' split) <;> omega), hg2⟩
theorem nan_int (a : Int) (w : World) : Calls Tryd.prog 73 #[.int .i64 a] w fun e w' => e = .returned (.bool false) ∧ Below w.heap.size w w' := by
  go_enter Tryd.func73, Tryd.ntmps73
  go_wp2
  go_returns
  exact ⟨ret_bool (by simp), by go_grown⟩
theorem compare_int (a b : Int) (w : World) : Calls Tryd.prog 71 #[.int .i64 a, .int .i64 b] w fun e w' => e = .returned (.int .i64 (cmpI a b)) ∧ Below w.heap.size w w' := by
  rcases (by omega : a < b ∨ b < a ∨ a = b) with h | h | h
  all_goals
    go_enter Tryd.func71, Tryd.ntmps71
    go_wp2_with fail
    with_reducible refine (nan_int _ _).mono ?_
    rintro e w1 ⟨rfl, hb⟩
    go_wp2_with fail
    with_reducible refine (nan_int _ _).mono ?_
    rintro e w2 ⟨rfl, hb2⟩
    obtain ⟨hg2, hs2⟩ := below_c (w := w) hb2 hb
    go_wp2
    go_returns
    exact ⟨ret_i64 (by unfold cmpI; (repeat' split) <;> omega), hg2⟩
theorem place1Comp_any (x : Cmp) (k : Int) (g : Nat) (w : World) (hp : w.cell? ⟨g, 0, none⟩ = some (.func (.func 52) #[] #[])) :
    Calls Tryd.prog 66 #[C x, .int .u8 k, .pointer (some ⟨g, 0, none⟩)] w fun e w' => e = .returned (.int .i64 (cmpI x.k k)) ∧ Below w.heap.size w w' := by
  have hb0 := (Below.refl w.heap.size w).alloc (Nat.le_refl _) (.cells #[.int .u8 x.k, .int .i64 x.a, .int .i64 x.b, .int .i64 x.c, .int .i64 x.d] 67)
  have lt := World.block_lt_of_cell? w _ hp
  simp only at lt
  go_enter Tryd.func66, Tryd.ntmps66
  go_wp2_with fail
  with_reducible refine (kindOf_any _ _).mono ?_
  rintro e w1 ⟨rfl, hb⟩
  obtain ⟨hg1, hs1⟩ := below_c (w := w) hb hb0
  go_wp2_with fail
  with_reducible refine (compare_uint8 _ _ _).mono ?_
  rintro e w2 ⟨rfl, hb2⟩
  obtain ⟨hg2, hs2⟩ := below_c (w := w) hb2 hg1
  go_wp2
  go_returns
  exact ⟨rfl, hg2⟩
theorem place1Entity_any (i : Int) (a : Option Addr) (n c : Nat) (k : Int) (g : Nat) (w : World) (hp : w.cell? ⟨g, 0, none⟩ = some (.func (.func 38) #[] #[])) :
    Calls Tryd.prog 70 #[.agg #[.int .i64 i, .slice a n c], .int .i64 k, .pointer (some ⟨g, 0, none⟩)] w fun e w' => e = .returned (.int .i64 (cmpI i k)) ∧ Below w.heap.size w w' := by
  have hb0 := (Below.refl w.heap.size w).alloc (Nat.le_refl _) (.cells #[.int .i64 i, .slice a n c] 47)
  have lt := World.block_lt_of_cell? w _ hp
  simp only at lt
  go_enter Tryd.func70, Tryd.ntmps70
  go_wp2_with fail
  with_reducible refine (idOf_any _ _ _ _ _).mono ?_
  rintro e w1 ⟨rfl, hb⟩
  obtain ⟨hg1, hs1⟩ := below_c (w := w) hb hb0
  go_wp2_with fail
  with_reducible refine (compare_int _ _ _).mono ?_
  rintro e w2 ⟨rfl, hb2⟩
  obtain ⟨hg2, hs2⟩ := below_c (w := w) hb2 hg1
  go_wp2
  go_returns
  exact ⟨rfl, hg2⟩
set_option maxHeartbeats 8000000 in
theorem bsearchComp_any (l : List Cmp) (v : Value) (k : Int) (w : World) (h : CompsAt w v l) (hm : Mono (fun (x : Cmp) => cmpI x.k k) l) (g : Nat) (hp : w.cell? ⟨g, 0, none⟩ = some (.func (.func 52) #[] #[])) :
    Calls Tryd.prog 65 #[v, .int .u8 k, .func (.func 66) #[] #[.pointer (some ⟨g, 0, none⟩)]] w fun e w' => e = .returned (.tuple #[.int .i64 (lowerOf (fun (x : Cmp) => cmpI x.k k) l : Nat), .bool (hitOf (fun (x : Cmp) => cmpI x.k k) l).isSome]) ∧ Below w.heap.size w w' := by
  rcases h with ⟨rfl, rfl⟩ | ⟨b, off, cap, rfl, hl, hc⟩
  · go_enter Tryd.func65, Tryd.ntmps65
    go_wp2
    refine wp_loop_rounds 1 ?_
    rw [rounds_succ]
    go_wp2
    go_returns
    exact ⟨rfl, by go_grown⟩
  · obtain ⟨n, hn⟩ : ∃ n, l.length = n := ⟨_, rfl⟩
    have HN := Lib.hid hn
    rw [hn] at hl ⊢
    clear hn
    go_enter Tryd.func65, Tryd.ntmps65
    go_wp2
    go_loopw [9, 10] (fun v9 v10 wr => ∃ i j : Nat, v9 = .int .i64 i ∧ v10 = .int .i64 j ∧ i ≤ j ∧ j ≤ n ∧ Hid ((∀ (z : Nat) (x : Cmp), z < i → l[z]? = some x → cmpI x.k k < 0) ∧ (∀ (z : Nat) (x : Cmp), j ≤ z → l[z]? = some x → 0 ≤ cmpI x.k k)) ∧ Below w.heap.size w wr) (fun v9 v10 _ => (intOf v10).toNat - (intOf v9).toNat)
    case atStart => exact ⟨0, n, rfl, rfl, by omega, by omega, Lib.hid ⟨fun z x hz => absurd hz (by omega), fun z x hz hx => absurd (List.getElem?_eq_some_iff.1 hx).1 (by have := HN.out; omega)⟩, by go_grown⟩
    case round =>
      obtain ⟨i, j, rfl, rfl, hij, hj, HI, hb⟩ := hrel
      by_cases hlt : i < j
      · have hmid : (((i : Int) + j) / 2).toNat = (i + j) / 2 := by omega
        obtain ⟨m, hm0⟩ : ∃ m, (i + j) / 2 = m := ⟨_, rfl⟩
        have hm1 : i ≤ m ∧ m < j := by omega
        obtain ⟨m1, m2⟩ := hm1
        have hm3 : ((i : Int) + j) / 2 = (m : Int) := by omega
        obtain ⟨x, hx⟩ := at_lt (l := l) (i := m) (by rw [HN.out]; omega)
        obtain ⟨⟨x0, x1, x2, x3, x4⟩, xk⟩ := hc m x hx
        have HX := Lib.hid hx
        clear hx hmid hm0
        replace x0 := cell_later hb x0
        replace x1 := cell_later hb x1
        replace x2 := cell_later hb x2
        replace x3 := cell_later hb x3
        replace x4 := cell_later hb x4
        go_wp2_with fail
        with_reducible refine (place1Comp_any x k g _ (cell_later hb hp)).mono ?_
        rintro e W1 ⟨rfl, hb1⟩
        obtain ⟨hb', hs'⟩ := below_c (w := w) hb1 hb
        clear x0 x1 x2 x3 x4 hb1 hb
        obtain ⟨f, hf⟩ : ∃ f : Int, cmpI x.k k = f := ⟨_, rfl⟩
        have HF := Lib.hid hf
        rw [hf]
        clear hf
        by_cases hneg : f < 0
        · go_wp2
          go_roundw
          case rel => exact ⟨m + 1, j, by go_num, rfl, by omega, by omega, Lib.hid ⟨fun z y hz hy => hm z m y x (by omega) hy HX.out (show cmpI x.k k < 0 by rw [HF.out]; exact hneg), HI.out.2⟩, hb'⟩
          case measure => simp [intOf]; omega
        · go_wp2
          go_roundw
          case rel => exact ⟨i, m, rfl, rfl, by omega, by omega, Lib.hid ⟨HI.out.1, fun z y hz hy => Int.not_lt.1 (fun hn => by have h5 : cmpI x.k k < 0 := hm m z x y hz HX.out hy hn; rw [HF.out] at h5; omega)⟩, hb'⟩
          case measure => simp [intOf]; omega
      · obtain rfl : i = j := by omega
        have HL := Lib.hid (lowerOf_is (f := fun (x : Cmp) => cmpI x.k k) (by rw [HN.out]; exact hj) HI.out.1 HI.out.2)
        by_cases hin : i < n
        · obtain ⟨x, hx⟩ := at_lt (l := l) (i := i) (by rw [HN.out]; omega)
          obtain ⟨⟨x0, x1, x2, x3, x4⟩, xk⟩ := hc i x hx
          have HX := Lib.hid hx
          clear hx
          replace x0 := cell_later hb x0
          replace x1 := cell_later hb x1
          replace x2 := cell_later hb x2
          replace x3 := cell_later hb x3
          replace x4 := cell_later hb x4
          go_wp2_with fail
          with_reducible refine (place1Comp_any x k g _ (cell_later hb hp)).mono ?_
          rintro e W1 ⟨rfl, hb1⟩
          obtain ⟨hb', hs'⟩ := below_c (w := w) hb1 hb
          go_wp2
          go_returns
          exact ⟨ret_hit (by rw [HL.out]) (by rw [hit_yes HL.out HX.out, Bool.eq_iff_iff]; simp), hb'⟩
        · go_wp2
          go_returns
          exact ⟨ret_hit (by rw [HL.out]) (by rw [hit_none (by rw [HL.out, HN.out]; omega)]), hb⟩
set_option maxHeartbeats 8000000 in
theorem bsearchEntity_any (l : List Ent) (v : Value) (k : Int) (w : World) (h : EntsAt w v l) (hm : Mono (fun (x : Ent) => cmpI x.id k) l) (g : Nat) (hp : w.cell? ⟨g, 0, none⟩ = some (.func (.func 38) #[] #[])) :
    Calls Tryd.prog 69 #[v, .int .i64 k, .func (.func 70) #[] #[.pointer (some ⟨g, 0, none⟩)]] w fun e w' => e = .returned (.tuple #[.int .i64 (lowerOf (fun (x : Ent) => cmpI x.id k) l : Nat), .bool (hitOf (fun (x : Ent) => cmpI x.id k) l).isSome]) ∧ Below w.heap.size w w' := by
  rcases h with ⟨rfl, rfl⟩ | ⟨b, off, cap, rfl, hl, hc⟩
  · go_enter Tryd.func69, Tryd.ntmps69
    go_wp2
    refine wp_loop_rounds 1 ?_
    rw [rounds_succ]
    go_wp2
    go_returns
    exact ⟨rfl, by go_grown⟩
  · obtain ⟨n, hn⟩ : ∃ n, l.length = n := ⟨_, rfl⟩
    have HN := Lib.hid hn
    rw [hn] at hl ⊢
    clear hn
    go_enter Tryd.func69, Tryd.ntmps69
    go_wp2
    go_loopw [9, 10] (fun v9 v10 wr => ∃ i j : Nat, v9 = .int .i64 i ∧ v10 = .int .i64 j ∧ i ≤ j ∧ j ≤ n ∧ Hid ((∀ (z : Nat) (x : Ent), z < i → l[z]? = some x → cmpI x.id k < 0) ∧ (∀ (z : Nat) (x : Ent), j ≤ z → l[z]? = some x → 0 ≤ cmpI x.id k)) ∧ Below w.heap.size w wr) (fun v9 v10 _ => (intOf v10).toNat - (intOf v9).toNat)
    case atStart => exact ⟨0, n, rfl, rfl, by omega, by omega, Lib.hid ⟨fun z x hz => absurd hz (by omega), fun z x hz hx => absurd (List.getElem?_eq_some_iff.1 hx).1 (by have := HN.out; omega)⟩, by go_grown⟩
    case round =>
      obtain ⟨i, j, rfl, rfl, hij, hj, HI, hb⟩ := hrel
      by_cases hlt : i < j
      · have hmid : (((i : Int) + j) / 2).toNat = (i + j) / 2 := by omega
        obtain ⟨m, hm0⟩ : ∃ m, (i + j) / 2 = m := ⟨_, rfl⟩
        have hm1 : i ≤ m ∧ m < j := by omega
        obtain ⟨m1, m2⟩ := hm1
        have hm3 : ((i : Int) + j) / 2 = (m : Int) := by omega
        obtain ⟨x, hx⟩ := at_lt (l := l) (i := m) (by rw [HN.out]; omega)
        obtain ⟨x0, xa, xn, xc, x1, xh⟩ := hc m x hx
        have HX := Lib.hid hx
        clear hx hmid hm0
        replace x0 := cell_later hb x0
        replace x1 := cell_later hb x1
        go_wp2_with fail
        with_reducible refine (place1Entity_any x.id _ _ _ k g _ (cell_later hb hp)).mono ?_
        rintro e W1 ⟨rfl, hb1⟩
        obtain ⟨hb', hs'⟩ := below_c (w := w) hb1 hb
        clear x0 x1 hb1 hb
        obtain ⟨f, hf⟩ : ∃ f : Int, cmpI x.id k = f := ⟨_, rfl⟩
        have HF := Lib.hid hf
        rw [hf]
        clear hf
        by_cases hneg : f < 0
        · go_wp2
          go_roundw
          case rel => exact ⟨m + 1, j, by go_num, rfl, by omega, by omega, Lib.hid ⟨fun z y hz hy => hm z m y x (by omega) hy HX.out (show cmpI x.id k < 0 by rw [HF.out]; exact hneg), HI.out.2⟩, hb'⟩
          case measure => simp [intOf]; omega
        · go_wp2
          go_roundw
          case rel => exact ⟨i, m, rfl, rfl, by omega, by omega, Lib.hid ⟨HI.out.1, fun z y hz hy => Int.not_lt.1 (fun hn => by have h5 : cmpI x.id k < 0 := hm m z x y hz HX.out hy hn; rw [HF.out] at h5; omega)⟩, hb'⟩
          case measure => simp [intOf]; omega
      · obtain rfl : i = j := by omega
        have HL := Lib.hid (lowerOf_is (f := fun (x : Ent) => cmpI x.id k) (by rw [HN.out]; exact hj) HI.out.1 HI.out.2)
        by_cases hin : i < n
        · obtain ⟨x, hx⟩ := at_lt (l := l) (i := i) (by rw [HN.out]; omega)
          obtain ⟨x0, xa, xn, xc, x1, xh⟩ := hc i x hx
          have HX := Lib.hid hx
          clear hx
          replace x0 := cell_later hb x0
          replace x1 := cell_later hb x1
          go_wp2_with fail
          with_reducible refine (place1Entity_any x.id _ _ _ k g _ (cell_later hb hp)).mono ?_
          rintro e W1 ⟨rfl, hb1⟩
          obtain ⟨hb', hs'⟩ := below_c (w := w) hb1 hb
          go_wp2
          go_returns
          exact ⟨ret_hit (by rw [HL.out]) (by rw [hit_yes HL.out HX.out, Bool.eq_iff_iff]; simp), hb'⟩
        · go_wp2
          go_returns
          exact ⟨ret_hit (by rw [HL.out]) (by rw [hit_none (by rw [HL.out, HN.out]; omega)]), hb⟩
theorem shown1_any (t k : Int) (a : Option Addr) (n c : Nat) (w : World) (ht : 0 ≤ t ∧ t ≤ 1073741824) (hk : 0 ≤ k ∧ k ≤ 34359738368) :
    Calls Tryd.prog 29 #[.agg #[.int .i64 t, .slice a n c], .int .i64 k] w fun e w' => e = .returned (.int .i64 (16 * t - k)) ∧ Below w.heap.size w w' := by
  obtain ⟨t0, t1⟩ := ht
  obtain ⟨k0, k1⟩ := hk
  go_enter Tryd.func29, Tryd.ntmps29
  go_wp2
  go_returns
  exact ⟨rfl, by go_grown⟩
set_option maxHeartbeats 8000000 in
theorem bsearchWorld_any (l : List Wld) (v : Value) (k : Int) (w : World) (h : HistAt w v l) (hm : Mono (fun (x : Wld) => 16 * x.t - k) l) (hb2 : ∀ x ∈ l, 0 ≤ x.t ∧ x.t ≤ 1073741824) (hk2 : 0 ≤ k ∧ k ≤ 34359738368) :
    Calls Tryd.prog 28 #[v, .int .i64 k, .func (.func 29) #[] #[]] w fun e w' => e = .returned (.tuple #[.int .i64 (lowerOf (fun (x : Wld) => 16 * x.t - k) l : Nat), .bool (hitOf (fun (x : Wld) => 16 * x.t - k) l).isSome]) ∧ Below w.heap.size w w' := by
  rcases h with ⟨rfl, rfl⟩ | ⟨b, off, cap, rfl, hl, hc⟩
  · go_enter Tryd.func28, Tryd.ntmps28
    go_wp2
    refine wp_loop_rounds 1 ?_
    rw [rounds_succ]
    go_wp2
    go_returns
    exact ⟨rfl, by go_grown⟩
  · obtain ⟨n, hn⟩ : ∃ n, l.length = n := ⟨_, rfl⟩
    have HN := Lib.hid hn
    rw [hn] at hl ⊢
    clear hn
    go_enter Tryd.func28, Tryd.ntmps28
    go_wp2
    go_loopw [9, 10] (fun v9 v10 wr => ∃ i j : Nat, v9 = .int .i64 i ∧ v10 = .int .i64 j ∧ i ≤ j ∧ j ≤ n ∧ Hid ((∀ (z : Nat) (x : Wld), z < i → l[z]? = some x → 16 * x.t - k < 0) ∧ (∀ (z : Nat) (x : Wld), j ≤ z → l[z]? = some x → 0 ≤ 16 * x.t - k)) ∧ Below w.heap.size w wr) (fun v9 v10 _ => (intOf v10).toNat - (intOf v9).toNat)
    case atStart => exact ⟨0, n, rfl, rfl, by omega, by omega, Lib.hid ⟨fun z x hz => absurd hz (by omega), fun z x hz hx => absurd (List.getElem?_eq_some_iff.1 hx).1 (by have := HN.out; omega)⟩, by go_grown⟩
    case round =>
      obtain ⟨i, j, rfl, rfl, hij, hj, HI, hb⟩ := hrel
      by_cases hlt : i < j
      · have hmid : (((i : Int) + j) / 2).toNat = (i + j) / 2 := by omega
        obtain ⟨m, hm0⟩ : ∃ m, (i + j) / 2 = m := ⟨_, rfl⟩
        have hm1 : i ≤ m ∧ m < j := by omega
        obtain ⟨m1, m2⟩ := hm1
        have hm3 : ((i : Int) + j) / 2 = (m : Int) := by omega
        obtain ⟨x, hx⟩ := at_lt (l := l) (i := m) (by rw [HN.out]; omega)
        obtain ⟨x0, xa, xn, xc, x1, xh⟩ := hc m x hx
        have HX := Lib.hid hx
        clear hx hmid hm0
        replace x0 := cell_later hb x0
        replace x1 := cell_later hb x1
        go_wp2_with fail
        with_reducible refine (shown1_any x.t k _ _ _ _ (hb2 x (List.mem_iff_getElem?.2 ⟨_, HX.out⟩)) hk2).mono ?_
        rintro e W1 ⟨rfl, hb1⟩
        obtain ⟨hb', hs'⟩ := below_c (w := w) hb1 hb
        clear x0 x1 hb1 hb
        obtain ⟨f, hf⟩ : ∃ f : Int, 16 * x.t - k = f := ⟨_, rfl⟩
        have HF := Lib.hid hf
        rw [hf]
        clear hf
        by_cases hneg : f < 0
        · go_wp2
          go_roundw
          case rel => exact ⟨m + 1, j, by go_num, rfl, by omega, by omega, Lib.hid ⟨fun z y hz hy => hm z m y x (by omega) hy HX.out (show 16 * x.t - k < 0 by rw [HF.out]; exact hneg), HI.out.2⟩, hb'⟩
          case measure => simp [intOf]; omega
        · go_wp2
          go_roundw
          case rel => exact ⟨i, m, rfl, rfl, by omega, by omega, Lib.hid ⟨HI.out.1, fun z y hz hy => Int.not_lt.1 (fun hn => by have h5 : 16 * x.t - k < 0 := hm m z x y hz HX.out hy hn; rw [HF.out] at h5; omega)⟩, hb'⟩
          case measure => simp [intOf]; omega
      · obtain rfl : i = j := by omega
        have HL := Lib.hid (lowerOf_is (f := fun (x : Wld) => 16 * x.t - k) (by rw [HN.out]; exact hj) HI.out.1 HI.out.2)
        by_cases hin : i < n
        · obtain ⟨x, hx⟩ := at_lt (l := l) (i := i) (by rw [HN.out]; omega)
          obtain ⟨x0, xa, xn, xc, x1, xh⟩ := hc i x hx
          have HX := Lib.hid hx
          clear hx
          replace x0 := cell_later hb x0
          replace x1 := cell_later hb x1
          go_wp2_with fail
          with_reducible refine (shown1_any x.t k _ _ _ _ (hb2 x (List.mem_iff_getElem?.2 ⟨_, HX.out⟩)) hk2).mono ?_
          rintro e W1 ⟨rfl, hb1⟩
          obtain ⟨hb', hs'⟩ := below_c (w := w) hb1 hb
          go_wp2
          go_returns
          exact ⟨ret_hit (by rw [HL.out]) (by rw [hit_yes HL.out HX.out, Bool.eq_iff_iff]; simp), hb'⟩
        · go_wp2
          go_returns
          exact ⟨ret_hit (by rw [HL.out]) (by rw [hit_none (by rw [HL.out, HN.out]; omega)]), hb⟩
theorem rises_le {l : List Int} (h : Rises l) : ∀ (b a : Nat), a ≤ b → b < l.length → l.getD a 0 ≤ l.getD b 0
  | 0, a, ha, hb => by obtain rfl : a = 0 := by omega
                       exact Int.le_refl _
  | b + 1, a, ha, hb => by
    rcases Nat.lt_succ_iff_lt_or_eq.1 (Nat.lt_succ_of_le ha) with h1 | h1
    · have := rises_le h b a (by omega) (by omega)
      have := h b (by omega)
      omega
    · rw [h1]; exact Int.le_refl _
theorem rises_lt {l : List Int} (h : Rises l) {a b : Nat} (hab : a < b) (hb : b < l.length) : l.getD a 0 < l.getD b 0 := by
  have h1 := h a (by omega)
  have h2 := rises_le h b (a + 1) (by omega) hb
  omega
theorem mono_rises {α : Type} {key : α → Int} {l : List α} (h : Rises (l.map key)) (k : Int) : Mono (fun x => cmpI (key x) k) l := fun a b x y hab hx hy hf => by
  have hb := (List.getElem?_eq_some_iff.1 hy).1
  have h1 := rises_le h b a hab (by simpa using hb)
  rw [map_at key hx, map_at key hy] at h1
  simp only [cmpI] at hf ⊢
  split at hf <;> split <;> omega
theorem cmp_zero (a b : Int) : cmpI a b = 0 ↔ a = b := by unfold cmpI; (repeat' split) <;> omega
theorem hit_some {α : Type} {f : α → Int} {l : List α} {x : α} (h : hitOf f l = some x) : l[lowerOf f l]? = some x ∧ f x = 0 := by
  unfold hitOf at h
  rw [Option.filter_eq_some_iff] at h
  exact ⟨h.1, by simpa using h.2⟩
theorem hit_find {α : Type} {key : α → Int} {l : List α} (h : Rises (l.map key)) (k : Int) : hitOf (fun x => cmpI (key x) k) l = l.find? (fun x => decide (key x = k)) := by
  obtain ⟨i, hi⟩ : ∃ i, lowerOf (fun x => cmpI (key x) k) l = i := ⟨_, rfl⟩
  have low : ∀ (z : Nat) (y : α), z < i → l[z]? = some y → key y < k := fun z y hz hy => by
    have h1 : z < l.findIdx (fun x => decide (0 ≤ cmpI (key x) k)) := by rw [← hi] at hz; exact hz
    have h2 := List.not_of_lt_findIdx h1
    obtain ⟨hz', rfl⟩ := List.getElem?_eq_some_iff.1 hy
    simp only [decide_eq_true_eq, decide_eq_false_iff_not] at h2
    unfold cmpI at h2
    split at h2 <;> omega
  rcases Nat.lt_or_ge i l.length with hlt | hge
  · have hx : l[i]? = some l[i] := List.getElem?_eq_getElem hlt
    have h0 : 0 ≤ cmpI (key l[i]) k := by
      have h1 : l.findIdx (fun x => decide (0 ≤ cmpI (key x) k)) = i := hi
      have h2 := (List.findIdx_eq hlt).1 h1
      simpa using h2.1
    unfold hitOf
    rw [hi, hx]
    by_cases he : key l[i] = k
    · have e1 : cmpI (key l[i]) k = 0 := (cmp_zero _ _).2 he
      rw [Option.filter_some_pos (by simpa using e1)]
      symm
      rw [List.find?_eq_some_iff_getElem]
      refine ⟨by simpa using he, i, hlt, rfl, fun j hj => ?_⟩
      have := low j l[j] hj (List.getElem?_eq_getElem _)
      simp; omega
    · have e1 : ¬ cmpI (key l[i]) k = 0 := fun e => he ((cmp_zero _ _).1 e)
      rw [Option.filter_some_neg (by simpa using e1)]
      symm
      rw [List.find?_eq_none]
      intro y hy
      obtain ⟨z, hz⟩ := List.mem_iff_getElem?.1 hy
      simp only [decide_eq_true_eq]
      rcases Nat.lt_or_ge z i with h1 | h1
      · have := low z y h1 hz; omega
      · have hzl := (List.getElem?_eq_some_iff.1 hz).1
        have h2 := rises_le h z i h1 (by simpa using hzl)
        rw [map_at key hx, map_at key hz] at h2
        unfold cmpI at h0
        split at h0
        · omega
        · omega
  · unfold hitOf
    rw [hi, List.getElem?_eq_none hge]
    symm
    rw [Option.filter_none, List.find?_eq_none]
    intro y hy
    obtain ⟨z, hz⟩ := List.mem_iff_getElem?.1 hy
    have hzl := (List.getElem?_eq_some_iff.1 hz).1
    have := low z y (by omega) hz
    simp; omega
theorem placeComp_any (l : List Cmp) (v : Value) (k : Int) (w : World) (h : CompsAt w v l) (hr : Rises (l.map Cmp.k)) :
    Calls Tryd.prog 51 #[v, .int .u8 k, .func (.func 52) #[] #[]] w fun e w' => e = .returned (.tuple #[.int .i64 (lowerOf (fun (x : Cmp) => cmpI x.k k) l : Nat), .bool (hitOf (fun (x : Cmp) => cmpI x.k k) l).isSome]) ∧ Below w.heap.size w w' := by
  have hb0 := (Below.refl w.heap.size w).alloc (Nat.le_refl _) (.cells #[.func (.func 52) #[] #[]] 102)
  have hm := mono_rises hr k
  have hc : (w.alloc (.cells #[.func (.func 52) #[] #[]] 102)).cell? ⟨w.heap.size, 0, none⟩ = some (.func (.func 52) #[] #[]) := (Bk.made w #[.func (.func 52) #[] #[]] 102).cell 0 rfl
  have H := Lib.hid (And.intro hm hc)
  clear hm hc
  go_enter Tryd.func51, Tryd.ntmps51
  go_wp2_with fail
  with_reducible refine (bsearchComp_any l _ k _ (h.below hb0) H.out.1 w.heap.size H.out.2).mono ?_
  rintro e w1 ⟨rfl, hb⟩
  obtain ⟨hg1, hs1⟩ := below_c (w := w) hb hb0
  go_wp2
  go_returns
  exact ⟨rfl, hg1⟩
theorem placeEntity_any (l : List Ent) (v : Value) (k : Int) (w : World) (h : EntsAt w v l) (hr : Rises (l.map Ent.id)) :
    Calls Tryd.prog 64 #[v, .int .i64 k, .func (.func 38) #[] #[]] w fun e w' => e = .returned (.tuple #[.int .i64 (lowerOf (fun (x : Ent) => cmpI x.id k) l : Nat), .bool (hitOf (fun (x : Ent) => cmpI x.id k) l).isSome]) ∧ Below w.heap.size w w' := by
  have hb0 := (Below.refl w.heap.size w).alloc (Nat.le_refl _) (.cells #[.func (.func 38) #[] #[]] 82)
  have hm := mono_rises hr k
  have hc : (w.alloc (.cells #[.func (.func 38) #[] #[]] 82)).cell? ⟨w.heap.size, 0, none⟩ = some (.func (.func 38) #[] #[]) := (Bk.made w #[.func (.func 38) #[] #[]] 82).cell 0 rfl
  have H := Lib.hid (And.intro hm hc)
  clear hm hc
  go_enter Tryd.func64, Tryd.ntmps64
  go_wp2_with fail
  with_reducible refine (bsearchEntity_any l _ k _ (h.below hb0) H.out.1 w.heap.size H.out.2).mono ?_
  rintro e w1 ⟨rfl, hb⟩
  obtain ⟨hg1, hs1⟩ := below_c (w := w) hb hb0
  go_wp2
  go_returns
  exact ⟨rfl, hg1⟩
end Go.Proofs.YtjjodmkblpdnhaaDoor
