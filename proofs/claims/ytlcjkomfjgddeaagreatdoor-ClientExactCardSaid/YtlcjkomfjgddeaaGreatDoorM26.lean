/- slices.DeleteFunc of inputs by the closure of client.Receive. client.Valid. -/
import Derived.Test.YtlcjkomfjgddeaaGreatDoorM25
set_option linter.unusedVariables false
set_option linter.unusedSimpArgs false
namespace Go.Proofs.YtlcjkomfjgddeaaGreatDoor
open Go Go.RowKit Go.Sort
set_option maxRecDepth 100000
attribute [local go_sem] opLow opUpon opLow2 opUpon2

theorem grown_set1 {w0 w : World} {g o : Nat} (u : Value) (h : w0.grownBy w (some g)) : w0.grownBy (w.setCell ⟨g, o, none⟩ u) (some g) :=
  ⟨h.os, h.tape, h.output, by simpa [World.setCell] using h.size, fun k hk hne => (Below.heap_setCell w ⟨g, o, none⟩ u k (fun e => hne (by rw [e]))).trans (h.block k hk hne)⟩
theorem grown_below1 {w0 w w' : World} {row : Option Nat} (h : w0.grownBy w row) (hb : Below w.heap.size w w') : w0.grownBy w' row :=
  ⟨hb.os.trans h.os, hb.tape.trans h.tape, hb.output.trans h.output, Nat.le_trans h.size hb.size, fun k hk hne => (hb.block k (Nat.lt_of_lt_of_le hk h.size)).trans (h.block k hk hne)⟩
theorem grown_trans {w0 w w' : World} {row : Option Nat} (h : w0.grownBy w row) (k : w.grownBy w' row) : w0.grownBy w' row :=
  ⟨k.os.trans h.os, k.tape.trans h.tape, k.output.trans h.output, Nat.le_trans h.size k.size, fun i hi hne => (k.block i (Nat.lt_of_lt_of_le hi h.size) hne).trans (h.block i hi hne)⟩
theorem bk_grown {w w' : World} {g h : Nat} {cs : Array Value} {t : TypeId} (hg : w.grownBy w' (some h)) (hB : Bk w g cs t) (hne : g ≠ h) : Bk w' g cs t := (hg.block g hB.lt (fun e => hne (Option.some.inj e))).trans hB
theorem bk_types1 {w : World} {g g' : Nat} {c c' : Array Value} {t t' : TypeId} (h : Bk w g c t) (h' : Bk w g' c' t') (ht : t ≠ t') : g ≠ g' := by
  intro e
  subst e
  unfold Bk at h h'
  rw [h] at h'
  injection h' with e1
  injection e1 with e2 e3
  exact ht e3
theorem RowI.stored {base : Nat} {w : World} {g n cap : Nat} {l : List Inp} (h : RowI base w (.slice (some ⟨g, 0, none⟩) n cap) l) {j r : Nat} {x y : Inp} {u : Value} (hx : l[j]? = some x) (hr : r < 10) (hu : (iv x).set r u = iv y) :
    RowI base (w.setCell ⟨g, j * 10 + r, none⟩ u) (.slice (some ⟨g, 0, none⟩) n cap) (l.set j y) := by
  obtain rfl := h.len
  refine ⟨?_, by simpa using h.2⟩
  have := (h.1.stored (j * 10 + r) u).1
  rw [List.length_set]
  unfold ivs at this ⊢
  rw [flat_set iv 10 iv_len l j r x y u hx hr hu] at this
  exact this
theorem RowI.store {base : Nat} {w : World} {g n cap : Nat} {l : List Inp} (h : RowI base w (.slice (some ⟨g, 0, none⟩) n cap) l) {j : Nat} {x : Inp} (hx : l[j]? = some x) (y : Inp) :
    RowI base ((((((((((w.setCell ⟨g, j * 10, none⟩ (.int .i64 y.c)).setCell ⟨g, j * 10 + 1, none⟩ (.int .i64 y.s)).setCell ⟨g, j * 10 + 2, none⟩ (.int .i64 y.t)).setCell ⟨g, j * 10 + 3, none⟩ (.int .i64 y.mx)).setCell ⟨g, j * 10 + 4, none⟩ (.int .i64 y.my)).setCell ⟨g, j * 10 + 5, none⟩ (.bool y.fire)).setCell ⟨g, j * 10 + 6, none⟩ (.int .i64 y.ax)).setCell ⟨g, j * 10 + 7, none⟩ (.int .i64 y.ay)).setCell ⟨g, j * 10 + 8, none⟩ (.int .i64 y.seen)).setCell ⟨g, j * 10 + 9, none⟩ (.int .i64 y.part)) (.slice (some ⟨g, 0, none⟩) n cap) (l.set j y) ∧ w.grownBy ((((((((((w.setCell ⟨g, j * 10, none⟩ (.int .i64 y.c)).setCell ⟨g, j * 10 + 1, none⟩ (.int .i64 y.s)).setCell ⟨g, j * 10 + 2, none⟩ (.int .i64 y.t)).setCell ⟨g, j * 10 + 3, none⟩ (.int .i64 y.mx)).setCell ⟨g, j * 10 + 4, none⟩ (.int .i64 y.my)).setCell ⟨g, j * 10 + 5, none⟩ (.bool y.fire)).setCell ⟨g, j * 10 + 6, none⟩ (.int .i64 y.ax)).setCell ⟨g, j * 10 + 7, none⟩ (.int .i64 y.ay)).setCell ⟨g, j * 10 + 8, none⟩ (.int .i64 y.seen)).setCell ⟨g, j * 10 + 9, none⟩ (.int .i64 y.part)) (some g) := by
  have hj := (List.getElem?_eq_some_iff.1 hx).1
  have at_ : ∀ z : Inp, (l.set j z)[j]? = some z := fun z => by rw [List.getElem?_set_self hj]
  have h0 := h.stored (r := 0) (y := ⟨y.c, x.s, x.t, x.mx, x.my, x.fire, x.ax, x.ay, x.seen, x.part⟩) (u := .int .i64 y.c) hx (by decide) rfl
  have h1 := h0.stored (r := 1) (y := ⟨y.c, y.s, x.t, x.mx, x.my, x.fire, x.ax, x.ay, x.seen, x.part⟩) (u := .int .i64 y.s) (at_ _) (by decide) rfl
  rw [List.set_set] at h1
  have h2 := h1.stored (r := 2) (y := ⟨y.c, y.s, y.t, x.mx, x.my, x.fire, x.ax, x.ay, x.seen, x.part⟩) (u := .int .i64 y.t) (at_ _) (by decide) rfl
  rw [List.set_set] at h2
  have h3 := h2.stored (r := 3) (y := ⟨y.c, y.s, y.t, y.mx, x.my, x.fire, x.ax, x.ay, x.seen, x.part⟩) (u := .int .i64 y.mx) (at_ _) (by decide) rfl
  rw [List.set_set] at h3
  have h4 := h3.stored (r := 4) (y := ⟨y.c, y.s, y.t, y.mx, y.my, x.fire, x.ax, x.ay, x.seen, x.part⟩) (u := .int .i64 y.my) (at_ _) (by decide) rfl
  rw [List.set_set] at h4
  have h5 := h4.stored (r := 5) (y := ⟨y.c, y.s, y.t, y.mx, y.my, y.fire, x.ax, x.ay, x.seen, x.part⟩) (u := .bool y.fire) (at_ _) (by decide) rfl
  rw [List.set_set] at h5
  have h6 := h5.stored (r := 6) (y := ⟨y.c, y.s, y.t, y.mx, y.my, y.fire, y.ax, x.ay, x.seen, x.part⟩) (u := .int .i64 y.ax) (at_ _) (by decide) rfl
  rw [List.set_set] at h6
  have h7 := h6.stored (r := 7) (y := ⟨y.c, y.s, y.t, y.mx, y.my, y.fire, y.ax, y.ay, x.seen, x.part⟩) (u := .int .i64 y.ay) (at_ _) (by decide) rfl
  rw [List.set_set] at h7
  have h8 := h7.stored (r := 8) (y := ⟨y.c, y.s, y.t, y.mx, y.my, y.fire, y.ax, y.ay, y.seen, x.part⟩) (u := .int .i64 y.seen) (at_ _) (by decide) rfl
  rw [List.set_set] at h8
  have h9 := h8.stored (r := 9) (y := ⟨y.c, y.s, y.t, y.mx, y.my, y.fire, y.ax, y.ay, y.seen, y.part⟩) (u := .int .i64 y.part) (at_ _) (by decide) rfl
  rw [List.set_set] at h9
  exact ⟨h9, (grown_set1 _ (grown_set1 _ (grown_set1 _ (grown_set1 _ (grown_set1 _ (grown_set1 _ (grown_set1 _ (grown_set1 _ (grown_set1 _ (grown_set1 _ ⟨rfl, rfl, rfl, Nat.le_refl _, fun _ _ _ => rfl⟩))))))))))⟩
theorem zeroIn (w : World) : (zeroValue 37).run Tryz.prog w = .ok (.agg #[.int .i64 0, .int .i64 0, .int .i64 0, .int .i64 0, .int .i64 0, .bool false, .int .i64 0, .int .i64 0, .int .i64 0, .int .i64 0]) w := by kernel_rfl
/-- the inputs that are not acknowledged -/
def leftB (k : Int) (x : Inp) : Bool := !ackB k x
theorem keep_cells {L : List Inp} {i n : Nat} (hl : L.length = n) (hi : i ≤ n) (zs : List Value) (hz : zs.length = (n - i) * 10) :
    (spl (ivs L) (i * 10) zs).take (i * 10) = ivs (L.take i) := by
  have hcl : (ivs L).length = n * 10 := by rw [ivs_len, hl]
  have htl : (L.take i).length = i := by rw [List.length_take, hl]; omega
  have hmul : i * 10 + (n - i) * 10 = n * 10 := by omega
  apply List.ext_getElem?
  intro t
  rw [List.getElem?_take]
  by_cases ht : t < i * 10
  · rw [if_pos ht, spl_get _ _ _ (by rw [hcl, hz]; omega), if_neg (by omega)]
    obtain ⟨a, r, rfl, hr⟩ : ∃ a r, t = a * 10 + r ∧ r < 10 := ⟨t / 10, t % 10, by omega, by omega⟩
    obtain ⟨x, hx⟩ := at_lt (l := L.take i) (i := a) (by rw [htl]; omega)
    have h1 : (ivs (L.take i))[a * 10 + r]? = (iv x)[r]? := flat_at iv 10 iv_len _ a r x hx hr
    rw [h1]
    rw [List.getElem?_take, if_pos (by omega)] at hx
    exact flat_at iv 10 iv_len L a r x hx hr
  · rw [if_neg ht, List.getElem?_eq_none (by rw [ivs_len, htl]; omega)]
/-- what holds at the head of a round -/
def DelAt (l : List Inp) (k : Int) (L : List Inp) (i j : Nat) : Prop := L.length = l.length ∧ L.take i = (l.take j).filter (leftB k) ∧ L.drop j = l.drop j
theorem DelAt.at {l L : List Inp} {k : Int} {i j : Nat} (h : DelAt l k L i j) {x : Inp} (hx : l[j]? = some x) : L[j]? = some x := by
  have h1 := congrArg (fun q : List Inp => q[0]?) h.2.2
  simp only [List.getElem?_drop, Nat.add_zero] at h1
  rw [h1, hx]
theorem DelAt.keep {l L : List Inp} {k : Int} {i j : Nat} (h : DelAt l k L i j) {x : Inp} (hx : l[j]? = some x) (hp : leftB k x = true) (hij : i < j) : DelAt l k (L.set i x) (i + 1) (j + 1) := by
  obtain ⟨h1, h2, h3⟩ := h
  have hj := (List.getElem?_eq_some_iff.1 hx).1
  refine ⟨by rw [List.length_set]; exact h1, ?_, ?_⟩
  · rw [take_succ (List.getElem?_set_self (by omega)), take_succ hx, List.filter_append, List.take_set_of_le (Nat.le_refl _), h2]
    simp [List.filter_cons, hp]
  · rw [List.drop_set_of_lt (by omega), ← List.drop_drop, ← List.drop_drop, h3]
theorem DelAt.skip {l L : List Inp} {k : Int} {i j : Nat} (h : DelAt l k L i j) {x : Inp} (hx : l[j]? = some x) (hp : leftB k x = false) : DelAt l k L i (j + 1) := by
  obtain ⟨h1, h2, h3⟩ := h
  refine ⟨h1, ?_, ?_⟩
  · rw [take_succ hx, List.filter_append, h2]
    simp [List.filter_cons, hp]
  · rw [← List.drop_drop, ← List.drop_drop, h3]
theorem DelAt.start {l : List Inp} {k : Int} {i : Nat} (h : firstOf (ackB k) l = (i : Int)) : i < l.length ∧ DelAt l k l i (i + 1) := by
  have hany : l.any (ackB k) = true := (firstOf_iff (ackB k) l).1 (by rw [h]; omega)
  have hfi : l.findIdx (ackB k) = i := by unfold firstOf at h; rw [if_pos hany] at h; omega
  have hlt : i < l.length := by rw [← hfi]; exact List.findIdx_lt_length.2 (List.any_eq_true.1 hany)
  refine ⟨hlt, rfl, ?_, rfl⟩
  obtain ⟨x, hx⟩ := at_lt hlt
  have hxa : ackB k x = true := by
    have h1 := List.findIdx_getElem (p := ackB k) (xs := l) (w := by rw [hfi]; exact hlt)
    have h2 := (List.getElem?_eq_some_iff.1 hx).2
    subst hfi
    rw [← h2]; exact h1
  rw [take_succ hx, List.filter_append]
  have e1 : (l.take i).filter (leftB k) = l.take i := by
    rw [List.filter_eq_self]
    intro y hy
    obtain ⟨q, hq⟩ := List.mem_iff_getElem?.1 hy
    rw [List.getElem?_take] at hq
    by_cases hqi : q < i
    · rw [if_pos hqi] at hq
      have h3 := List.not_of_lt_findIdx (p := ackB k) (xs := l) (i := q) (by rw [hfi]; exact hqi)
      have h4 := (List.getElem?_eq_some_iff.1 hq).2
      rw [h4] at h3
      unfold leftB
      simpa using h3
    · rw [if_neg hqi] at hq; cases hq
  rw [e1]
  simp [List.filter_cons, leftB, hxa]
theorem left_all {l : List Inp} {k : Int} (h : firstOf (ackB k) l = -1) : l.filter (leftB k) = l := by
  rw [List.filter_eq_self]
  intro y hy
  unfold leftB
  rcases hq : ackB k y with _ | _
  · rfl
  · have := (firstOf_iff (ackB k) l).2 (List.any_eq_true.2 ⟨y, hy, hq⟩)
    omega
def DelPost (base : Nat) (w : World) (v : Value) (l : List Inp) (e : Ending) (w' : World) : Prop := ∃ v', e = .returned v' ∧ RowI base w' v' l ∧ w.grownBy w' v.ownBlock
set_option maxHeartbeats 8000000 in
theorem deleteI_any (base : Nat) (l : List Inp) (v : Value) (k : Int) (gk : Nat) (w : World) (h : RowI base w v l) (hlen : l.length ≤ 64) (hg : Bk w gk #[.int .i64 k] 3) :
    Calls Tryz.prog 44 #[v, .func (.func 45) #[] #[.pointer (some ⟨gk, 0, none⟩)]] w (DelPost base w v (l.filter (leftB k))) := by
  have IX := fun V hV => indexR_any l v V (h.inps.below hV) k gk (hg.below hV)
  rcases h.1.2 with ⟨hv, hl0⟩ | ⟨g, cap, cur, hv, hbg, hBg, hcap, hcap2, -, -⟩
  · subst hv
    have hl : l = [] := List.eq_nil_of_length_eq_zero hl0
    subst hl
    have hf : firstOf (ackB k) [] = -1 := by unfold firstOf; rfl
    rw [hf] at IX
    have HIX := Lib.hid IX
    have HH := Lib.hid h
    clear IX h hf hg hl0 hlen
    go_enter Tryz.func44, Tryz.ntmps44
    go_wp2_with (refine (HIX.out _ (Below.refl _ _)).mono ?_; rintro e V ⟨rfl, hbV⟩)
    go_returns
    exact ⟨_, rfl, HH.out.below hbV, ⟨hbV.os, hbV.tape, hbV.output, hbV.size, fun i hi _ => hbV.block i hi⟩⟩
  · subst hv
    have hgk : gk ≠ g := bk_types1 hg hBg (by decide)
    have hNG := Lib.hid hgk
    have HH := Lib.hid (And.intro h hg)
    obtain ⟨n, hn⟩ : ∃ n, l.length = n := ⟨_, rfl⟩
    rw [hn] at hcap hlen h IX ⊢
    have HN := Lib.hid hn
    unfold maxLen at hcap2
    by_cases hneg : firstOf (ackB k) l < 0
    · have hf : firstOf (ackB k) l = -1 := by
        unfold firstOf at hneg ⊢
        split at hneg
        · omega
        · rename_i hq; rw [if_neg hq]
      rw [left_all hf]
      rw [hf] at IX
      have HIX := Lib.hid IX
      clear IX hf hneg hbg hBg hgk hg hn hcap hcap2 h
      go_enter Tryz.func44, Tryz.ntmps44
      go_wp2_with (refine (HIX.out _ (Below.refl _ _)).mono ?_; rintro e V ⟨rfl, hbV⟩)
      go_returns
      exact ⟨_, rfl, by rw [← HN.out]; exact HH.out.1.below hbV, ⟨hbV.os, hbV.tape, hbV.output, hbV.size, fun i hi _ => hbV.block i hi⟩⟩
    · obtain ⟨i0, hi0⟩ : ∃ i : Nat, firstOf (ackB k) l = (i : Int) := ⟨(firstOf (ackB k) l).toNat, by omega⟩
      obtain ⟨hi0n, hst⟩ := DelAt.start hi0
      rw [hi0] at IX
      rw [hn] at hi0n
      have HIX := Lib.hid IX
      have HST := Lib.hid hst
      have ne1 : ((i0 : Int) == -1) = false := by simp
      clear IX hst hi0 hneg hbg hBg hgk hg hn h
      go_enter Tryz.func44, Tryz.ntmps44
      go_wp2_with fail
      refine (HIX.out _ (Below.refl _ _)).mono ?_
      rintro e V ⟨rfl, hbV⟩
      have hR0 : RowI base V (.slice (some ⟨g, 0, none⟩) n cap) l := by have := HH.out.1.below hbV; rw [HN.out] at this; exact this
      have hK0 := HH.out.2.below hbV
      have hG0 : w.grownBy V (some g) := ⟨hbV.os, hbV.tape, hbV.output, hbV.size, fun i hi _ => hbV.block i hi⟩
      clear hbV
      go_wp2
      go_loopw [5, 6] (fun v5 v6 wr => ∃ (i j : Nat) (L : List Inp), (j ≤ n ∧ i < j ∧ v5 = .int .i64 i ∧ v6 = .int .i64 j) ∧ Hid (DelAt l k L i j) ∧ RowI base wr (.slice (some ⟨g, 0, none⟩) n cap) L ∧ Bk wr gk #[.int .i64 k] 3 ∧ w.grownBy wr (some g)) (fun _ v6 _ => n - (intOf v6).toNat)
      case atStart => exact ⟨i0, i0 + 1, l, ⟨by omega, by omega, rfl, by go_num⟩, HST, hR0, hK0, hG0⟩
      case round =>
        obtain ⟨i, j, L, ⟨hj, hij, rfl, rfl⟩, HD, hR, hK, hG⟩ := hrel
        clear hR0 hK0 hG0 ne1
        by_cases hlt : j < n
        · obtain ⟨x, hx⟩ := at_lt (l := l) (i := j) (by rw [HN.out]; exact hlt)
          have hLx := HD.out.at hx
          have HX := Lib.hid hx
          obtain ⟨x0, x1, x2, x3, x4, x5, x6, x7, x8, x9⟩ := hR.at hLx
          have HRR := Lib.hid hR
          have HKK := Lib.hid hK
          have HGG := Lib.hid hG
          have RV := Lib.hid (fun V (hV : Below wr.heap.size wr V) => recv1_any x k gk V (hK.below hV))
          clear hx hLx hR hK hG
          go_wp2_with fail
          refine (RV.out _ ((Below.refl _ _).alloc (Nat.le_refl _) _)).mono ?_
          rintro e V4 ⟨rfl, hb4⟩
          have Be : Bk V4 wr.heap.size #[.int .i64 x.c, .int .i64 x.s, .int .i64 x.t, .int .i64 x.mx, .int .i64 x.my, .bool x.fire, .int .i64 x.ax, .int .i64 x.ay, .int .i64 x.seen, .int .i64 x.part] 37 := (Bk.made _ _ _).below hb4
          have hb5 : Below wr.heap.size wr V4 := ((Below.refl wr.heap.size wr).alloc (Nat.le_refl _) _).trans (hb4.mono (by simp))
          have hR := HRR.out.below hb5
          have hK := HKK.out.below hb5
          have hG := grown_below1 HGG.out hb5
          obtain ⟨gw, hgw⟩ : ∃ gw, wr.heap.size = gw := ⟨_, rfl⟩
          rw [hgw] at Be ⊢
          clear hb4 hb5 x0 x1 x2 x3 x4 x5 x6 x7 x8 x9 RV hgw HRR HKK HGG
          rcases ho : ackB k x with _ | _
          · have hp : leftB k x = true := by unfold leftB; rw [ho]; rfl
            obtain ⟨z, hz⟩ := at_lt (l := L) (i := i) (by rw [HD.out.1, HN.out]; omega)
            obtain ⟨z0, z1, z2, z3, z4, z5, z6, z7, z8, z9⟩ := hR.at hz
            have hpost := hR.store hz x
            have hfz : ∀ o, V4.frozen? ⟨g, o, none⟩ = false := fun o => by
              obtain rfl := hR.len
              exact hR.1.frozenAt o
            have HP := Lib.hid (And.intro hpost.1 (And.intro (bk_grown hpost.2 hK hNG.out) (grown_trans hG hpost.2)))
            have HD' := Lib.hid (HD.out.keep HX.out hp hij)
            have lg : g < V4.heap.size := World.block_lt_of_cell? V4 _ z0
            have e0 := Be.cell (v := .int .i64 x.c) 0 rfl
            have e1 := Be.cell (v := .int .i64 x.s) 1 rfl
            have e2 := Be.cell (v := .int .i64 x.t) 2 rfl
            have e3 := Be.cell (v := .int .i64 x.mx) 3 rfl
            have e4 := Be.cell (v := .int .i64 x.my) 4 rfl
            have e5 := Be.cell (v := .bool x.fire) 5 rfl
            have e6 := Be.cell (v := .int .i64 x.ax) 6 rfl
            have e7 := Be.cell (v := .int .i64 x.ay) 7 rfl
            have e8 := Be.cell (v := .int .i64 x.seen) 8 rfl
            have e9 := Be.cell (v := .int .i64 x.part) 9 rfl
            have le := Be.lt
            have f0 := hfz (i * 10)
            have f1 := hfz (i * 10 + 1)
            have f2 := hfz (i * 10 + 2)
            have f3 := hfz (i * 10 + 3)
            have f4 := hfz (i * 10 + 4)
            have f5 := hfz (i * 10 + 5)
            have f6 := hfz (i * 10 + 6)
            have f7 := hfz (i * 10 + 7)
            have f8 := hfz (i * 10 + 8)
            have f9 := hfz (i * 10 + 9)
            clear hfz hpost hp hz hR hK hG HX HD ho
            go_wp2
            go_roundw
            case rel => exact ⟨i + 1, j + 1, L.set i x, ⟨by omega, by omega, by go_num, by go_num⟩, HD', HP.out.1, HP.out.2.1, HP.out.2.2⟩
            case measure => simp [intOf]; omega
          · have hp : leftB k x = false := by unfold leftB; rw [ho]; rfl
            have HD' := Lib.hid (HD.out.skip HX.out hp)
            clear hp HX HD ho
            go_wp2
            go_roundw
            case rel => exact ⟨i, j + 1, L, ⟨by omega, by omega, rfl, by go_num⟩, HD', hR, hK, hG⟩
            case measure => simp [intOf]; omega
        · obtain rfl : j = n := by omega
          have hLl : L.length = j := by rw [HD.out.1, HN.out]
          have hfull : L.take i = l.filter (leftB k) := by rw [HD.out.2.1, ← HN.out, List.take_length]
          have hrow : wr.ownsRow base 37 10 (.slice (some ⟨g, 0, none⟩) j cap) j (ivs L) := by rw [← hLl]; exact (hLl.symm ▸ hR.1)
          have hcl : (ivs L).length = j * 10 := by rw [ivs_len, hLl]
          have hmul : i * 10 + (j - i) * 10 = j * 10 := by omega
          have hne : ¬ cap = i := by omega
          have hclr : ∃ W3, (∀ ty c, (Builtin.clear_ #[27] ty #[.slice (some ⟨g, i * 10, none⟩) (j - i) c]).run Tryz.prog wr = .ok (.tuple #[]) W3) ∧ (RowI base W3 (.slice (some ⟨g, 0, none⟩) i cap) (l.filter (leftB k)) ∧ w.grownBy W3 (some g)) := by
            refine ⟨_, fun ty c => run_clear_rows wr 27 37 ty _ 10 Tryz.underlying27 zeroIn rfl (by intro u hu; simp [Value.cells] at hu; rcases hu with rfl | rfl | rfl <;> rfl) g (i * 10) (j - i) c (by omega) (fun q hq => ?_) (fun q hq => hrow.frozenAt _), ?_, ?_⟩
            · rw [hrow.cellAt _ (by omega), List.getElem?_eq_getElem (by rw [hcl]; omega)]
              rfl
            · have hrc := (row_cells (w := wr) (Builtin.zeroCells (Value.agg #[.int .i64 0, .int .i64 0, .int .i64 0, .int .i64 0, .int .i64 0, .bool false, .int .i64 0, .int .i64 0, .int .i64 0, .int .i64 0]).cells (j - i)).toList (i * 10) hrow).1
              have hct := row_cut hrc (show i ≤ j by omega)
              rw [keep_cells hLl (by omega) _ (by rw [zeroCells_len]; rfl), hfull] at hct
              have hel : (l.filter (leftB k)).length = i := by rw [← hfull, List.length_take, hLl]; omega
              exact ⟨by rw [hel]; exact hct, by omega⟩
            · exact grown_trans hG (row_cells (w := wr) (Builtin.zeroCells (Value.agg #[.int .i64 0, .int .i64 0, .int .i64 0, .int .i64 0, .int .i64 0, .bool false, .int .i64 0, .int .i64 0, .int .i64 0, .int .i64 0]).cells (j - i)).toList (i * 10) hrow).2
          obtain ⟨W3, hclr, hpost⟩ := hclr
          have HP := Lib.hid hpost
          have hji : i ≤ j := by omega
          have hji2 : (i : Int) ≤ (j : Int) := by omega
          have hjc : i ≤ cap := by omega
          clear hrow hpost hfull hLl hcl HD hR hK hG hmul
          go_wp2
          go_returns
          exact ⟨_, rfl, HP.out.1, HP.out.2⟩
end Go.Proofs.YtlcjkomfjgddeaaGreatDoor
namespace Go.Proofs.YtlcjkomfjgddeaaGreatDoor
open Go Go.RowKit Go.Sort
set_option maxRecDepth 100000
attribute [local go_sem] opLow opUpon opLow2 opUpon2

/-- a client, as plain data -/
structure Cli where
  id : Int
  gx : Int
  gy : Int
  b : Wld
  ack : Int
  p : List Inp
abbrev ccs (c : Cli) (a : Option Addr) (n cap : Nat) (pa : Option Addr) (pn pc : Nat) : Array Value := #[.int .i64 c.id, .int .i64 c.gx, .int .i64 c.gy, .int .i64 c.b.t, .slice a n cap, .int .i64 c.ack, .slice pa pn pc]
abbrev Cv (c : Cli) (a : Option Addr) (n cap : Nat) (pa : Option Addr) (pn pc : Nat) : Value := .agg (ccs c a n cap pa pn pc)
/-- that inputs are those of a client, and that their numbers rise -/
def risB (id : Int) : Int → List Inp → Bool
  | _, [] => true
  | last, x :: l => decide (x.c = id) && decide (last < x.s) && risB id x.s l
def validC (c : Cli) : Bool := numB c.id && (pullB c.gx c.gy && (decide (Valid c.b) && (decide (0 ≤ c.ack) && (decide (c.p.length ≤ 64) && risB c.id c.ack c.p))))
theorem ret_b {a b : Bool} (h : a = b) : Ending.returned (.bool a) = .returned (.bool b) := by rw [h]
theorem drop_at {α : Type} {l : List α} {j : Nat} {x : α} (h : l[j]? = some x) : l.drop j = x :: l.drop (j + 1) := by
  have hj := (List.getElem?_eq_some_iff.1 h)
  obtain ⟨h1, h2⟩ := hj
  rw [List.drop_eq_getElem_cons h1, h2]
theorem cvalid_bad1 (c : Cli) (a : Option Addr) (n cap : Nat) (pa : Option Addr) (pn pc : Nat) (w : World) (hR : RG w) (h : EntsAt w (.slice a n cap) c.b.es) (hp : InpsAt w (.slice pa pn pc) c.p) (h1 : numB c.id = false) :
    Calls Tryz.prog 12 #[Cv c a n cap pa pn pc] w fun e w' => e = .returned (.bool false) ∧ Below w.heap.size w w' := by
  have N1 := fun W => number_any c.id W
  rw [h1] at N1
  have hpl : pn = c.p.length := ListAt.len hp
  have hpm : pn ≤ 1099511627776 := by
    rcases hp with ⟨hq, hn⟩ | ⟨b, off, cap', _, hl, _⟩
    · rw [hpl, hn]; simp
    · rw [hpl]; omega
  obtain ⟨id, gx, gy, ⟨t, es⟩, ack, p⟩ := c
  simp only at h hp hpl h1 N1 ⊢
  have HN1 := Lib.hid N1
  clear N1 h1 h hp hR hpl
  unfold Cv ccs
  go_enter Tryz.func12, Tryz.ntmps12
  go_wp2_with fail
  refine (HN1.out _).mono ?_
  rintro e V1 ⟨rfl, hb1⟩
  have B1 : Bk V1 w.heap.size #[.int .i64 id, .int .i64 gx, .int .i64 gy, .int .i64 t, .slice a n cap, .int .i64 ack, .slice pa pn pc] 29 := (Bk.made _ _ _).below hb1
  have hb : Below w.heap.size w V1 := ((Below.refl w.heap.size w).alloc (Nat.le_refl _) _).trans (hb1.mono (by simp))
  clear hb1
  have p0 := B1.cell (v := .int .i64 id) 0 rfl
  have p1 := B1.cell (v := .int .i64 gx) 1 rfl
  have p2 := B1.cell (v := .int .i64 gy) 2 rfl
  have p3 := B1.cell (v := .int .i64 t) 3 rfl
  have p4 := B1.cell (v := .slice a n cap) 4 rfl
  have p5 := B1.cell (v := .int .i64 ack) 5 rfl
  have p6 := B1.cell (v := .slice pa pn pc) 6 rfl
  have ltb := B1.lt
  go_wp2
  go_returns
  exact ⟨rfl, hb⟩
theorem cvalid_bad2 (c : Cli) (a : Option Addr) (n cap : Nat) (pa : Option Addr) (pn pc : Nat) (w : World) (hR : RG w) (h : EntsAt w (.slice a n cap) c.b.es) (hp : InpsAt w (.slice pa pn pc) c.p) (h1 : numB c.id = true) (h2 : pullB c.gx c.gy = false) :
    Calls Tryz.prog 12 #[Cv c a n cap pa pn pc] w fun e w' => e = .returned (.bool false) ∧ Below w.heap.size w w' := by
  have N1 := fun W => number_any c.id W
  rw [h1] at N1
  have N2 := fun W => cpull_any c.gx c.gy W
  rw [h2] at N2
  have hpl : pn = c.p.length := ListAt.len hp
  have hpm : pn ≤ 1099511627776 := by
    rcases hp with ⟨hq, hn⟩ | ⟨b, off, cap', _, hl, _⟩
    · rw [hpl, hn]; simp
    · rw [hpl]; omega
  obtain ⟨id, gx, gy, ⟨t, es⟩, ack, p⟩ := c
  simp only at h hp hpl h1 h2 N1 N2 ⊢
  have HN1 := Lib.hid N1
  have HN2 := Lib.hid N2
  clear N1 N2 h1 h2 h hp hR hpl
  unfold Cv ccs
  go_enter Tryz.func12, Tryz.ntmps12
  go_wp2_with fail
  refine (HN1.out _).mono ?_
  rintro e V1 ⟨rfl, hb1⟩
  have B1 : Bk V1 w.heap.size #[.int .i64 id, .int .i64 gx, .int .i64 gy, .int .i64 t, .slice a n cap, .int .i64 ack, .slice pa pn pc] 29 := (Bk.made _ _ _).below hb1
  have hb : Below w.heap.size w V1 := ((Below.refl w.heap.size w).alloc (Nat.le_refl _) _).trans (hb1.mono (by simp))
  clear hb1
  have p0 := B1.cell (v := .int .i64 id) 0 rfl
  have p1 := B1.cell (v := .int .i64 gx) 1 rfl
  have p2 := B1.cell (v := .int .i64 gy) 2 rfl
  have p3 := B1.cell (v := .int .i64 t) 3 rfl
  have p4 := B1.cell (v := .slice a n cap) 4 rfl
  have p5 := B1.cell (v := .int .i64 ack) 5 rfl
  have p6 := B1.cell (v := .slice pa pn pc) 6 rfl
  have ltb := B1.lt
  go_wp2_with fail
  refine (HN2.out _).mono ?_
  rintro e V2 ⟨rfl, hb1⟩
  replace B1 := B1.below hb1
  obtain ⟨hb, -⟩ := below_cc hb1 hb
  clear hb1 p0 p1 p2 p3 p4 p5 p6 ltb
  have p0 := B1.cell (v := .int .i64 id) 0 rfl
  have p1 := B1.cell (v := .int .i64 gx) 1 rfl
  have p2 := B1.cell (v := .int .i64 gy) 2 rfl
  have p3 := B1.cell (v := .int .i64 t) 3 rfl
  have p4 := B1.cell (v := .slice a n cap) 4 rfl
  have p5 := B1.cell (v := .int .i64 ack) 5 rfl
  have p6 := B1.cell (v := .slice pa pn pc) 6 rfl
  have ltb := B1.lt
  go_wp2
  go_returns
  exact ⟨rfl, hb⟩
theorem cvalid_bad3 (c : Cli) (a : Option Addr) (n cap : Nat) (pa : Option Addr) (pn pc : Nat) (w : World) (hR : RG w) (h : EntsAt w (.slice a n cap) c.b.es) (hp : InpsAt w (.slice pa pn pc) c.p) (h1 : numB c.id = true) (h2 : pullB c.gx c.gy = true) (h3 : ¬ Valid c.b) :
    Calls Tryz.prog 12 #[Cv c a n cap pa pn pc] w fun e w' => e = .returned (.bool false) ∧ Below w.heap.size w w' := by
  have N1 := fun W => number_any c.id W
  rw [h1] at N1
  have N2 := fun W => cpull_any c.gx c.gy W
  rw [h2] at N2
  have N3 := fun W hW => valid_any c.b a n cap W (hR.below hW) (h.below hW)
  rw [decide_eq_false h3] at N3
  have hpl : pn = c.p.length := ListAt.len hp
  have hpm : pn ≤ 1099511627776 := by
    rcases hp with ⟨hq, hn⟩ | ⟨b, off, cap', _, hl, _⟩
    · rw [hpl, hn]; simp
    · rw [hpl]; omega
  obtain ⟨id, gx, gy, ⟨t, es⟩, ack, p⟩ := c
  simp only at h hp hpl h1 h2 h3 N1 N2 N3 ⊢
  have HN1 := Lib.hid N1
  have HN2 := Lib.hid N2
  have HN3 := Lib.hid N3
  clear N1 N2 N3 h1 h2 h3 h hp hR hpl
  unfold Cv ccs
  go_enter Tryz.func12, Tryz.ntmps12
  go_wp2_with fail
  refine (HN1.out _).mono ?_
  rintro e V1 ⟨rfl, hb1⟩
  have B1 : Bk V1 w.heap.size #[.int .i64 id, .int .i64 gx, .int .i64 gy, .int .i64 t, .slice a n cap, .int .i64 ack, .slice pa pn pc] 29 := (Bk.made _ _ _).below hb1
  have hb : Below w.heap.size w V1 := ((Below.refl w.heap.size w).alloc (Nat.le_refl _) _).trans (hb1.mono (by simp))
  clear hb1
  have p0 := B1.cell (v := .int .i64 id) 0 rfl
  have p1 := B1.cell (v := .int .i64 gx) 1 rfl
  have p2 := B1.cell (v := .int .i64 gy) 2 rfl
  have p3 := B1.cell (v := .int .i64 t) 3 rfl
  have p4 := B1.cell (v := .slice a n cap) 4 rfl
  have p5 := B1.cell (v := .int .i64 ack) 5 rfl
  have p6 := B1.cell (v := .slice pa pn pc) 6 rfl
  have ltb := B1.lt
  go_wp2_with fail
  refine (HN2.out _).mono ?_
  rintro e V2 ⟨rfl, hb1⟩
  replace B1 := B1.below hb1
  obtain ⟨hb, -⟩ := below_cc hb1 hb
  clear hb1 p0 p1 p2 p3 p4 p5 p6 ltb
  have p0 := B1.cell (v := .int .i64 id) 0 rfl
  have p1 := B1.cell (v := .int .i64 gx) 1 rfl
  have p2 := B1.cell (v := .int .i64 gy) 2 rfl
  have p3 := B1.cell (v := .int .i64 t) 3 rfl
  have p4 := B1.cell (v := .slice a n cap) 4 rfl
  have p5 := B1.cell (v := .int .i64 ack) 5 rfl
  have p6 := B1.cell (v := .slice pa pn pc) 6 rfl
  have ltb := B1.lt
  go_wp2_with fail
  refine (HN3.out _ hb).mono ?_
  rintro e V3 ⟨rfl, hb1⟩
  replace B1 := B1.below hb1
  obtain ⟨hb, -⟩ := below_cc hb1 hb
  clear hb1 p0 p1 p2 p3 p4 p5 p6 ltb
  have p0 := B1.cell (v := .int .i64 id) 0 rfl
  have p1 := B1.cell (v := .int .i64 gx) 1 rfl
  have p2 := B1.cell (v := .int .i64 gy) 2 rfl
  have p3 := B1.cell (v := .int .i64 t) 3 rfl
  have p4 := B1.cell (v := .slice a n cap) 4 rfl
  have p5 := B1.cell (v := .int .i64 ack) 5 rfl
  have p6 := B1.cell (v := .slice pa pn pc) 6 rfl
  have ltb := B1.lt
  go_wp2
  go_returns
  exact ⟨rfl, hb⟩
theorem cvalid_bad4 (c : Cli) (a : Option Addr) (n cap : Nat) (pa : Option Addr) (pn pc : Nat) (w : World) (hR : RG w) (h : EntsAt w (.slice a n cap) c.b.es) (hp : InpsAt w (.slice pa pn pc) c.p) (h1 : numB c.id = true) (h2 : pullB c.gx c.gy = true) (h3 : Valid c.b) (h4 : ¬ 0 ≤ c.ack) :
    Calls Tryz.prog 12 #[Cv c a n cap pa pn pc] w fun e w' => e = .returned (.bool false) ∧ Below w.heap.size w w' := by
  have N1 := fun W => number_any c.id W
  rw [h1] at N1
  have N2 := fun W => cpull_any c.gx c.gy W
  rw [h2] at N2
  have N3 := fun W hW => valid_any c.b a n cap W (hR.below hW) (h.below hW)
  rw [decide_eq_true h3] at N3
  have hpl : pn = c.p.length := ListAt.len hp
  have hpm : pn ≤ 1099511627776 := by
    rcases hp with ⟨hq, hn⟩ | ⟨b, off, cap', _, hl, _⟩
    · rw [hpl, hn]; simp
    · rw [hpl]; omega
  obtain ⟨id, gx, gy, ⟨t, es⟩, ack, p⟩ := c
  simp only at h hp hpl h1 h2 h3 h4 N1 N2 N3 ⊢
  have HN1 := Lib.hid N1
  have HN2 := Lib.hid N2
  have HN3 := Lib.hid N3
  have d4 : decide (ack < 0) = true := by simp; omega
  clear N1 N2 N3 h1 h2 h3 h4 h hp hR hpl
  unfold Cv ccs
  go_enter Tryz.func12, Tryz.ntmps12
  go_wp2_with fail
  refine (HN1.out _).mono ?_
  rintro e V1 ⟨rfl, hb1⟩
  have B1 : Bk V1 w.heap.size #[.int .i64 id, .int .i64 gx, .int .i64 gy, .int .i64 t, .slice a n cap, .int .i64 ack, .slice pa pn pc] 29 := (Bk.made _ _ _).below hb1
  have hb : Below w.heap.size w V1 := ((Below.refl w.heap.size w).alloc (Nat.le_refl _) _).trans (hb1.mono (by simp))
  clear hb1
  have p0 := B1.cell (v := .int .i64 id) 0 rfl
  have p1 := B1.cell (v := .int .i64 gx) 1 rfl
  have p2 := B1.cell (v := .int .i64 gy) 2 rfl
  have p3 := B1.cell (v := .int .i64 t) 3 rfl
  have p4 := B1.cell (v := .slice a n cap) 4 rfl
  have p5 := B1.cell (v := .int .i64 ack) 5 rfl
  have p6 := B1.cell (v := .slice pa pn pc) 6 rfl
  have ltb := B1.lt
  go_wp2_with fail
  refine (HN2.out _).mono ?_
  rintro e V2 ⟨rfl, hb1⟩
  replace B1 := B1.below hb1
  obtain ⟨hb, -⟩ := below_cc hb1 hb
  clear hb1 p0 p1 p2 p3 p4 p5 p6 ltb
  have p0 := B1.cell (v := .int .i64 id) 0 rfl
  have p1 := B1.cell (v := .int .i64 gx) 1 rfl
  have p2 := B1.cell (v := .int .i64 gy) 2 rfl
  have p3 := B1.cell (v := .int .i64 t) 3 rfl
  have p4 := B1.cell (v := .slice a n cap) 4 rfl
  have p5 := B1.cell (v := .int .i64 ack) 5 rfl
  have p6 := B1.cell (v := .slice pa pn pc) 6 rfl
  have ltb := B1.lt
  go_wp2_with fail
  refine (HN3.out _ hb).mono ?_
  rintro e V3 ⟨rfl, hb1⟩
  replace B1 := B1.below hb1
  obtain ⟨hb, -⟩ := below_cc hb1 hb
  clear hb1 p0 p1 p2 p3 p4 p5 p6 ltb
  have p0 := B1.cell (v := .int .i64 id) 0 rfl
  have p1 := B1.cell (v := .int .i64 gx) 1 rfl
  have p2 := B1.cell (v := .int .i64 gy) 2 rfl
  have p3 := B1.cell (v := .int .i64 t) 3 rfl
  have p4 := B1.cell (v := .slice a n cap) 4 rfl
  have p5 := B1.cell (v := .int .i64 ack) 5 rfl
  have p6 := B1.cell (v := .slice pa pn pc) 6 rfl
  have ltb := B1.lt
  go_wp2
  go_returns
  exact ⟨rfl, hb⟩
theorem cvalid_bad5 (c : Cli) (a : Option Addr) (n cap : Nat) (pa : Option Addr) (pn pc : Nat) (w : World) (hR : RG w) (h : EntsAt w (.slice a n cap) c.b.es) (hp : InpsAt w (.slice pa pn pc) c.p) (h1 : numB c.id = true) (h2 : pullB c.gx c.gy = true) (h3 : Valid c.b) (h4 : 0 ≤ c.ack) (h5 : ¬ c.p.length ≤ 64) :
    Calls Tryz.prog 12 #[Cv c a n cap pa pn pc] w fun e w' => e = .returned (.bool false) ∧ Below w.heap.size w w' := by
  have N1 := fun W => number_any c.id W
  rw [h1] at N1
  have N2 := fun W => cpull_any c.gx c.gy W
  rw [h2] at N2
  have N3 := fun W hW => valid_any c.b a n cap W (hR.below hW) (h.below hW)
  rw [decide_eq_true h3] at N3
  have hpl : pn = c.p.length := ListAt.len hp
  have hpm : pn ≤ 1099511627776 := by
    rcases hp with ⟨hq, hn⟩ | ⟨b, off, cap', _, hl, _⟩
    · rw [hpl, hn]; simp
    · rw [hpl]; omega
  obtain ⟨id, gx, gy, ⟨t, es⟩, ack, p⟩ := c
  simp only at h hp hpl h1 h2 h3 h4 h5 N1 N2 N3 ⊢
  have HN1 := Lib.hid N1
  have HN2 := Lib.hid N2
  have HN3 := Lib.hid N3
  have d4 : decide (ack < 0) = false := by simp; omega
  have d5 : decide ((pn : Int) > 64) = true := by simp; omega
  have d5' : decide (64 < pn) = true := by simp; omega
  clear N1 N2 N3 h1 h2 h3 h4 h5 h hp hR hpl
  unfold Cv ccs
  go_enter Tryz.func12, Tryz.ntmps12
  go_wp2_with fail
  refine (HN1.out _).mono ?_
  rintro e V1 ⟨rfl, hb1⟩
  have B1 : Bk V1 w.heap.size #[.int .i64 id, .int .i64 gx, .int .i64 gy, .int .i64 t, .slice a n cap, .int .i64 ack, .slice pa pn pc] 29 := (Bk.made _ _ _).below hb1
  have hb : Below w.heap.size w V1 := ((Below.refl w.heap.size w).alloc (Nat.le_refl _) _).trans (hb1.mono (by simp))
  clear hb1
  have p0 := B1.cell (v := .int .i64 id) 0 rfl
  have p1 := B1.cell (v := .int .i64 gx) 1 rfl
  have p2 := B1.cell (v := .int .i64 gy) 2 rfl
  have p3 := B1.cell (v := .int .i64 t) 3 rfl
  have p4 := B1.cell (v := .slice a n cap) 4 rfl
  have p5 := B1.cell (v := .int .i64 ack) 5 rfl
  have p6 := B1.cell (v := .slice pa pn pc) 6 rfl
  have ltb := B1.lt
  go_wp2_with fail
  refine (HN2.out _).mono ?_
  rintro e V2 ⟨rfl, hb1⟩
  replace B1 := B1.below hb1
  obtain ⟨hb, -⟩ := below_cc hb1 hb
  clear hb1 p0 p1 p2 p3 p4 p5 p6 ltb
  have p0 := B1.cell (v := .int .i64 id) 0 rfl
  have p1 := B1.cell (v := .int .i64 gx) 1 rfl
  have p2 := B1.cell (v := .int .i64 gy) 2 rfl
  have p3 := B1.cell (v := .int .i64 t) 3 rfl
  have p4 := B1.cell (v := .slice a n cap) 4 rfl
  have p5 := B1.cell (v := .int .i64 ack) 5 rfl
  have p6 := B1.cell (v := .slice pa pn pc) 6 rfl
  have ltb := B1.lt
  go_wp2_with fail
  refine (HN3.out _ hb).mono ?_
  rintro e V3 ⟨rfl, hb1⟩
  replace B1 := B1.below hb1
  obtain ⟨hb, -⟩ := below_cc hb1 hb
  clear hb1 p0 p1 p2 p3 p4 p5 p6 ltb
  have p0 := B1.cell (v := .int .i64 id) 0 rfl
  have p1 := B1.cell (v := .int .i64 gx) 1 rfl
  have p2 := B1.cell (v := .int .i64 gy) 2 rfl
  have p3 := B1.cell (v := .int .i64 t) 3 rfl
  have p4 := B1.cell (v := .slice a n cap) 4 rfl
  have p5 := B1.cell (v := .int .i64 ack) 5 rfl
  have p6 := B1.cell (v := .slice pa pn pc) 6 rfl
  have ltb := B1.lt
  go_wp2
  go_returns
  exact ⟨rfl, hb⟩
set_option maxHeartbeats 4000000 in
theorem cvalid_last (c : Cli) (a : Option Addr) (n cap : Nat) (pa : Option Addr) (pn pc : Nat) (w : World) (hR : RG w) (h : EntsAt w (.slice a n cap) c.b.es) (hp : InpsAt w (.slice pa pn pc) c.p) (h1 : numB c.id = true) (h2 : pullB c.gx c.gy = true) (h3 : Valid c.b) (h4 : 0 ≤ c.ack) (h5 : c.p.length ≤ 64) :
    Calls Tryz.prog 12 #[Cv c a n cap pa pn pc] w fun e w' => e = .returned (.bool (risB c.id c.ack c.p)) ∧ Below w.heap.size w w' := by
  have N1 := fun W => number_any c.id W
  have N2 := fun W => cpull_any c.gx c.gy W
  have N3 := fun W hW => valid_any c.b a n cap W (hR.below hW) (h.below hW)
  rw [h1] at N1
  rw [h2] at N2
  rw [decide_eq_true h3] at N3
  obtain ⟨id, gx, gy, ⟨t, es⟩, ack, p⟩ := c
  simp only at h h1 h2 h3 h4 h5 hp N1 N2 N3 ⊢
  have hpl : pn = p.length := ListAt.len hp
  have d4 : decide (ack < 0) = false := by simpa using h4
  have d5 : decide ((pn : Int) > 64) = false := by simp; omega
  have d5' : decide (64 < pn) = false := by simp; omega
  have h5n : pn ≤ 64 := by omega
  have HN1 := Lib.hid N1
  have HN2 := Lib.hid N2
  have HN3 := Lib.hid N3
  have HH := Lib.hid (And.intro h hp)
  have HPL := Lib.hid hpl
  clear N1 N2 N3 h hp hR h1 h2 h3 h4 h5 hpl
  unfold Cv ccs
  go_enter Tryz.func12, Tryz.ntmps12
  go_wp2_with fail
  refine (HN1.out _).mono ?_
  rintro e V1 ⟨rfl, hb1⟩
  have B1 : Bk V1 w.heap.size #[.int .i64 id, .int .i64 gx, .int .i64 gy, .int .i64 t, .slice a n cap, .int .i64 ack, .slice pa pn pc] 29 := (Bk.made _ _ _).below hb1
  have hb : Below w.heap.size w V1 := ((Below.refl w.heap.size w).alloc (Nat.le_refl _) _).trans (hb1.mono (by simp))
  clear hb1
  have p0 := B1.cell (v := .int .i64 id) 0 rfl
  have p1 := B1.cell (v := .int .i64 gx) 1 rfl
  have p2 := B1.cell (v := .int .i64 gy) 2 rfl
  have p3 := B1.cell (v := .int .i64 t) 3 rfl
  have p4 := B1.cell (v := .slice a n cap) 4 rfl
  have p5 := B1.cell (v := .int .i64 ack) 5 rfl
  have p6 := B1.cell (v := .slice pa pn pc) 6 rfl
  have ltb := B1.lt
  go_wp2_with fail
  refine (HN2.out _).mono ?_
  rintro e V2 ⟨rfl, hb1⟩
  replace B1 := B1.below hb1
  obtain ⟨hb, -⟩ := below_cc hb1 hb
  clear hb1 p0 p1 p2 p3 p4 p5 p6 ltb
  have p0 := B1.cell (v := .int .i64 id) 0 rfl
  have p1 := B1.cell (v := .int .i64 gx) 1 rfl
  have p2 := B1.cell (v := .int .i64 gy) 2 rfl
  have p3 := B1.cell (v := .int .i64 t) 3 rfl
  have p4 := B1.cell (v := .slice a n cap) 4 rfl
  have p5 := B1.cell (v := .int .i64 ack) 5 rfl
  have p6 := B1.cell (v := .slice pa pn pc) 6 rfl
  have ltb := B1.lt
  go_wp2_with fail
  refine (HN3.out _ hb).mono ?_
  rintro e V3 ⟨rfl, hb1⟩
  replace B1 := B1.below hb1
  obtain ⟨hb, -⟩ := below_cc hb1 hb
  clear hb1 p0 p1 p2 p3 p4 p5 p6 ltb
  have p0 := B1.cell (v := .int .i64 id) 0 rfl
  have p1 := B1.cell (v := .int .i64 gx) 1 rfl
  have p2 := B1.cell (v := .int .i64 gy) 2 rfl
  have p3 := B1.cell (v := .int .i64 t) 3 rfl
  have p4 := B1.cell (v := .slice a n cap) 4 rfl
  have p5 := B1.cell (v := .int .i64 ack) 5 rfl
  have p6 := B1.cell (v := .slice pa pn pc) 6 rfl
  have ltb := B1.lt
  go_wp2
  clear p0 p1 p2 p3 p4 p5 p6 ltb
  go_loopw [3, 38] (fun v3 v38 wr => ∃ (j : Nat) (ls : Int), (j ≤ pn ∧ v38 = .int .i64 j ∧ v3 = .int .i64 ls) ∧ Hid (risB id ack p = risB id ls (p.drop j)) ∧ Bk wr w.heap.size #[.int .i64 id, .int .i64 gx, .int .i64 gy, .int .i64 t, .slice a n cap, .int .i64 ack, .slice pa pn pc] 29 ∧ Below w.heap.size w wr) (fun _ v38 _ => pn - (intOf v38).toNat)
  case atStart => exact ⟨0, ack, ⟨by omega, rfl, rfl⟩, Lib.hid rfl, B1, hb⟩
  case round =>
    obtain ⟨j, ls, ⟨hj, rfl, rfl⟩, HJ, B1, hb⟩ := hrel
    by_cases hlt : j < pn
    · obtain ⟨x, hx⟩ := at_lt (l := p) (i := j) (by rw [← HPL.out]; exact hlt)
      rcases HH.out.2 with ⟨hq, hnil⟩ | ⟨b, off, cap', hq, hl, hc⟩
      · rw [hnil] at hx; cases hx
      · injection hq with q1 q2 q3
        subst q1 q3
        have hat := hc j x hx
        have hdr := drop_at hx
        have hstep : risB id ack p = (decide (x.c = id) && decide (ls < x.s) && risB id x.s (p.drop (j + 1))) := by rw [HJ.out, hdr]; rfl
        have HS := Lib.hid hstep
        clear hstep hdr hx hc hl q2 HJ
        obtain ⟨x0, x1, x2, x3, x4, x5, x6, x7, x8, x9⟩ := hat
        replace x0 := cell_later hb x0
        replace x1 := cell_later hb x1
        replace x2 := cell_later hb x2
        replace x3 := cell_later hb x3
        replace x4 := cell_later hb x4
        replace x5 := cell_later hb x5
        replace x6 := cell_later hb x6
        replace x7 := cell_later hb x7
        replace x8 := cell_later hb x8
        replace x9 := cell_later hb x9
        have p0 := B1.cell (v := .int .i64 id) 0 rfl
        have ltb := B1.lt
        have hwr := hb.size
        obtain ⟨xc, xs, xt, xmx, xmy, xfire, xax, xay, xseen, xpart⟩ := x
        simp only at x0 x1 x2 x3 x4 x5 x6 x7 x8 x9 HS
        by_cases e1 : xc = id
        · subst e1
          by_cases e2 : ls < xs
          · have d2 : decide (xs ≤ ls) = false := by simpa using e2
            have hs2 : risB xc ack p = risB xc xs (p.drop (j + 1)) := by rw [HS.out, decide_eq_true e2]; simp
            have HS2 := Lib.hid hs2
            clear hs2 HS
            go_wp2
            go_roundw
            case rel => exact ⟨j + 1, xs, ⟨by omega, by go_num, rfl⟩, HS2, B1.alloc _, hb.alloc hwr _⟩
            case measure => simp [intOf]; omega
          · have d2 : decide (xs ≤ ls) = true := by simp; omega
            have hs2 : risB xc ack p = false := by rw [HS.out, decide_eq_false e2]; simp
            have HS2 := Lib.hid hs2
            clear hs2 HS e2
            go_wp2
            go_returns
            exact ⟨ret_b HS2.out.symm, hb.alloc hwr _⟩
        · have d1 : ((xc : Int) != id) = true := by simpa using e1
          have hs2 : risB id ack p = false := by rw [HS.out, decide_eq_false e1]; simp
          have HS2 := Lib.hid hs2
          clear hs2 HS e1
          go_wp2
          go_returns
          exact ⟨ret_b HS2.out.symm, hb.alloc hwr _⟩
    · obtain rfl : j = pn := by omega
      have hfull : risB id ack p = true := by rw [HJ.out, List.drop_of_length_le (by rw [HPL.out]; exact Nat.le_refl _)]; rfl
      have HS2 := Lib.hid hfull
      clear hfull HJ
      go_wp2
      go_returns
      exact ⟨ret_b HS2.out.symm, hb⟩
theorem cvalid_any (c : Cli) (a : Option Addr) (n cap : Nat) (pa : Option Addr) (pn pc : Nat) (w : World) (hR : RG w) (h : EntsAt w (.slice a n cap) c.b.es) (hp : InpsAt w (.slice pa pn pc) c.p) :
    Calls Tryz.prog 12 #[Cv c a n cap pa pn pc] w fun e w' => e = .returned (.bool (validC c)) ∧ Below w.heap.size w w' := by
  unfold validC
  rcases h1 : numB c.id with _ | _
  · exact cvalid_bad1 c a n cap pa pn pc w hR h hp h1
  rcases h2 : pullB c.gx c.gy with _ | _
  · exact cvalid_bad2 c a n cap pa pn pc w hR h hp h1 h2
  by_cases h3 : Valid c.b
  · by_cases h4 : 0 ≤ c.ack
    · by_cases h5 : c.p.length ≤ 64
      · have := cvalid_last c a n cap pa pn pc w hR h hp h1 h2 h3 h4 h5
        rw [decide_eq_true h3, decide_eq_true h4, decide_eq_true h5]
        simpa using this
      · rw [decide_eq_false h5]
        simpa using cvalid_bad5 c a n cap pa pn pc w hR h hp h1 h2 h3 h4 h5
    · rw [decide_eq_false h4]
      simpa using cvalid_bad4 c a n cap pa pn pc w hR h hp h1 h2 h3 h4
  · rw [decide_eq_false h3]
    simpa using cvalid_bad3 c a n cap pa pn pc w hR h hp h1 h2 h3
end Go.Proofs.YtlcjkomfjgddeaaGreatDoor
