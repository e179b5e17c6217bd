/- A history that the call owns; interp.owned, marcheslaw15.Copy, marcheslaw28.copied. -/
import Derived.Test.YtjjodmkblpdnhaaDoorInterp3
import Derived.Test.YtjjodmkblpdnhaaDoorInterp6
set_option linter.unusedVariables false
set_option linter.unusedSimpArgs false
namespace Go.Proofs.YtjjodmkblpdnhaaDoor
open Go Go.RowKit Go.Sort
set_option maxRecDepth 100000
attribute [local go_sem] opLow opUpon opLow2 opUpon2

/-- worlds that the call owns, each with entities of its own -/
def HistF (base : Nat) (w : World) (v : Value) (H : List Wld) (ss : List Value) : Prop :=
  H.length < 1099511627776 ∧ ss.length = H.length ∧ w.ownsRow base 27 2 v H.length (evs ((H.map Wld.t).zip ss)) ∧ (∀ (i : Nat) (s : Value) (W : Wld), ss[i]? = some s → H[i]? = some W → Fresh base w s W.es) ∧ Apart2 ss
theorem Fresh.form {base : Nat} {w : World} {s : Value} {l : List Ent} (h : Fresh base w s l) : ∃ a n c, s = .slice a n c := h.ents.form
/-- the same without the apartness -/
def HistE (base : Nat) (w : World) (v : Value) (H : List Wld) (ss : List Value) : Prop :=
  H.length < 1099511627776 ∧ ss.length = H.length ∧ w.ownsRow base 27 2 v H.length (evs ((H.map Wld.t).zip ss)) ∧ (∀ (i : Nat) (s : Value) (W : Wld), ss[i]? = some s → H[i]? = some W → Fresh base w s W.es)
theorem HistF.e {base : Nat} {w : World} {v : Value} {H : List Wld} {ss : List Value} (h : HistF base w v H ss) : HistE base w v H ss := ⟨h.1, h.2.1, h.2.2.1, h.2.2.2.1⟩
theorem HistE.cells {base : Nat} {w : World} {v : Value} {H : List Wld} {ss : List Value} (h : HistE base w v H ss) {i : Nat} {W : Wld} (hW : H[i]? = some W) :
    ∃ g cap cur a n c, v = .slice (some ⟨g, 0, none⟩) H.length cap ∧ base ≤ g ∧ Bk w g cur 27 ∧ ss[i]? = some (.slice a n c) ∧ w.cell? ⟨g, 0 + i * 2, none⟩ = some (.int .i64 W.t) ∧ w.cell? ⟨g, 0 + i * 2 + 1, none⟩ = some (.slice a n c) ∧ Fresh base w (.slice a n c) W.es := by
  obtain ⟨h0, h1, h2, h3⟩ := h
  have hi := (List.getElem?_eq_some_iff.1 hW).1
  obtain ⟨s, hs⟩ := at_lt (l := ss) (i := i) (by omega)
  have hr := h3 i s W hs hW
  obtain ⟨a, n, c, rfl⟩ := hr.form
  rcases h2.2 with ⟨-, g2⟩ | ⟨g, cap, cur, hv, hg, hh, hrr⟩
  · omega
  · have hz : ((H.map Wld.t).zip ss)[i]? = some (W.t, .slice a n c) := by rw [List.getElem?_zip_eq_some]; exact ⟨by simp [hW], hs⟩
    have key : ∀ r, r < 2 → w.cell? ⟨g, i * 2 + r, none⟩ = (ev (W.t, .slice a n c))[r]? := fun r hr' => by
      subst hv
      rw [h2.cellAt (i * 2 + r) (by omega)]
      exact flat_at ev 2 ev_len _ i r _ hz hr'
    exact ⟨g, cap, cur, a, n, c, hv, hg, hh, hs, by rw [Nat.zero_add]; exact key 0 (by omega), by rw [Nat.zero_add]; exact key 1 (by omega), hr⟩
theorem HistF.cells {base : Nat} {w : World} {v : Value} {H : List Wld} {ss : List Value} (h : HistF base w v H ss) {i : Nat} {W : Wld} (hW : H[i]? = some W) :
    ∃ g cap cur a n c, v = .slice (some ⟨g, 0, none⟩) H.length cap ∧ base ≤ g ∧ Bk w g cur 27 ∧ ss[i]? = some (.slice a n c) ∧ w.cell? ⟨g, 0 + i * 2, none⟩ = some (.int .i64 W.t) ∧ w.cell? ⟨g, 0 + i * 2 + 1, none⟩ = some (.slice a n c) ∧ Fresh base w (.slice a n c) W.es := h.e.cells hW
theorem HistE.hist {base : Nat} {w : World} {v : Value} {H : List Wld} {ss : List Value} (h : HistE base w v H ss) : HistAt w v H := by
  rcases hH : H with _ | ⟨x, l⟩
  · subst hH
    rcases h.2.2.1.2 with ⟨g1, g2⟩ | ⟨g, cap, cur, hv, hg, hh, hr⟩
    · exact .inl ⟨g1, rfl⟩
    · exact .inr ⟨g, 0, cap, hv, by simp, fun i W hW => by simp at hW⟩
  · rw [← hH]
    obtain ⟨g, cap, cur, a, n, c, hv, -⟩ := h.cells (i := 0) (W := x) (by rw [hH]; rfl)
    refine .inr ⟨g, 0, cap, hv, h.1, fun i W hW => ?_⟩
    obtain ⟨g', cap', cur', a', n', c', hv', -, -, -, k0, k1, hF⟩ := h.cells hW
    rw [hv] at hv'
    cases hv'
    exact ⟨k0, a', n', c', k1, hF.ents⟩
theorem HistF.hist {base : Nat} {w : World} {v : Value} {H : List Wld} {ss : List Value} (h : HistF base w v H ss) : HistAt w v H := h.e.hist
theorem HistE.cap {base : Nat} {w : World} {a : Option Addr} {n c : Nat} {H : List Wld} {ss : List Value} (h : HistE base w (.slice a n c) H ss) : n ≤ c := by
  rcases h.2.2.1.2 with ⟨g1, g2⟩ | ⟨g, cap, cur, hv, hg, hh, hr⟩
  · cases g1; exact Nat.le_refl _
  · injection hv with h1 h2 h3
    subst h2 h3
    exact hr.1
theorem HistF.below {base : Nat} {w w' : World} {v : Value} {H : List Wld} {ss : List Value} (h : HistF base w v H ss) (hb : Below w.heap.size w w') : HistF base w' v H ss := by
  obtain ⟨h0, h1, h2, h3, h4⟩ := h
  exact ⟨h0, h1, row_below h2 hb, fun i s e hs he => (h3 i s e hs he).below hb, h4⟩
theorem HistF.nil (base : Nat) (w : World) : HistF base w (.slice none 0 0) [] [] := ⟨by simp, rfl, World.ownsRow_nil _ _ _ _, fun i s e h => by simp at h, fun i j s t b hij h => by simp at h⟩
/-- rows of entities and of components stay if the blocks of these types do -/
theorem RowC.keep {base : Nat} {w w2 : World} {s : Value} {l : List Cmp} (h : RowC base w s l) (hk : ∀ b, b < w.heap.size → (∃ cs t, (t = 47 ∨ t = 67) ∧ w.heap[b]? = some (.cells cs t)) → w2.heap[b]? = w.heap[b]?) : RowC base w2 s l := by
  refine ⟨⟨h.1.1, ?_⟩, h.2⟩
  rcases h.1.2 with g1 | ⟨g, cap, cur, hv, hg, hh, r⟩
  · exact .inl g1
  · exact .inr ⟨g, cap, cur, hv, hg, (hk g (Array.getElem?_eq_some_iff.1 hh).1 ⟨cur, _, .inr rfl, hh⟩).trans hh, r⟩
theorem Fresh.keep {base : Nat} {w w2 : World} {v : Value} {es : List Ent} (h : Fresh base w v es) (hk : ∀ b, b < w.heap.size → (∃ cs t, (t = 47 ∨ t = 67) ∧ w.heap[b]? = some (.cells cs t)) → w2.heap[b]? = w.heap[b]?) : Fresh base w2 v es := by
  obtain ⟨hl, ss, h1, h2, h3, h4⟩ := h
  refine ⟨hl, ss, h1, ⟨h2.1, ?_⟩, fun i s e hs he => (h3 i s e hs he).keep hk, h4⟩
  rcases h2.2 with g1 | ⟨g, cap, cur, hv, hg, hh, r⟩
  · exact .inl g1
  · exact .inr ⟨g, cap, cur, hv, hg, (hk g (Array.getElem?_eq_some_iff.1 hh).1 ⟨cur, _, .inl rfl, hh⟩).trans hh, r⟩
theorem Fresh.lt {base : Nat} {w : World} {s : Value} {l : List Ent} (h : Fresh base w s l) {b : Nat} (hb : s.ownBlock = some b) : base ≤ b ∧ b < w.heap.size := by
  obtain ⟨hl, ss, h1, h2, h3, h4⟩ := h
  exact h2.lt b hb
/-- one world more -/
theorem HistF.push {base : Nat} {w wn w2 : World} {v' s : Value} {H : List Wld} {ss : List Value} {W : Wld} (h1 : ss.length = H.length) (h3 : ∀ (i : Nat) (s : Value) (W : Wld), ss[i]? = some s → H[i]? = some W → Fresh base w s W.es) (h4 : Apart2 ss) (h2 : w2.ownsRow base 27 2 v' (H.length + 1) (evs ((H.map Wld.t).zip ss) ++ [.int .i64 W.t, s]))
    (hl : H.length + 1 < 1099511627776) (hs : Fresh wn.heap.size w2 s W.es) (hwn : w.heap.size ≤ wn.heap.size) (hb0 : base ≤ w.heap.size) (hb : ∀ b, b < w.heap.size → (∃ cs t, (t = 47 ∨ t = 67) ∧ w.heap[b]? = some (.cells cs t)) → w2.heap[b]? = w.heap[b]?) : HistF base w2 v' (H ++ [W]) (ss ++ [s]) := by
  refine ⟨by simpa using hl, by simp [h1], ?_, fun i t x ht hx => ?_, fun i j a b c hij ha hb' hc => ?_⟩
  · rw [List.map_append, List.map_cons, List.map_nil, List.zip_append (by simp [h1]), List.length_append]
    unfold evs at h2 ⊢
    rw [List.flatMap_append]
    simpa [ev] using h2
  · rcases Nat.lt_or_ge i H.length with hi | hi
    · rw [List.getElem?_append_left (by omega)] at ht
      rw [List.getElem?_append_left hi] at hx
      exact (h3 i t x ht hx).keep hb
    · rw [List.getElem?_append_right (by omega)] at ht
      rw [List.getElem?_append_right hi] at hx
      rw [h1] at ht
      have e0 : i - H.length = 0 := by
        have := (List.getElem?_eq_some_iff.1 hx).1
        simp at this; omega
      rw [e0] at ht hx
      simp only [List.getElem?_cons_zero, Option.some.injEq] at ht hx
      subst ht hx
      exact hs.mono (by omega)
  · have hjl := (List.getElem?_eq_some_iff.1 hb').1
    simp only [List.length_append, List.length_cons, List.length_nil] at hjl
    rw [List.getElem?_append_left (by omega)] at ha
    rcases Nat.lt_or_ge j ss.length with hj | hj
    · rw [List.getElem?_append_left hj] at hb'
      exact h4 i j a b c hij ha hb' hc
    · rw [List.getElem?_append_right hj, show j - ss.length = 0 by omega] at hb'
      simp only [List.getElem?_cons_zero, Option.some.injEq] at hb'
      subst hb'
      intro he
      have := (hs.lt he).1
      obtain ⟨x, hx⟩ := at_lt (l := H) (i := i) (by omega)
      have := ((h3 i a x ha hx).lt hc).2
      omega
/-- one world more, by append on the row -/
theorem HistF.app {base : Nat} {w wn w2 : World} {v v' s : Value} {H : List Wld} {ss : List Value} {W : Wld} (h : HistF base w v H ss) (hg : wn.grownBy w2 v.ownBlock) (h2 : w2.ownsRow base 27 2 v' (H.length + 1) (evs ((H.map Wld.t).zip ss) ++ [.int .i64 W.t, s]))
    (hl : H.length + 1 < 1099511627776) {w1 : World} (hs : Fresh w1.heap.size wn s W.es) (hw : Below w.heap.size w wn) (hw1 : w.heap.size ≤ w1.heap.size) (hb0 : base ≤ w.heap.size) : HistF base w2 v' (H ++ [W]) (ss ++ [s]) := by
  obtain ⟨k0, k1, k2, k3, k4⟩ := h
  have hr := row_below k2 hw
  refine HistF.push (w := w) (wn := w1) k1 k3 k4 h2 hl (hs.keep fun b hb ⟨cs, t, ht, hc⟩ => hg.block b hb (bk_ne_row (g := b) hc (by rcases ht with rfl | rfl <;> decide) hr)) hw1 hb0 fun b hb ⟨cs, t, ht, hc⟩ => ?_
  exact (hg.block b (Nat.lt_of_lt_of_le hb hw.size) (bk_ne_row (g := b) ((hw.block b hb).trans hc) (by rcases ht with rfl | rfl <;> decide) hr)).trans (hw.block b hb)
/-- a world appended, for reading alone -/
theorem HistE.app {base base' : Nat} {w w2 : World} {v v' s : Value} {H : List Wld} {ss : List Value} {W : Wld} (h : HistE base w v H ss) (hg : w.grownBy w2 v.ownBlock) (h2 : w2.ownsRow base 27 2 v' (H.length + 1) (evs ((H.map Wld.t).zip ss) ++ [.int .i64 W.t, s]))
    (hl : H.length + 1 < 1099511627776) (hs : Fresh base' w s W.es) (hb : base ≤ base') : HistE base w2 v' (H ++ [W]) (ss ++ [s]) := by
  obtain ⟨h0, h1, hr, h3⟩ := h
  have hk : ∀ b, b < w.heap.size → (∃ cs t, (t = 47 ∨ t = 67) ∧ w.heap[b]? = some (.cells cs t)) → w2.heap[b]? = w.heap[b]? := fun b hb ⟨cs, t, ht, hc⟩ => hg.block b hb (bk_ne_row (g := b) hc (by rcases ht with rfl | rfl <;> decide) hr)
  refine ⟨by simpa using hl, by simp [h1], ?_, fun i t x ht hx => ?_⟩
  · rw [List.map_append, List.map_cons, List.map_nil, List.zip_append (by simp [h1]), List.length_append]
    unfold evs at h2 ⊢
    rw [List.flatMap_append]
    simpa [ev] using h2
  · rcases Nat.lt_or_ge i H.length with hi | hi
    · rw [List.getElem?_append_left (by omega)] at ht
      rw [List.getElem?_append_left hi] at hx
      exact (h3 i t x ht hx).keep hk
    · rw [List.getElem?_append_right (by omega)] at ht
      rw [List.getElem?_append_right hi] at hx
      rw [h1] at ht
      have e0 : i - H.length = 0 := by
        have := (List.getElem?_eq_some_iff.1 hx).1
        simp at this; omega
      rw [e0] at ht hx
      simp only [List.getElem?_cons_zero, Option.some.injEq] at ht hx
      subst ht hx
      exact (hs.keep hk).mono hb
theorem HistE.below {base : Nat} {w w' : World} {v : Value} {H : List Wld} {ss : List Value} (h : HistE base w v H ss) (hb : Below w.heap.size w w') : HistE base w' v H ss := by
  obtain ⟨h0, h1, h2, h3⟩ := h
  exact ⟨h0, h1, row_below h2 hb, fun i s e hs he => (h3 i s e hs he).below hb⟩
theorem HistE.mono {base base' : Nat} {w : World} {v : Value} {H : List Wld} {ss : List Value} (h : HistE base w v H ss) (hb : base' ≤ base) : HistE base' w v H ss := by
  obtain ⟨h0, h1, h2, h3⟩ := h
  exact ⟨h0, h1, h2.mono hb, fun i s e hs he => (h3 i s e hs he).mono hb⟩
theorem infoW : (Tryd.prog.info? 27).map (fun i => (i.zero, i.size, i.bytes)) = some (some (.agg #[.int .i64 0, .slice none 0 0]), 2, 32) := by kernel_rfl
set_option maxHeartbeats 4000000 in
theorem owned_any (H : List Wld) (a : Option Addr) (n c : Nat) (w : World) (h : HistAt w (.slice a n c) H) :
    Calls Tryd.prog 26 #[.slice a n c] w fun e w' => ∃ a' n' c' ss, e = .returned (.slice a' n' c') ∧ HistF w.heap.size w' (.slice a' n' c') H ss ∧ Below w.heap.size w w' := by
  have hlen := h.len
  have HL := Lib.hid hlen
  have hn : n < 1099511627776 := by
    rcases h with ⟨_, rfl⟩ | ⟨b, off, cap, _, hl, _⟩
    · rw [hlen]; simp
    · rw [hlen]; exact hl
  obtain ⟨i0, hi, hz0, hz1, hz2⟩ := info_parts infoW
  have HH := Lib.hid h
  clear hlen h
  go_enter Tryd.func26, Tryd.ntmps26
  go_wp2
  go_loopw [3, 8] (fun v3 v8 wr => ∃ (k : Nat) (a' : Option Addr) (n' c' : Nat) (ss : List Value), k ≤ n ∧ v3 = .slice a' n' c' ∧ v8 = .int .i64 k ∧ HistF w.heap.size wr (.slice a' n' c') (H.take k) ss ∧ Below w.heap.size w wr) (fun v3 v8 _ => n - (intOf v8).toNat)
  case atStart => exact ⟨0, none, 0, 0, [], by omega, rfl, rfl, HistF.nil _ _, by go_grown⟩
  case round =>
    obtain ⟨k, a', n', c', ss, hk, rfl, rfl, hF, hb⟩ := hrel
    have hs := hb.size
    by_cases hlt : k < n
    · obtain ⟨x, hx⟩ := at_lt (l := H) (i := k) (by rw [← HL.out]; exact hlt)
      rcases HH.out with ⟨h, hnil⟩ | ⟨b, off, cap, h, hl, hc⟩
      · rw [hnil] at hx; cases hx
      · injection h with h1 h2 h3
        subst h1 h3
        obtain ⟨x0, xa, xn, xc, x1, xh⟩ := hc k x hx
        have HX := Lib.hid hx
        replace x0 := cell_later hb x0
        replace x1 := cell_later hb x1
        replace xh := xh.below hb
        clear hx h2 hc hl
        go_wp2_with fail
        have hd := (Below.refl wr.heap.size wr).alloc (Nat.le_refl _) (.cells #[.int .i64 x.t, .slice xa xn xc] 27)
        obtain ⟨hbd, hsd⟩ := below_c (w := w) hd hb
        have xh := xh.below hd
        have hF1 := hF.below hd
        have hs1 := hd.size
        clear x0 x1 hd hF
        refine (own_any x xa xn xc _ xh).mono ?_
        rintro e W2 ⟨ya, yn, yc, rfl, hFy, hb2⟩
        obtain ⟨hb2', hs2⟩ := below_c (w := w) hb2 hbd
        have hF2 := hF1.below hb2
        have hd := (Below.refl W2.heap.size W2).alloc (Nat.le_refl _) (.cells #[.int .i64 x.t, .slice ya yn yc] 27)
        obtain ⟨hbe, hse⟩ := below_c (w := w) hd hb2'
        have hF3 := hF2.below hd
        have hFy3 := hFy.below hd
        have hd2 := below_c (w := (wr.alloc (.cells #[.int .i64 x.t, .slice xa xn xc] 27))) hd hb2
        have B8 : Bk (W2.alloc (.cells #[.int .i64 x.t, .slice ya yn yc] 27)) W2.heap.size #[.int .i64 x.t, .slice ya yn yc] 27 := Bk.made _ _ _
        have hkk : (H.take k).length = k := by rw [List.length_take, ← HL.out]; omega
        have hown := hF3.2.2.1
        clear hb2 hb2' hF2 hbd hsd xh hFy hd
        go_wp2_with (at_builtin; refine wpList_append_mine _ rfl _ _ 23 rfl w.heap.size 27 i0 (.agg #[.int .i64 0, .slice none 0 0]) 2 32 Tryd.underlying23 hi hz0 hz1 hz2 rfl (by decide) _ _ _ rfl hown ⟨W2.heap.size, 0, none⟩ 1 1 [.int .i64 x.t, .slice ya yn yc] rfl rfl ?c1 ?c2 (by decide) ?c4 ?c5 hse ?_)
        case c1 =>
          intro j u hj
          match j, hj with
          | 0, hj => simp at hj; subst hj; exact B8.cell 0 rfl
          | 1, hj => simp at hj; subst hj; simp [Addr.add]; try exact B8.cell 1 rfl
        case c2 => intro u hu; simp at hu; rcases hu with rfl | rfl <;> rfl
        case c4 => rw [hkk]; unfold maxLen; omega
        case c5 => rw [hkk]; omega
        intro gb cap' w1 hown' hgrow hgb
        change (W2.alloc (.cells #[.int .i64 x.t, .slice ya yn yc] 27)).grownBy w1 (Value.slice a' n' c').ownBlock at hgrow
        have hFr := hF1.app (v' := .slice (some ⟨gb, 0, none⟩) (k + 1) cap') (W := x) (s := .slice ya yn yc) hgrow (by rw [hkk, List.map_take]; exact hown') (by rw [hkk]; omega) hFy3 hd2.1 (Nat.le_refl _) (Nat.le_trans hs hs1)
        have hbw : Below w.heap.size w w1 := hbe.grown hgrow hse (fun b hb' => (hown.lt b hb').1)
        clear hown' hgrow hown B8 hF3 hFy3 hgb hF1 hd2 hbe
        go_wp2
        go_roundw
        case rel => exact ⟨k + 1, _, _, _, _, by omega, rfl, by go_num, by rw [take_succ HX.out]; exact hFr, hbw⟩
        case measure => simp [intOf]; omega
    · obtain rfl : k = n := by omega
      have hall : H.take k = H := List.take_of_length_le (by rw [← HL.out]; omega)
      rw [hall] at hF
      go_wp2
      go_returns
      exact ⟨_, _, _, _, rfl, hF, hb⟩
end Go.Proofs.YtjjodmkblpdnhaaDoor
