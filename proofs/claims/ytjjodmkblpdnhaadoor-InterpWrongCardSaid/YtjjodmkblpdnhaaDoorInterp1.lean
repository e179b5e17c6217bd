/- Worlds that a call has made itself; slices.Clone, interp.own. -/
import Derived.Test.YtjjodmkblpdnhaaDoorStore4
set_option linter.unusedVariables false
set_option linter.unusedSimpArgs false
namespace Go.Proofs.YtjjodmkblpdnhaaDoor
open Go Go.RowKit Go.Sort
set_option maxRecDepth 100000
attribute [local go_sem] opLow opUpon opLow2 opUpon2

theorem flat_at {α β : Type} (f : α → List β) (k : Nat) (hk : ∀ x, (f x).length = k) : ∀ (l : List α) (i r : Nat) (x : α), l[i]? = some x → r < k → (l.flatMap f)[i * k + r]? = (f x)[r]?
  | [], i, r, x, h, _ => by simp at h
  | y :: l, 0, r, x, h, hr => by
    simp only [List.getElem?_cons_zero, Option.some.injEq] at h
    subst h
    rw [List.flatMap_cons, Nat.zero_mul, Nat.zero_add, List.getElem?_append_left (by rw [hk]; exact hr)]
  | y :: l, i + 1, r, x, h, hr => by
    simp only [List.getElem?_cons_succ] at h
    rw [List.flatMap_cons, List.getElem?_append_right (by rw [hk, Nat.add_mul]; omega), hk, show (i + 1) * k + r - k = i * k + r by rw [Nat.add_mul]; omega]
    exact flat_at f k hk l i r x h hr
theorem flat_of {α β : Type} (f : α → List β) (k : Nat) (hk : ∀ x, (f x).length = k) : ∀ (l : List α) (j : Nat) (u : β), (l.flatMap f)[j]? = some u → ∃ i r x, j = i * k + r ∧ r < k ∧ l[i]? = some x ∧ (f x)[r]? = some u
  | [], j, u, h => by simp at h
  | y :: l, j, u, h => by
    rw [List.flatMap_cons] at h
    rcases Nat.lt_or_ge j k with hj | hj
    · rw [List.getElem?_append_left (by rw [hk]; exact hj)] at h
      exact ⟨0, j, y, by omega, hj, rfl, h⟩
    · rw [List.getElem?_append_right (by rw [hk]; exact hj), hk] at h
      obtain ⟨i, r, x, h1, h2, h3, h4⟩ := flat_of f k hk l (j - k) u h
      exact ⟨i + 1, r, x, by rw [Nat.add_mul]; omega, h2, h3, h4⟩
theorem flat_len {α β : Type} (f : α → List β) (k : Nat) (hk : ∀ x, (f x).length = k) : ∀ (l : List α), (l.flatMap f).length = l.length * k
  | [] => by simp
  | y :: l => by rw [List.flatMap_cons, List.length_append, hk, flat_len f k hk l, List.length_cons, Nat.add_mul]; omega

/-- the cells of components -/
def cv (x : Cmp) : List Value := [.int .u8 x.k, .int .i64 x.a, .int .i64 x.b, .int .i64 x.c, .int .i64 x.d]
def cvs (l : List Cmp) : List Value := l.flatMap cv
theorem cv_len (x : Cmp) : (cv x).length = 5 := rfl
theorem cvs_len (l : List Cmp) : (cvs l).length = l.length * 5 := flat_len cv 5 cv_len l
theorem cvs_one (l : List Cmp) : ∀ u ∈ cvs l, u.oneCell' = true := by
  intro u hu
  obtain ⟨x, -, hx⟩ := List.mem_flatMap.1 hu
  simp only [cv, List.mem_cons, List.not_mem_nil, or_false] at hx
  rcases hx with rfl | rfl | rfl | rfl | rfl <;> rfl
def Kinds (l : List Cmp) : Prop := (∀ x ∈ l, 0 ≤ x.k ∧ x.k ≤ 255) ∧ l.length < 1099511627776
/-- components that the call owns -/
def RowC (base : Nat) (w : World) (s : Value) (l : List Cmp) : Prop := w.ownsRow base 67 5 s l.length (cvs l) ∧ Kinds l
theorem CompsAt.kinds {w : World} {v : Value} {l : List Cmp} (h : CompsAt w v l) : Kinds l := by
  rcases h with ⟨_, rfl⟩ | ⟨b, off, cap, _, hl, hc⟩
  · exact ⟨fun x hx => (by cases hx), by simp⟩
  · exact ⟨fun x hx => by obtain ⟨i, hi⟩ := List.mem_iff_getElem?.1 hx; exact (hc i x hi).2, hl⟩
theorem CompsAt.cell {w : World} {b off n cap : Nat} {l : List Cmp} (h : CompsAt w (.slice (some ⟨b, off, none⟩) n cap) l) : ∀ j u, (cvs l)[j]? = some u → w.cell? ((⟨b, off, none⟩ : Addr).add j) = some u := by
  rcases h with ⟨h, _⟩ | ⟨b', off', cap', h, hl, hc⟩
  · cases h
  · cases h
    intro j u hu
    obtain ⟨i, r, x, rfl, hr, hx, hu⟩ := flat_of cv 5 cv_len l j u hu
    obtain ⟨⟨h0, h1, h2, h3, h4⟩, -⟩ := hc i x hx
    rw [Addr.add_lit, ← Nat.add_assoc]
    rcases (by omega : r = 0 ∨ r = 1 ∨ r = 2 ∨ r = 3 ∨ r = 4) with rfl | rfl | rfl | rfl | rfl <;> simp only [cv, List.getElem?_cons_zero, List.getElem?_cons_succ, Option.some.injEq] at hu <;> subst hu
    · exact h0
    · exact h1
    · exact h2
    · exact h3
    · exact h4
theorem RowC.comps {base : Nat} {w : World} {s : Value} {l : List Cmp} (h : RowC base w s l) : CompsAt w s l := by
  obtain ⟨hr, hk⟩ := h
  rcases hr.2 with ⟨h1, h2⟩ | ⟨g, cap, cur, hv, hg, hh, h3⟩
  · exact .inl ⟨h1, List.eq_nil_of_length_eq_zero h2⟩
  · refine .inr ⟨g, 0, cap, hv, hk.2, fun i x hx => ⟨?_, hk.1 x (List.mem_iff_getElem?.2 ⟨i, hx⟩)⟩⟩
    subst hv
    have hi := (List.getElem?_eq_some_iff.1 hx).1
    have key : ∀ r, r < 5 → w.cell? ⟨g, i * 5 + r, none⟩ = (cv x)[r]? := fun r hr' => by
      rw [hr.cellAt (i * 5 + r) (by omega)]
      exact flat_at cv 5 cv_len l i r x hx hr'
    simp only [Nat.zero_add]
    exact ⟨key 0 (by omega), key 1 (by omega), key 2 (by omega), key 3 (by omega), key 4 (by omega)⟩
theorem row_below {w w' : World} {base e size n : Nat} {v : Value} {xs : List Value} (h : w.ownsRow base e size v n xs) (hb : Below w.heap.size w w') : w'.ownsRow base e size v n xs := by
  obtain ⟨h1, h2⟩ := h
  refine ⟨h1, ?_⟩
  rcases h2 with h2 | ⟨g, cap, cur, hv, hg, hh, r⟩
  · exact .inl h2
  · exact .inr ⟨g, cap, cur, hv, hg, (hb.block g (Array.getElem?_eq_some_iff.1 hh).1).trans hh, r⟩
theorem RowC.below {base : Nat} {w w' : World} {s : Value} {l : List Cmp} (h : RowC base w s l) (hb : Below w.heap.size w w') : RowC base w' s l := ⟨row_below h.1 hb, h.2⟩
theorem infoC : (Tryd.prog.info? 67).map (fun i => (i.zero, i.size, i.bytes)) = some (some (.agg #[.int .u8 0, .int .i64 0, .int .i64 0, .int .i64 0, .int .i64 0]), 5, 40) := by kernel_rfl
set_option maxHeartbeats 1000000 in
theorem cloneC_any (s : Value) (l : List Cmp) (w : World) (h : CompsAt w s l) :
    Calls Tryd.prog 43 #[s] w fun e w' => ∃ v, e = .returned v ∧ RowC w.heap.size w' v l ∧ Below w.heap.size w w' := by
  have hk := h.kinds
  have hkk := hk.2
  obtain ⟨i0, hi, hz0, hz1, hz2⟩ := info_parts infoC
  by_cases hn : s = .slice none 0 0
  · subst hn
    have hl : l = [] := by
      rcases h with ⟨_, h⟩ | ⟨b, off, cap, h, _⟩
      · exact h
      · cases h
    subst hl
    have heq : ∀ w : World, (binOp .eql 45 (.slice none 0 0) (.slice none 0 0)).run Tryd.prog w = .ok (.bool true) w := fun w => by kernel_rfl
    go_enter Tryd.func43, Tryd.ntmps43
    go_wp2
    go_returns
    exact ⟨_, rfl, ⟨World.ownsRow_nil _ _ _ _, hk⟩, by go_grown⟩
  · obtain ⟨b, off, cap, rfl⟩ : ∃ b off cap, s = .slice (some ⟨b, off, none⟩) l.length cap := by
      rcases h with ⟨h, _⟩ | ⟨b, off, cap, h, _⟩
      · exact absurd h hn
      · exact ⟨b, off, cap, h⟩
    obtain ⟨n, hn2⟩ : ∃ n, l.length = n := ⟨_, rfl⟩
    have HN := Lib.hid hn2
    rw [hn2] at h hkk ⊢
    have heq : ∀ w : World, (binOp .eql 45 (.slice (some ⟨b, off, none⟩) n cap) (.slice none 0 0)).run Tryd.prog w = .ok (.bool false) w := fun w => Lib.run_eql_slice_nil w _ 67 (some ⟨b, off, none⟩) n cap 0 0 Tryd.underlying45
    have HO := Lib.hid (show (w.alloc (.cells #[] 67)).ownsRow w.heap.size 67 5 (.slice (some ⟨w.heap.size, 0, none⟩) 0 0) 0 [] from World.ownsRow_made w #[] 0 (Nat.le_refl _) (by decide) (by decide))
    have HCl := Lib.hid (h.below ((Below.refl _ _).alloc (Nat.le_refl _) (.cells #[] 67))).cell
    have HK := Lib.hid hk
    clear hk hn hn2
    go_enter Tryd.func43, Tryd.ntmps43
    go_wp2_with (at_builtin; refine wpList_append_own _ rfl _ _ 45 rfl w.heap.size 67 i0 (.agg #[.int .u8 0, .int .i64 0, .int .i64 0, .int .i64 0, .int .i64 0]) 5 40 Tryd.underlying45 hi hz0 hz1 hz2 rfl (by decide) _ 0 [] rfl HO.out ⟨b, off, none⟩ n cap (cvs l) rfl (by rw [cvs_len, HN.out]) HCl.out (cvs_one l) ?c1 ?c2 (by simp) ?_)
    case c1 => unfold maxLen; omega
    case c2 => omega
    intro v' w1 hown' hgrow _
    have hvf : ∃ a n c, v' = .slice a n c := by
      rcases hown'.2 with ⟨h, _⟩ | ⟨g, cap', cur, h, _⟩
      · exact ⟨_, _, _, h⟩
      · exact ⟨_, _, _, h⟩
    obtain ⟨a', n', c', rfl⟩ := hvf
    go_wp2
    go_returns
    exact ⟨_, rfl, ⟨by rw [HN.out]; exact hown', HK.out⟩, ((Below.refl _ _).alloc (Nat.le_refl _) _).grown hgrow (by simp) (by intro k hk; cases hk; exact Nat.le_refl _)⟩
/-- the cells of entities -/
def ev (p : Int × Value) : List Value := [.int .i64 p.1, p.2]
def evs (l : List (Int × Value)) : List Value := l.flatMap ev
theorem ev_len (x : Int × Value) : (ev x).length = 2 := rfl
/-- slices in different blocks -/
def Apart2 (ss : List Value) : Prop := ∀ (i j : Nat) (s t : Value) (b : Nat), i < j → ss[i]? = some s → ss[j]? = some t → s.ownBlock = some b → t.ownBlock ≠ some b
/-- entities that the call owns, each with components of its own -/
def Fresh (base : Nat) (w : World) (v : Value) (es : List Ent) : Prop :=
  es.length < 1099511627776 ∧ ∃ ss : List Value, ss.length = es.length ∧ w.ownsRow base 47 2 v es.length (evs ((es.map Ent.id).zip ss)) ∧ (∀ (i : Nat) (s : Value) (e : Ent), ss[i]? = some s → es[i]? = some e → RowC base w s e.cs) ∧ Apart2 ss
theorem RowC.form {base : Nat} {w : World} {s : Value} {l : List Cmp} (h : RowC base w s l) : ∃ a n c, s = .slice a n c := h.comps.form
theorem Fresh.ents {base : Nat} {w : World} {v : Value} {es : List Ent} (h : Fresh base w v es) : EntsAt w v es := by
  obtain ⟨hl, ss, h1, h2, h3, -⟩ := h
  rcases h2.2 with ⟨g1, g2⟩ | ⟨g, cap, cur, hv, hg, hh, hr⟩
  · exact .inl ⟨g1, List.eq_nil_of_length_eq_zero g2⟩
  · refine .inr ⟨g, 0, cap, hv, hl, fun i e he => ?_⟩
    have hi := (List.getElem?_eq_some_iff.1 he).1
    obtain ⟨s, hs⟩ := at_lt (l := ss) (i := i) (by omega)
    have hz : ((es.map Ent.id).zip ss)[i]? = some (e.id, s) := by rw [List.getElem?_zip_eq_some]; exact ⟨by simp [he], hs⟩
    subst hv
    have key : ∀ r, r < 2 → w.cell? ⟨g, i * 2 + r, none⟩ = (ev (e.id, s))[r]? := fun r hr' => by
      rw [h2.cellAt (i * 2 + r) (by omega)]
      exact flat_at ev 2 ev_len _ i r _ hz hr'
    have hc := h3 i s e hs he
    obtain ⟨a, n, c, hf⟩ := hc.form
    simp only [Nat.zero_add]
    refine ⟨key 0 (by omega), a, n, c, ?_, ?_⟩
    · rw [key 1 (by omega), ← hf]; rfl
    · rw [← hf]; exact hc.comps
theorem Fresh.below {base : Nat} {w w' : World} {v : Value} {es : List Ent} (h : Fresh base w v es) (hb : Below w.heap.size w w') : Fresh base w' v es := by
  obtain ⟨hl, ss, h1, h2, h3, h4⟩ := h
  exact ⟨hl, ss, h1, row_below h2 hb, fun i s e hs he => (h3 i s e hs he).below hb, h4⟩
theorem Fresh.nil (base : Nat) (w : World) : Fresh base w (.slice none 0 0) [] := ⟨by simp, [], rfl, World.ownsRow_nil _ _ _ _, fun i s e h => by simp at h, fun i j s t b hij h => by simp at h⟩
/-- what Clone leaves, in a region that began in w0 -/
def aClone (w0 : World) (cs : List Cmp) : Array Value → Value → World → World → Prop := fun _ v w1 w2 => w0.heap.size ≤ w1.heap.size ∧ RowC w1.heap.size w2 v cs
theorem infoE : (Tryd.prog.info? 47).map (fun i => (i.zero, i.size, i.bytes)) = some (some (.agg #[.int .i64 0, .slice none 0 0]), 2, 32) := by kernel_rfl
theorem RowC.mono {base base' : Nat} {w : World} {s : Value} {l : List Cmp} (h : RowC base w s l) (hb : base' ≤ base) : RowC base' w s l := by
  refine ⟨⟨h.1.1, ?_⟩, h.2⟩
  rcases h.1.2 with h1 | ⟨g, cap, cur, hv, hg, r⟩
  · exact .inl h1
  · exact .inr ⟨g, cap, cur, hv, Nat.le_trans hb hg, r⟩
theorem RowC.lt {base : Nat} {w : World} {s : Value} {l : List Cmp} (h : RowC base w s l) {b : Nat} (hb : s.ownBlock = some b) : base ≤ b ∧ b < w.heap.size := h.1.lt b hb
/-- one entity more -/
theorem Fresh.push {base : Nat} {w w2 : World} {v' s : Value} {es : List Ent} {e : Ent} (h : ∃ ss : List Value, ss.length = es.length ∧ (∀ (i : Nat) (s : Value) (e : Ent), ss[i]? = some s → es[i]? = some e → RowC base w s e.cs) ∧ Apart2 ss ∧ w2.ownsRow base 47 2 v' (es.length + 1) (evs ((es.map Ent.id).zip ss) ++ ev (e.id, s)))
    (hl : es.length + 1 < 1099511627776) (hs : RowC w.heap.size w2 s e.cs) (hb0 : base ≤ w.heap.size) (hb : ∀ b, b < w.heap.size → (∃ cs, w.heap[b]? = some (.cells cs 67)) → w2.heap[b]? = w.heap[b]?) : Fresh base w2 v' (es ++ [e]) := by
  obtain ⟨ss, h1, h3, h4, h2⟩ := h
  refine ⟨by simpa using hl, ss ++ [s], by simp [h1], ?_, fun i t x ht hx => ?_, fun i j a b c hij ha hb' hc => ?_⟩
  · rw [List.map_append, List.map_cons, List.map_nil, List.zip_append (by simp [h1]), List.length_append]
    unfold evs at h2 ⊢
    rw [List.flatMap_append]
    simpa using h2
  · rcases Nat.lt_or_ge i es.length with hi | hi
    · rw [List.getElem?_append_left (by omega)] at ht
      rw [List.getElem?_append_left hi] at hx
      have hr := h3 i t x ht hx
      refine ⟨⟨hr.1.1, ?_⟩, hr.2⟩
      rcases hr.1.2 with g1 | ⟨g, cap, cur, hv, hg, hh, r⟩
      · exact .inl g1
      · exact .inr ⟨g, cap, cur, hv, hg, (hb g (Array.getElem?_eq_some_iff.1 hh).1 ⟨cur, hh⟩).trans hh, r⟩
    · rw [List.getElem?_append_right (by omega)] at ht
      rw [List.getElem?_append_right hi] at hx
      rw [h1] at ht
      have e0 : i - es.length = 0 := by
        have := (List.getElem?_eq_some_iff.1 hx).1
        simp at this; omega
      rw [e0] at ht hx
      simp only [List.getElem?_cons_zero, Option.some.injEq] at ht hx
      subst ht hx
      exact hs.mono hb0
  · have hjl := (List.getElem?_eq_some_iff.1 hb').1
    simp only [List.length_append, List.length_cons, List.length_nil] at hjl
    rw [List.getElem?_append_left (by omega)] at ha
    rcases Nat.lt_or_ge j ss.length with hj | hj
    · rw [List.getElem?_append_left hj] at hb'
      exact h4 i j a b c hij ha hb' hc
    · rw [List.getElem?_append_right hj, show j - ss.length = 0 by omega] at hb'
      simp only [List.getElem?_cons_zero, Option.some.injEq] at hb'
      subst hb'
      intro he
      have := (hs.lt he).1
      obtain ⟨x, hx⟩ := at_lt (l := es) (i := i) (by omega)
      have := ((h3 i a x ha hx).lt hc).2
      omega
theorem rows_ne {w : World} {base base' e e' size size' n n' : Nat} {v v' : Value} {xs xs' : List Value} (h : w.ownsRow base e size v n xs) (h' : w.ownsRow base' e' size' v' n' xs') (hne : e ≠ e') : v.ownBlock = none ∨ v.ownBlock ≠ v'.ownBlock := by
  rcases h.2 with ⟨hv, _⟩ | ⟨g, cap, cur, hv, _, hh, _⟩
  · exact .inl (by rw [hv]; rfl)
  · right
    intro he
    rcases h'.2 with ⟨hv', _⟩ | ⟨g', cap', cur', hv', _, hh', _⟩
    · rw [hv, hv'] at he; cases he
    · rw [hv, hv'] at he
      obtain rfl : g = g' := Option.some.inj he
      rw [hh] at hh'
      injection hh' with hh'
      injection hh' with _ h2 _
      exact hne h2
theorem cells_ne_row {w : World} {b : Nat} {cs : Array Value} {t e base size n : Nat} {v : Value} {xs : List Value} (h : w.heap[b]? = some (.cells cs t)) (hte : t ≠ e) (hr : w.ownsRow base e size v n xs) : some b ≠ v.ownBlock := bk_ne_row (g := b) h hte hr
theorem RowC.grown {base base' e size n : Nat} {w w' : World} {s v : Value} {l : List Cmp} {xs : List Value} (h : RowC base w s l) (hg : w.grownBy w' v.ownBlock) (hr : w.ownsRow base' e size v n xs) (hne : 67 ≠ e) : RowC base w' s l :=
  ⟨h.1.kept hg (rows_ne h.1 hr hne), h.2⟩
theorem RowC.set {base : Nat} {w : World} {s : Value} {l : List Cmp} {p : Addr} {cs : Array Value} {t : TypeId} (h : RowC base w s l) (hp : Bk w p.block cs t) (ht : t ≠ 67) (u : Value) : RowC base (w.setCell p u) s l :=
  ⟨ownsRow_setCell_other h.1 (fun e => bk_ne_row hp ht h.1 e.symm) u, h.2⟩
theorem Fresh.set {base : Nat} {w : World} {v : Value} {es : List Ent} {p : Addr} {cs : Array Value} {t : TypeId} (h : Fresh base w v es) (hp : Bk w p.block cs t) (ht : t ≠ 67) (ht2 : t ≠ 47) (u : Value) : Fresh base (w.setCell p u) v es := by
  obtain ⟨hl, ss, h1, h2, h3, h4⟩ := h
  exact ⟨hl, ss, h1, ownsRow_setCell_other h2 (fun e => bk_ne_row hp ht2 h2 e.symm) u, fun i s e hs he => (h3 i s e hs he).set hp ht u, h4⟩
theorem take_succ {α : Type} {l : List α} {k : Nat} {x : α} (h : l[k]? = some x) : l.take (k + 1) = l.take k ++ [x] := by
  rw [List.take_add_one, h]; rfl
set_option maxHeartbeats 4000000 in
theorem own_any (W : Wld) (a : Option Addr) (n c : Nat) (w : World) (h : EntsAt w (.slice a n c) W.es) :
    Calls Tryd.prog 27 #[Wv W.t a n c] w fun e w' => ∃ a' n' c', e = .returned (Wv W.t a' n' c') ∧ Fresh w.heap.size w' (.slice a' n' c') W.es ∧ Below w.heap.size w w' := by
  obtain ⟨t, es⟩ := W
  simp only at h
  have hlen := h.len
  have HL := Lib.hid hlen
  have hn : n < 1099511627776 := by
    rcases h with ⟨_, rfl⟩ | ⟨b, off, cap, _, hl, _⟩
    · rw [hlen]; simp
    · rw [hlen]; exact hl
  obtain ⟨i0, hi, hz0, hz1, hz2⟩ := info_parts infoE
  have HH := Lib.hid h
  clear hlen h
  go_enter Tryd.func27, Tryd.ntmps27
  go_wp2
  go_loopw [12] (fun v12 wr => ∃ (k : Nat) (a' : Option Addr) (n' c' : Nat), k ≤ n ∧ v12 = .int .i64 k ∧ Bk wr (w.heap.size + 1) #[.int .i64 0, .slice none 0 0] 27 ∧ Bk wr (w.heap.size + 1 + 1) #[.int .i64 t, .slice a' n' c'] 27 ∧ Fresh w.heap.size wr (.slice a' n' c') (es.take k) ∧ Below w.heap.size w wr) (fun v12 _ => n - (intOf v12).toNat)
  case atStart => exact ⟨0, none, 0, 0, by omega, rfl, ((Bk.at_ (by simp)).alloc _), Bk.at_ (by simp), Fresh.nil _ _, by go_grown⟩
  case round =>
    obtain ⟨k, a', n', c', hk, rfl, B1, B2, hF, hb⟩ := hrel
    have hs := hb.size
    have lt1 := B1.lt
    have lt2 := B2.lt
    by_cases hlt : k < n
    · obtain ⟨x, hx⟩ := at_lt (l := es) (i := k) (by rw [← HL.out]; exact hlt)
      rcases HH.out with ⟨h, hnil⟩ | ⟨b, off, cap, h, hl, hc⟩
      · rw [hnil] at hx; cases hx
      · injection h with h1 h2 h3
        subst h1 h3
        obtain ⟨x0, xa, xn, xc, x1, xh⟩ := hc k x hx
        have HX := Lib.hid hx
        replace x0 := cell_later hb x0
        replace x1 := cell_later hb x1
        replace xh := xh.below hb
        clear hx h2 hc hl
        go_wp2
        refine wp_name (fun W1 => Bk W1 wr.heap.size #[.int .i64 x.id, .slice xa xn xc] 47 ∧ Bk W1 (w.heap.size + 1) #[.int .i64 0, .slice none 0 0] 27 ∧ Bk W1 (w.heap.size + 1 + 1) #[.int .i64 t, .slice a' n' c'] 27 ∧ Fresh w.heap.size W1 (.slice a' n' c') (es.take k) ∧ CompsAt W1 (.slice xa xn xc) x.cs ∧ Below w.heap.size w W1) ⟨Bk.made _ _ _, B1.alloc _, B2.alloc _, hF.below ((Below.refl _ _).alloc (Nat.le_refl _) _), xh.below ((Below.refl _ _).alloc (Nat.le_refl _) _), hb.alloc hs _⟩ ?_
        rintro W1 ⟨Be, B1', B2', hF', xh', hb1⟩
        clear B1 B2 hF xh hb hs lt1 lt2 x0 x1
        have k0 := cell_regrown (B2'.cell (v := .int .i64 t) 0 rfl)
        have k1 := cell_regrown (B2'.cell (v := .slice a' n' c') 1 rfl)
        have k2 := cell_regrown (Be.cell (v := .int .i64 x.id) 0 rfl)
        have k3 := cell_regrown (Be.cell (v := .slice xa xn xc) 1 rfl)
        refine wp_region_low2 (post1 43 (aClone W1 x.cs)) 9 (by kernel_rfl) (by kernel_rfl) ?_
        simp only [List.take, List.drop]
        iterate 6 (refine low2_step (fun K hK => ?_); go_simp; first | (refine hK _ ?_; clear hK K) | (apply Exists.intro; refine ⟨fun p => ?_, hK _ ?_⟩; clear hK K))
        refine low2_call 43 #[.slice xa xn xc] (aClone W1 x.cs) (by rfl) (fun w => by go_simp) (post1_same _ _) (fun V hV _ => ?_) ?_
        · refine (cloneC_any _ x.cs V (xh'.below hV)).mono ?_
          rintro e V' ⟨v, rfl, h1, h2⟩
          exact ⟨v, rfl, ⟨hV.size, h1⟩, h2⟩
        rintro v6 ⟨_, _, -, h6⟩
        obtain ⟨a6, n6, c6, rfl⟩ := h6.form
        clear h6
        iterate 1 (refine low2_step (fun K hK => ?_); go_simp; first | (refine hK _ ?_; clear hK K) | (apply Exists.intro; refine ⟨fun p => ?_, hK _ ?_⟩; clear hK K))
        refine low2_slice 1 1 (.cells #[.int .i64 x.id, .slice a6 n6 c6] 47) (by rfl) (fun w => by go_simp) ?_
        intro g8
        refine low2_nil ?_
        intro W2 hC
        have hb2 := hC.1
        obtain ⟨z8, B8⟩ : _ ∧ Bk W2 g8 #[.int .i64 x.id, .slice a6 n6 c6] 47 := hC.made 8 _ rfl
        obtain ⟨u1, u2, hA, hu1, hu2⟩ := hC.made 6 _ rfl
        have hRow : RowC W1.heap.size W2 (.slice a6 n6 c6) x.cs := (hA.2.below hu2).mono hA.1
        have C1 := B1'.below hb2
        have C2 := B2'.below hb2
        obtain ⟨hkl, ss, h1, h2, h3, h4⟩ := hF'
        have h2' := row_below h2 hb2
        have hkk : (es.take k).length = k := by rw [List.length_take, ← HL.out]; omega
        have hS1 := hb1.size
        have hS2 := hb2.size
        refine wpList_append_mine _ rfl _ _ 25 rfl w.heap.size 47 i0 (.agg #[.int .i64 0, .slice none 0 0]) 2 32 Tryd.underlying25 hi hz0 hz1 hz2 rfl (by decide) _ _ _ rfl h2' ⟨g8, 0, none⟩ 1 1 [.int .i64 x.id, .slice a6 n6 c6] rfl rfl ?c1 ?c2 (by decide) ?c4 ?c5 (by omega) ?_
        case c1 =>
          intro j u hj
          match j, hj with
          | 0, hj => simp at hj; subst hj; exact B8.cell 0 rfl
          | 1, hj => simp at hj; subst hj; simp [Addr.add]; exact B8.cell 1 rfl
        case c2 => intro u hu; simp at hu; rcases hu with rfl | rfl <;> rfl
        case c4 => rw [hkk]; unfold maxLen; omega
        case c5 => rw [hkk]; omega
        intro gb cap' w1 hown' hgrow hgb
        change W2.grownBy w1 (Value.slice a' n' c').ownBlock at hgrow
        have D1 : Bk w1 (w.heap.size + 1) #[.int .i64 0, .slice none 0 0] 27 := (hgrow.block _ C1.lt (bk_ne_row C1 (by decide) h2')).trans C1
        have D2 : Bk w1 (w.heap.size + 1 + 1) #[.int .i64 t, .slice a' n' c'] 27 := (hgrow.block _ C2.lt (bk_ne_row C2 (by decide) h2')).trans C2
        have hRow' := hRow.grown hgrow h2' (by decide)
        have hFr : Fresh w.heap.size w1 (.slice (some ⟨gb, 0, none⟩) ((es.take k).length + 1) cap') (es.take k ++ [x]) :=
          Fresh.push (w := W1) ⟨ss, h1, h3, h4, hown'⟩ (by rw [hkk]; omega) hRow' hS1 (fun b hb' ⟨cs, hcs⟩ => (hgrow.block b (Nat.lt_of_lt_of_le hb' hS2) (cells_ne_row (hcs.symm ▸ hb2.block b hb') (by decide) h2')).trans (hb2.block b hb'))
        have hbw : Below w.heap.size w w1 := (hb1.trans (hb2.mono hS1)).grown hgrow (Nat.le_trans hS1 hS2) (fun b hb' => (h2'.lt b hb').1)
        rw [hkk] at hFr ⊢
        clear hown' hgrow hRow hRow' h1 h2 h2' h3 h4 hA hu1 hu2 hC B8 z8 C1 C2 B1' B2' Be xh' hb1 hb2 hkl hS1 hS2 hgb k0 k1 k2 k3
        have d1 := D2.cell (v := .slice a' n' c') 1 rfl
        have e1 := D2.free 1
        have lt2 := D2.lt
        go_wp2
        go_roundw
        case rel => exact ⟨k + 1, _, _, _, by omega, by go_num, D1.far (p := ⟨w.heap.size + 1 + 1, 1, none⟩) (by simp) _, D2.put 1 _, by rw [take_succ HX.out]; exact hFr.set (p := ⟨w.heap.size + 1 + 1, 1, none⟩) D2 (by decide) (by decide) _, hbw.setCell (p := ⟨w.heap.size + 1 + 1, 1, none⟩) (by show w.heap.size ≤ w.heap.size + 1 + 1; omega) _⟩
        case measure => simp [intOf]; omega
    · obtain rfl : k = n := by omega
      have hall : es.take k = es := List.take_of_length_le (by rw [← HL.out]; omega)
      rw [hall] at hF
      have c0 := B2.cell (v := .int .i64 t) 0 rfl
      have c1 := B2.cell (v := .slice a' n' c') 1 rfl
      have d0 := B1.cell (v := .int .i64 0) 0 rfl
      have d1 := B1.cell (v := .slice none 0 0) 1 rfl
      have f0 := B1.free 0
      have f1 := B1.free 1
      go_wp2
      refine post_name (fun V => Bk V (w.heap.size + 1) #[.int .i64 t, .slice a' n' c'] 27 ∧ Fresh w.heap.size V (.slice a' n' c') es ∧ Below w.heap.size w V) ⟨(B1.put 0 _).put 1 _, (hF.set (p := ⟨w.heap.size + 1, 0, none⟩) B1 (by decide) (by decide) _).set (p := ⟨w.heap.size + 1, 1, none⟩) (B1.put 0 _) (by decide) (by decide) _, by go_grown⟩ ?_
      rintro V ⟨BV, hFV, hbV⟩
      clear c0 c1 d0 d1 f0 f1
      have d0 := BV.cell (v := .int .i64 t) 0 rfl
      have d1 := BV.cell (v := .slice a' n' c') 1 rfl
      refine bodyPost_ret (v := Wv t a' n' c') (by simp [results, Tryd.results27, go_sem, d0, d1]; try rfl) rfl ⟨a', n', c', rfl, hFV, hbV⟩
end Go.Proofs.YtjjodmkblpdnhaaDoor
