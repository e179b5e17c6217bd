/- Worlds that a call has made itself; slices.Clone, interp.own. interp.Between's move (its closure) and interp.position; what Between shows, plain. marcheslaw28.at, pos. The builtins min and max of two integers, as one step of the walk: no case split. The builtins min and max behind a guard, and of four integers, as one step of the walk. The package shape: bodies that overlap. step.first. interp.Between: what it rejects; the end of the way. -/
import Derived.Test.YtlcjkomfjgddeaaGreatDoorM10
import Derived.Test.YtlcjkomfjgddeaaGreatDoorM01
import Derived.BigFrame
import Derived.Test.YtlcjkomfjgddeaaGreatDoorM06
set_option linter.unusedVariables false
set_option linter.unusedSimpArgs false
namespace Go.Proofs.YtlcjkomfjgddeaaGreatDoor
open Go Go.RowKit Go.Sort
set_option maxRecDepth 100000
attribute [local go_sem] opLow opUpon opLow2 opUpon2

theorem flat_at {α β : Type} (f : α → List β) (k : Nat) (hk : ∀ x, (f x).length = k) : ∀ (l : List α) (i r : Nat) (x : α), l[i]? = some x → r < k → (l.flatMap f)[i * k + r]? = (f x)[r]?
  | [], i, r, x, h, _ => by simp at h
  | y :: l, 0, r, x, h, hr => by
    simp only [List.getElem?_cons_zero, Option.some.injEq] at h
    subst h
    rw [List.flatMap_cons, Nat.zero_mul, Nat.zero_add, List.getElem?_append_left (by rw [hk]; exact hr)]
  | y :: l, i + 1, r, x, h, hr => by
    simp only [List.getElem?_cons_succ] at h
    rw [List.flatMap_cons, List.getElem?_append_right (by rw [hk, Nat.add_mul]; omega), hk, show (i + 1) * k + r - k = i * k + r by rw [Nat.add_mul]; omega]
    exact flat_at f k hk l i r x h hr
theorem flat_of {α β : Type} (f : α → List β) (k : Nat) (hk : ∀ x, (f x).length = k) : ∀ (l : List α) (j : Nat) (u : β), (l.flatMap f)[j]? = some u → ∃ i r x, j = i * k + r ∧ r < k ∧ l[i]? = some x ∧ (f x)[r]? = some u
  | [], j, u, h => by simp at h
  | y :: l, j, u, h => by
    rw [List.flatMap_cons] at h
    rcases Nat.lt_or_ge j k with hj | hj
    · rw [List.getElem?_append_left (by rw [hk]; exact hj)] at h
      exact ⟨0, j, y, by omega, hj, rfl, h⟩
    · rw [List.getElem?_append_right (by rw [hk]; exact hj), hk] at h
      obtain ⟨i, r, x, h1, h2, h3, h4⟩ := flat_of f k hk l (j - k) u h
      exact ⟨i + 1, r, x, by rw [Nat.add_mul]; omega, h2, h3, h4⟩
theorem flat_len {α β : Type} (f : α → List β) (k : Nat) (hk : ∀ x, (f x).length = k) : ∀ (l : List α), (l.flatMap f).length = l.length * k
  | [] => by simp
  | y :: l => by rw [List.flatMap_cons, List.length_append, hk, flat_len f k hk l, List.length_cons, Nat.add_mul]; omega

/-- the cells of components -/
def cv (x : Cmp) : List Value := [.int .u8 x.k, .int .i64 x.a, .int .i64 x.b, .int .i64 x.c, .int .i64 x.d]
def cvs (l : List Cmp) : List Value := l.flatMap cv
theorem cv_len (x : Cmp) : (cv x).length = 5 := rfl
theorem cvs_len (l : List Cmp) : (cvs l).length = l.length * 5 := flat_len cv 5 cv_len l
theorem cvs_one (l : List Cmp) : ∀ u ∈ cvs l, u.oneCell' = true := by
  intro u hu
  obtain ⟨x, -, hx⟩ := List.mem_flatMap.1 hu
  simp only [cv, List.mem_cons, List.not_mem_nil, or_false] at hx
  rcases hx with rfl | rfl | rfl | rfl | rfl <;> rfl
def Kinds (l : List Cmp) : Prop := (∀ x ∈ l, 0 ≤ x.k ∧ x.k ≤ 255) ∧ l.length < 1099511627776
/-- components that the call owns -/
def RowC (base : Nat) (w : World) (s : Value) (l : List Cmp) : Prop := w.ownsRow base 48 5 s l.length (cvs l) ∧ Kinds l
theorem CompsAt.kinds {w : World} {v : Value} {l : List Cmp} (h : CompsAt w v l) : Kinds l := by
  rcases h with ⟨_, rfl⟩ | ⟨b, off, cap, _, hl, hc⟩
  · exact ⟨fun x hx => (by cases hx), by simp⟩
  · exact ⟨fun x hx => by obtain ⟨i, hi⟩ := List.mem_iff_getElem?.1 hx; exact (hc i x hi).2, hl⟩
theorem CompsAt.cell {w : World} {p : Addr} {n cap : Nat} {l : List Cmp} (h : CompsAt w (.slice (some p) n cap) l) : ∀ j u, (cvs l)[j]? = some u → w.cell? (p.add j) = some u := by
  rcases h with ⟨_, rfl⟩ | ⟨b', off', cap', h, hl, hc⟩
  · intro j u hu; simp [cvs] at hu
  · cases h
    intro j u hu
    obtain ⟨i, r, x, rfl, hr, hx, hu⟩ := flat_of cv 5 cv_len l j u hu
    obtain ⟨⟨h0, h1, h2, h3, h4⟩, -⟩ := hc i x hx
    rw [Addr.add_lit, ← Nat.add_assoc]
    rcases (by omega : r = 0 ∨ r = 1 ∨ r = 2 ∨ r = 3 ∨ r = 4) with rfl | rfl | rfl | rfl | rfl <;> simp only [cv, List.getElem?_cons_zero, List.getElem?_cons_succ, Option.some.injEq] at hu <;> subst hu
    · exact h0
    · exact h1
    · exact h2
    · exact h3
    · exact h4
theorem RowC.comps {base : Nat} {w : World} {s : Value} {l : List Cmp} (h : RowC base w s l) : CompsAt w s l := by
  obtain ⟨hr, hk⟩ := h
  rcases hr.2 with ⟨h1, h2⟩ | ⟨g, cap, cur, hv, hg, hh, h3⟩
  · exact .inl ⟨⟨_, h1⟩, List.eq_nil_of_length_eq_zero h2⟩
  · refine .inr ⟨g, 0, cap, hv, hk.2, fun i x hx => ⟨?_, hk.1 x (List.mem_iff_getElem?.2 ⟨i, hx⟩)⟩⟩
    subst hv
    have hi := (List.getElem?_eq_some_iff.1 hx).1
    have key : ∀ r, r < 5 → w.cell? ⟨g, i * 5 + r, none⟩ = (cv x)[r]? := fun r hr' => by
      rw [hr.cellAt (i * 5 + r) (by omega)]
      exact flat_at cv 5 cv_len l i r x hx hr'
    simp only [Nat.zero_add]
    exact ⟨key 0 (by omega), key 1 (by omega), key 2 (by omega), key 3 (by omega), key 4 (by omega)⟩
theorem row_below {w w' : World} {base e size n : Nat} {v : Value} {xs : List Value} (h : w.ownsRow base e size v n xs) (hb : Below w.heap.size w w') : w'.ownsRow base e size v n xs := by
  obtain ⟨h1, h2⟩ := h
  refine ⟨h1, ?_⟩
  rcases h2 with h2 | ⟨g, cap, cur, hv, hg, hh, r⟩
  · exact .inl h2
  · exact .inr ⟨g, cap, cur, hv, hg, (hb.block g (Array.getElem?_eq_some_iff.1 hh).1).trans hh, r⟩
theorem RowC.below {base : Nat} {w w' : World} {s : Value} {l : List Cmp} (h : RowC base w s l) (hb : Below w.heap.size w w') : RowC base w' s l := ⟨row_below h.1 hb, h.2⟩
theorem infoC : (Tryz.prog.info? 48).map (fun i => (i.zero, i.size, i.bytes)) = some (some (.agg #[.int .u8 0, .int .i64 0, .int .i64 0, .int .i64 0, .int .i64 0]), 5, 40) := by kernel_rfl
set_option maxHeartbeats 1000000 in
theorem cloneC_any (s : Value) (l : List Cmp) (w : World) (h : CompsAt w s l) :
    Calls Tryz.prog 42 #[s] w fun e w' => ∃ v, e = .returned v ∧ RowC w.heap.size w' v l ∧ Below w.heap.size w w' := by
  have hk := h.kinds
  have hkk := hk.2
  obtain ⟨i0, hi, hz0, hz1, hz2⟩ := info_parts infoC
  by_cases hn : s = .slice none 0 0
  · subst hn
    have hl : l = [] := by
      rcases h with ⟨_, h⟩ | ⟨b, off, cap, h, _⟩
      · exact h
      · cases h
    subst hl
    have heq : ∀ w : World, (binOp .eql 41 (.slice none 0 0) (.slice none 0 0)).run Tryz.prog w = .ok (.bool true) w := fun w => by kernel_rfl
    go_enter Tryz.func42, Tryz.ntmps42
    go_wp2
    go_returns
    exact ⟨_, rfl, ⟨World.ownsRow_nil _ _ _ _, hk⟩, by go_grown⟩
  · obtain ⟨q, cap, rfl⟩ : ∃ q cap, s = .slice (some q) l.length cap := by
      rcases h with ⟨⟨a0, h⟩, h2⟩ | ⟨b, off, cap, h, _⟩
      · cases a0 with
        | none => exact absurd h hn
        | some q => exact ⟨q, 0, by rw [h, h2]; rfl⟩
      · exact ⟨_, cap, h⟩
    obtain ⟨n, hn2⟩ : ∃ n, l.length = n := ⟨_, rfl⟩
    have HN := Lib.hid hn2
    rw [hn2] at h hkk ⊢
    have heq : ∀ w : World, (binOp .eql 41 (.slice (some q) n cap) (.slice none 0 0)).run Tryz.prog w = .ok (.bool false) w := fun w => Lib.run_eql_slice_nil w _ 48 (some q) n cap 0 0 Tryz.underlying41
    have HO := Lib.hid (show (w.alloc (.cells #[] 48)).ownsRow w.heap.size 48 5 (.slice (some ⟨w.heap.size, 0, none⟩) 0 0) 0 [] from World.ownsRow_made w #[] 0 (Nat.le_refl _) (by decide) (by decide))
    have HCl := Lib.hid (h.below ((Below.refl _ _).alloc (Nat.le_refl _) (.cells #[] 48))).cell
    have HK := Lib.hid hk
    clear hk hn hn2
    go_enter Tryz.func42, Tryz.ntmps42
    go_wp2_with (at_builtin; refine wpList_append_own _ rfl _ _ 41 rfl w.heap.size 48 i0 (.agg #[.int .u8 0, .int .i64 0, .int .i64 0, .int .i64 0, .int .i64 0]) 5 40 Tryz.underlying41 hi hz0 hz1 hz2 rfl (by decide) _ 0 [] rfl HO.out q n cap (cvs l) rfl (by rw [cvs_len, HN.out]) HCl.out (cvs_one l) ?c1 ?c2 (by simp) ?_)
    case c1 => unfold maxLen; omega
    case c2 => omega
    intro v' w1 hown' hgrow _
    have hvf : ∃ a n c, v' = .slice a n c := by
      rcases hown'.2 with ⟨h, _⟩ | ⟨g, cap', cur, h, _⟩
      · exact ⟨_, _, _, h⟩
      · exact ⟨_, _, _, h⟩
    obtain ⟨a', n', c', rfl⟩ := hvf
    go_wp2
    go_returns
    exact ⟨_, rfl, ⟨by rw [HN.out]; exact hown', HK.out⟩, ((Below.refl _ _).alloc (Nat.le_refl _) _).grown hgrow (by simp) (by intro k hk; cases hk; exact Nat.le_refl _)⟩
/-- the cells of entities -/
def ev (p : Int × Value) : List Value := [.int .i64 p.1, p.2]
def evs (l : List (Int × Value)) : List Value := l.flatMap ev
theorem ev_len (x : Int × Value) : (ev x).length = 2 := rfl
/-- slices in different blocks -/
def Apart2 (ss : List Value) : Prop := ∀ (i j : Nat) (s t : Value) (b : Nat), i < j → ss[i]? = some s → ss[j]? = some t → s.ownBlock = some b → t.ownBlock ≠ some b
/-- entities that the call owns, each with components of its own -/
def Fresh (base : Nat) (w : World) (v : Value) (es : List Ent) : Prop :=
  es.length < 1099511627776 ∧ ∃ ss : List Value, ss.length = es.length ∧ w.ownsRow base 43 2 v es.length (evs ((es.map Ent.id).zip ss)) ∧ (∀ (i : Nat) (s : Value) (e : Ent), ss[i]? = some s → es[i]? = some e → RowC base w s e.cs) ∧ Apart2 ss
theorem RowC.form {base : Nat} {w : World} {s : Value} {l : List Cmp} (h : RowC base w s l) : ∃ a n c, s = .slice a n c := h.comps.form
theorem Fresh.ents {base : Nat} {w : World} {v : Value} {es : List Ent} (h : Fresh base w v es) : EntsAt w v es := by
  obtain ⟨hl, ss, h1, h2, h3, -⟩ := h
  rcases h2.2 with ⟨g1, g2⟩ | ⟨g, cap, cur, hv, hg, hh, hr⟩
  · exact .inl ⟨⟨_, g1⟩, List.eq_nil_of_length_eq_zero g2⟩
  · refine .inr ⟨g, 0, cap, hv, hl, fun i e he => ?_⟩
    have hi := (List.getElem?_eq_some_iff.1 he).1
    obtain ⟨s, hs⟩ := at_lt (l := ss) (i := i) (by omega)
    have hz : ((es.map Ent.id).zip ss)[i]? = some (e.id, s) := by rw [List.getElem?_zip_eq_some]; exact ⟨by simp [he], hs⟩
    subst hv
    have key : ∀ r, r < 2 → w.cell? ⟨g, i * 2 + r, none⟩ = (ev (e.id, s))[r]? := fun r hr' => by
      rw [h2.cellAt (i * 2 + r) (by omega)]
      exact flat_at ev 2 ev_len _ i r _ hz hr'
    have hc := h3 i s e hs he
    obtain ⟨a, n, c, hf⟩ := hc.form
    simp only [Nat.zero_add]
    refine ⟨key 0 (by omega), a, n, c, ?_, ?_⟩
    · rw [key 1 (by omega), ← hf]; rfl
    · rw [← hf]; exact hc.comps
theorem Fresh.below {base : Nat} {w w' : World} {v : Value} {es : List Ent} (h : Fresh base w v es) (hb : Below w.heap.size w w') : Fresh base w' v es := by
  obtain ⟨hl, ss, h1, h2, h3, h4⟩ := h
  exact ⟨hl, ss, h1, row_below h2 hb, fun i s e hs he => (h3 i s e hs he).below hb, h4⟩
theorem Fresh.nil (base : Nat) (w : World) : Fresh base w (.slice none 0 0) [] := ⟨by simp, [], rfl, World.ownsRow_nil _ _ _ _, fun i s e h => by simp at h, fun i j s t b hij h => by simp at h⟩
/-- what Clone leaves, in a region that began in w0 -/
def aClone (w0 : World) (cs : List Cmp) : Array Value → Value → World → World → Prop := fun _ v w1 w2 => w0.heap.size ≤ w1.heap.size ∧ RowC w1.heap.size w2 v cs
theorem infoE : (Tryz.prog.info? 43).map (fun i => (i.zero, i.size, i.bytes)) = some (some (.agg #[.int .i64 0, .slice none 0 0]), 2, 32) := by kernel_rfl
theorem RowC.mono {base base' : Nat} {w : World} {s : Value} {l : List Cmp} (h : RowC base w s l) (hb : base' ≤ base) : RowC base' w s l := by
  refine ⟨⟨h.1.1, ?_⟩, h.2⟩
  rcases h.1.2 with h1 | ⟨g, cap, cur, hv, hg, r⟩
  · exact .inl h1
  · exact .inr ⟨g, cap, cur, hv, Nat.le_trans hb hg, r⟩
theorem RowC.lt {base : Nat} {w : World} {s : Value} {l : List Cmp} (h : RowC base w s l) {b : Nat} (hb : s.ownBlock = some b) : base ≤ b ∧ b < w.heap.size := h.1.lt b hb
/-- one entity more -/
theorem Fresh.push {base : Nat} {w w2 : World} {v' s : Value} {es : List Ent} {e : Ent} (h : ∃ ss : List Value, ss.length = es.length ∧ (∀ (i : Nat) (s : Value) (e : Ent), ss[i]? = some s → es[i]? = some e → RowC base w s e.cs) ∧ Apart2 ss ∧ w2.ownsRow base 43 2 v' (es.length + 1) (evs ((es.map Ent.id).zip ss) ++ ev (e.id, s)))
    (hl : es.length + 1 < 1099511627776) (hs : RowC w.heap.size w2 s e.cs) (hb0 : base ≤ w.heap.size) (hb : ∀ b, b < w.heap.size → (∃ cs, w.heap[b]? = some (.cells cs 48)) → w2.heap[b]? = w.heap[b]?) : Fresh base w2 v' (es ++ [e]) := by
  obtain ⟨ss, h1, h3, h4, h2⟩ := h
  refine ⟨by simpa using hl, ss ++ [s], by simp [h1], ?_, fun i t x ht hx => ?_, fun i j a b c hij ha hb' hc => ?_⟩
  · rw [List.map_append, List.map_cons, List.map_nil, List.zip_append (by simp [h1]), List.length_append]
    unfold evs at h2 ⊢
    rw [List.flatMap_append]
    simpa using h2
  · rcases Nat.lt_or_ge i es.length with hi | hi
    · rw [List.getElem?_append_left (by omega)] at ht
      rw [List.getElem?_append_left hi] at hx
      have hr := h3 i t x ht hx
      refine ⟨⟨hr.1.1, ?_⟩, hr.2⟩
      rcases hr.1.2 with g1 | ⟨g, cap, cur, hv, hg, hh, r⟩
      · exact .inl g1
      · exact .inr ⟨g, cap, cur, hv, hg, (hb g (Array.getElem?_eq_some_iff.1 hh).1 ⟨cur, hh⟩).trans hh, r⟩
    · rw [List.getElem?_append_right (by omega)] at ht
      rw [List.getElem?_append_right hi] at hx
      rw [h1] at ht
      have e0 : i - es.length = 0 := by
        have := (List.getElem?_eq_some_iff.1 hx).1
        simp at this; omega
      rw [e0] at ht hx
      simp only [List.getElem?_cons_zero, Option.some.injEq] at ht hx
      subst ht hx
      exact hs.mono hb0
  · have hjl := (List.getElem?_eq_some_iff.1 hb').1
    simp only [List.length_append, List.length_cons, List.length_nil] at hjl
    rw [List.getElem?_append_left (by omega)] at ha
    rcases Nat.lt_or_ge j ss.length with hj | hj
    · rw [List.getElem?_append_left hj] at hb'
      exact h4 i j a b c hij ha hb' hc
    · rw [List.getElem?_append_right hj, show j - ss.length = 0 by omega] at hb'
      simp only [List.getElem?_cons_zero, Option.some.injEq] at hb'
      subst hb'
      intro he
      have := (hs.lt he).1
      obtain ⟨x, hx⟩ := at_lt (l := es) (i := i) (by omega)
      have := ((h3 i a x ha hx).lt hc).2
      omega
theorem rows_ne {w : World} {base base' e e' size size' n n' : Nat} {v v' : Value} {xs xs' : List Value} (h : w.ownsRow base e size v n xs) (h' : w.ownsRow base' e' size' v' n' xs') (hne : e ≠ e') : v.ownBlock = none ∨ v.ownBlock ≠ v'.ownBlock := by
  rcases h.2 with ⟨hv, _⟩ | ⟨g, cap, cur, hv, _, hh, _⟩
  · exact .inl (by rw [hv]; rfl)
  · right
    intro he
    rcases h'.2 with ⟨hv', _⟩ | ⟨g', cap', cur', hv', _, hh', _⟩
    · rw [hv, hv'] at he; cases he
    · rw [hv, hv'] at he
      obtain rfl : g = g' := Option.some.inj he
      rw [hh] at hh'
      injection hh' with hh'
      injection hh' with _ h2 _
      exact hne h2
theorem cells_ne_row {w : World} {b : Nat} {cs : Array Value} {t e base size n : Nat} {v : Value} {xs : List Value} (h : w.heap[b]? = some (.cells cs t)) (hte : t ≠ e) (hr : w.ownsRow base e size v n xs) : some b ≠ v.ownBlock := bk_ne_row (g := b) h hte hr
theorem RowC.grown {base base' e size n : Nat} {w w' : World} {s v : Value} {l : List Cmp} {xs : List Value} (h : RowC base w s l) (hg : w.grownBy w' v.ownBlock) (hr : w.ownsRow base' e size v n xs) (hne : 48 ≠ e) : RowC base w' s l :=
  ⟨h.1.kept hg (rows_ne h.1 hr hne), h.2⟩
theorem RowC.set {base : Nat} {w : World} {s : Value} {l : List Cmp} {p : Addr} {cs : Array Value} {t : TypeId} (h : RowC base w s l) (hp : Bk w p.block cs t) (ht : t ≠ 48) (u : Value) : RowC base (w.setCell p u) s l :=
  ⟨ownsRow_setCell_other h.1 (fun e => bk_ne_row hp ht h.1 e.symm) u, h.2⟩
theorem Fresh.set {base : Nat} {w : World} {v : Value} {es : List Ent} {p : Addr} {cs : Array Value} {t : TypeId} (h : Fresh base w v es) (hp : Bk w p.block cs t) (ht : t ≠ 48) (ht2 : t ≠ 43) (u : Value) : Fresh base (w.setCell p u) v es := by
  obtain ⟨hl, ss, h1, h2, h3, h4⟩ := h
  exact ⟨hl, ss, h1, ownsRow_setCell_other h2 (fun e => bk_ne_row hp ht2 h2 e.symm) u, fun i s e hs he => (h3 i s e hs he).set hp ht u, h4⟩
theorem take_succ {α : Type} {l : List α} {k : Nat} {x : α} (h : l[k]? = some x) : l.take (k + 1) = l.take k ++ [x] := by
  rw [List.take_add_one, h]; rfl
end Go.Proofs.YtlcjkomfjgddeaaGreatDoor
namespace Go.Proofs.YtlcjkomfjgddeaaGreatDoor
open Go Go.RowKit Go.Sort
set_option maxRecDepth 100000
attribute [local go_sem] opLow opUpon opLow2 opUpon2

/-- n of d parts of the way from x to y -/
def mvI (x y n d : Int) : Int := sat (x + fl ((y - x) * n) d)
def posOf (cs : List Cmp) : Option Cmp := cs.find? (fun x => decide (x.k = 1))
def posX (cs : List Cmp) : Int := match posOf cs with
  | some x => x.a
  | none => 0
def posY (cs : List Cmp) : Int := match posOf cs with
  | some x => x.b
  | none => 0
/-- the last place of an id among the first k, from 1 on; 0: none -/
def lastK (es : List Ent) (i : Int) : Nat → Nat
  | 0 => 0
  | k + 1 => match es[k]? with
    | some x => if x.id = i then k + 1 else lastK es i k
    | none => lastK es i k
def toCs (B : Wld) (i : Int) : List Cmp := match lastK B.es i B.es.length with
  | 0 => []
  | k + 1 => match B.es[k]? with
    | some x => x.cs
    | none => []
def movC (n d : Int) (tc : List Cmp) (x : Cmp) : Cmp := if x.k = 1 ∧ (posOf tc).isSome = true then ⟨x.k, mvI x.a (posX tc) n d, mvI x.b (posY tc) n d, x.c, x.d⟩ else x
def movE (B : Wld) (n d : Int) (e : Ent) : Ent := ⟨e.id, e.cs.map (movC n d (toCs B e.id))⟩
def betw (A B : Wld) (n d : Int) : Wld := if n = d then B else ⟨mvI A.t B.t n d, A.es.map (movE B n d)⟩
theorem mvI_bd (x y n d : Int) : -9223372036854775808 ≤ mvI x y n d ∧ mvI x y n d ≤ 9223372036854775807 := sat_bd _
theorem lastK_le (es : List Ent) (i : Int) : ∀ k, lastK es i k ≤ k
  | 0 => Nat.le_refl 0
  | k + 1 => by
    have := lastK_le es i k
    unfold lastK
    split
    · split <;> omega
    · omega
theorem lastK_same {es : List Ent} {k : Nat} {x : Ent} (h : es[k]? = some x) : lastK es x.id (k + 1) = k + 1 := by
  simp [lastK, h]
theorem lastK_other {es : List Ent} {k : Nat} {x : Ent} {i : Int} (h : es[k]? = some x) (hi : x.id ≠ i) : lastK es i (k + 1) = lastK es i k := by
  simp [lastK, h, hi]
theorem posOf_hit {cs : List Cmp} {j : Nat} {x : Cmp} (hx : cs[j]? = some x) (hk : x.k = 1) (h : ∀ i y, i < j → cs[i]? = some y → ¬ y.k = 1) : posOf cs = some x := by
  obtain ⟨hj, rfl⟩ := List.getElem?_eq_some_iff.1 hx
  unfold posOf
  rw [List.find?_eq_some_iff_getElem]
  refine ⟨by simpa using hk, j, hj, rfl, fun i hi => ?_⟩
  simpa using h i _ hi (List.getElem?_eq_getElem _)
theorem posOf_miss {cs : List Cmp} (h : ∀ (i : Nat) (y : Cmp), cs[i]? = some y → ¬ y.k = 1) : posOf cs = none := by
  unfold posOf
  rw [List.find?_eq_none]
  intro y hy
  obtain ⟨i, hi⟩ := List.mem_iff_getElem?.1 hy
  simpa using h i y hi

/-- what position returns -/
def posV (cs : List Cmp) : Value := .tuple #[.agg #[.int .i64 (posX cs), .int .i64 (posY cs)], .bool (posOf cs).isSome]
theorem posV_some {cs : List Cmp} {x : Cmp} (h : posOf cs = some x) : posV cs = .tuple #[.agg #[.int .i64 x.a, .int .i64 x.b], .bool true] := by simp [posV, posX, posY, h]
theorem posV_none {cs : List Cmp} (h : posOf cs = none) : posV cs = .tuple #[.agg #[.int .i64 0, .int .i64 0], .bool false] := by simp [posV, posX, posY, h]
end Go.Proofs.YtlcjkomfjgddeaaGreatDoor
namespace Go.Proofs.YtlcjkomfjgddeaaGreatDoor
open Go Go.RowKit Go.Sort
set_option maxRecDepth 100000
attribute [local go_sem] opLow opUpon opLow2 opUpon2

theorem ownsRow_full {w : World} {base g : Nat} {t : TypeId} {size n : Nat} {cs : Array Value} (h : Bk w g cs t) (hg : base ≤ g) (hs : cs.size = n * size) (hn : n ≤ maxLen) : w.ownsRow base t size (.slice (some ⟨g, 0, none⟩) n n) n cs.toList :=
  ⟨by simpa using hs, .inr ⟨g, n, cs, rfl, hg, h, Nat.le_refl _, hn, hs, by rw [List.take_of_length_le (by simp [hs])]⟩⟩
/-- one entity with one component, made by the call -/
theorem fresh_one {w : World} {base g h : Nat} {id k a b c d : Int} (hg : Bk w g #[.int .u8 k, .int .i64 a, .int .i64 b, .int .i64 c, .int .i64 d] 48) (hh : Bk w h #[.int .i64 id, .slice (some ⟨g, 0, none⟩) 1 1] 43) (h1 : base ≤ g) (h2 : base ≤ h) (hk : 0 ≤ k ∧ k ≤ 255) :
    Fresh base w (.slice (some ⟨h, 0, none⟩) 1 1) [⟨id, [⟨k, a, b, c, d⟩]⟩] := by
  refine ⟨by simp, [.slice (some ⟨g, 0, none⟩) 1 1], rfl, ownsRow_full (n := 1) hh h2 rfl (by decide), fun i s e hs he => ?_, fun i j s t b hij hs ht => ?_⟩
  · match i, hs, he with
    | 0, hs, he =>
      simp only [List.getElem?_cons_zero, Option.some.injEq] at hs he
      subst hs he
      exact ⟨ownsRow_full (n := 1) hg h1 rfl (by decide), fun x hx => by simp at hx; subst hx; exact hk, by simp⟩
    | i + 1, hs, he => simp at hs
  · match i, j, hs, ht with
    | 0, 0, _, _ => omega
    | i + 1, _, hs, _ => simp at hs
    | _, j + 1, _, ht => simp at ht
/-- what pos returns -/
def posG (W : Wld) (id : Int) : Value := match getM W id 1 with
  | some x => .tuple #[.agg #[.int .i64 x.a, .int .i64 x.b], .bool true]
  | none => .tuple #[.agg #[.int .i64 0, .int .i64 0], .bool false]
end Go.Proofs.YtlcjkomfjgddeaaGreatDoor
namespace Go.Proofs.YtlcjkomfjgddeaaGreatDoor
open Go.RowKit

theorem wpList_min2 {P : Program} (w : World) {ops : Array Oper} {rest : List Oper} {o : Oper} {a : Act} {Q : Exit → Act → World → Prop}
    (hg : o.guard = none) (x y : Operand) (ats : Array TypeId) (hop : o.op = Op.call { callee := Callee.builtin Builtin.min, args := #[x, y], argTypes := ats }) (k : IntKind) (m n : Int) (hx : a.eval x = .int k m) (hy : a.eval y = .int k n)
    (h : wpList P ops Q rest (a.put o.dst (.int k (min m n))) w) : wpList P ops Q (o :: rest) a w := by
  refine wpList_plain hg fun K hK' => ?_
  have e : (if n < m then n else m) = min m n := by split <;> omega
  unfold Oper.wp
  simp [execOp, hop, resolve, invoke, builtin, hx, hy, Builtin.min_, Builtin.min2, Result.andThen, e]
  exact hK' _ _ h
theorem wpList_max2 {P : Program} (w : World) {ops : Array Oper} {rest : List Oper} {o : Oper} {a : Act} {Q : Exit → Act → World → Prop}
    (hg : o.guard = none) (x y : Operand) (ats : Array TypeId) (hop : o.op = Op.call { callee := Callee.builtin Builtin.max, args := #[x, y], argTypes := ats }) (k : IntKind) (m n : Int) (hx : a.eval x = .int k m) (hy : a.eval y = .int k n)
    (h : wpList P ops Q rest (a.put o.dst (.int k (max m n))) w) : wpList P ops Q (o :: rest) a w := by
  refine wpList_plain hg fun K hK' => ?_
  have e : (if m < n then n else m) = max m n := by split <;> omega
  unfold Oper.wp
  simp [execOp, hop, resolve, invoke, builtin, hx, hy, Builtin.max_, Builtin.max2, Result.andThen, e]
  exact hK' _ _ h
end Go.Proofs.YtlcjkomfjgddeaaGreatDoor
namespace Go.Proofs.YtlcjkomfjgddeaaGreatDoor
open Go Go.RowKit

theorem wpList_minW {P : Program} (w : World) {ops : Array Oper} {rest : List Oper} {o : Oper} {a : Act} {Q : Exit → Act → World → Prop}
    (x y : Operand) (ats : Array TypeId) (hop : o.op = Op.call { callee := Callee.builtin Builtin.min, args := #[x, y], argTypes := ats }) (k : IntKind) (m n : Int) (hx : a.eval x = .int k m) (hy : a.eval y = .int k n)
    (hg : Region.wanted o (yielded ops a.tmps) = true)
    (h : wpList P ops Q rest (a.put o.dst (.int k (min m n))) w) : wpList P ops Q (o :: rest) a w := by
  refine BigFrame.wpList_want hg fun K hK' => ?_
  have e : (if n < m then n else m) = min m n := by split <;> omega
  unfold Oper.wp
  simp [execOp, hop, resolve, invoke, builtin, hx, hy, Builtin.min_, Builtin.min2, Result.andThen, e]
  exact hK' _ _ h
theorem wpList_maxW {P : Program} (w : World) {ops : Array Oper} {rest : List Oper} {o : Oper} {a : Act} {Q : Exit → Act → World → Prop}
    (x y : Operand) (ats : Array TypeId) (hop : o.op = Op.call { callee := Callee.builtin Builtin.max, args := #[x, y], argTypes := ats }) (k : IntKind) (m n : Int) (hx : a.eval x = .int k m) (hy : a.eval y = .int k n)
    (hg : Region.wanted o (yielded ops a.tmps) = true)
    (h : wpList P ops Q rest (a.put o.dst (.int k (max m n))) w) : wpList P ops Q (o :: rest) a w := by
  refine BigFrame.wpList_want hg fun K hK' => ?_
  have e : (if m < n then n else m) = max m n := by split <;> omega
  unfold Oper.wp
  simp [execOp, hop, resolve, invoke, builtin, hx, hy, Builtin.max_, Builtin.max2, Result.andThen, e]
  exact hK' _ _ h
theorem wpList_max4 {P : Program} (w : World) {ops : Array Oper} {rest : List Oper} {o : Oper} {a : Act} {Q : Exit → Act → World → Prop}
    (x y z u : Operand) (ats : Array TypeId) (hop : o.op = Op.call { callee := Callee.builtin Builtin.max, args := #[x, y, z, u], argTypes := ats }) (k : IntKind) (m n p q : Int) (hx : a.eval x = .int k m) (hy : a.eval y = .int k n) (hz : a.eval z = .int k p) (hu : a.eval u = .int k q)
    (hg : Region.wanted o (yielded ops a.tmps) = true)
    (h : wpList P ops Q rest (a.put o.dst (.int k (max m (max n (max p q))))) w) : wpList P ops Q (o :: rest) a w := by
  refine BigFrame.wpList_want hg fun K hK' => ?_
  have e : ∀ m n : Int, (if m < n then n else m) = max m n := fun m n => by split <;> omega
  unfold Oper.wp
  simp [execOp, hop, resolve, invoke, builtin, hx, hy, hz, hu, Builtin.max_, Builtin.max2, Result.andThen, e]
  exact hK' _ _ h
end Go.Proofs.YtlcjkomfjgddeaaGreatDoor
namespace Go.Proofs.YtlcjkomfjgddeaaGreatDoor
open Go Go.RowKit Go.Sort
set_option maxRecDepth 100000
attribute [local go_sem] opLow opUpon opLow2 opUpon2

theorem get_lt {α : Type} {l : List α} {i : Nat} (h : i < l.length) : ∃ x, l[i]? = some x := ⟨l[i], List.getElem?_eq_getElem h⟩
theorem below_cc {w V w1 : World} (hb : Below V.heap.size V w1) (h0 : Below w.heap.size w V) : Below w.heap.size w w1 ∧ w.heap.size ≤ w1.heap.size := ⟨h0.trans (hb.mono h0.size), Nat.le_trans h0.size hb.size⟩
structure Bdy where
  id : Int
  x : Int
  y : Int
  vx : Int
  vy : Int
  w : Int
  h : Int
  round : Bool
  fixed : Bool
def bcs (b : Bdy) : Array Value := #[.int .i64 b.id, .int .i64 b.x, .int .i64 b.y, .int .i64 b.vx, .int .i64 b.vy, .int .i64 b.w, .int .i64 b.h, .bool b.round, .bool b.fixed]
def Bv (b : Bdy) : Value := .agg #[.int .i64 b.id, .int .i64 b.x, .int .i64 b.y, .int .i64 b.vx, .int .i64 b.vy, .int .i64 b.w, .int .i64 b.h, .bool b.round, .bool b.fixed]
/-- shape.Valid -/
def okBdy (b : Bdy) : Prop := (0 ≤ b.id ∧ b.id ≤ 65536) ∧ ((-1048576 ≤ b.x ∧ b.x ≤ 1048576) ∧ (-1048576 ≤ b.y ∧ b.y ≤ 1048576)) ∧ ((-4096 ≤ b.vx ∧ b.vx ≤ 4096) ∧ (-4096 ≤ b.vy ∧ b.vy ≤ 4096)) ∧ ((1 ≤ b.w ∧ b.w ≤ 16384) ∧ (1 ≤ b.h ∧ b.h ≤ 16384)) ∧ (b.round = true → b.w = b.h) ∧ (b.fixed = true → b.vx = 0 ∧ b.vy = 0)
instance decOkBdy (b : Bdy) : Decidable (okBdy b) := by unfold okBdy; infer_instance
def inr_ (lo hi : Int) (l : List Int) : Bool := l.all (fun x => decide (lo ≤ x) && decide (x ≤ hi))
set_option maxHeartbeats 2000000 in
theorem range_any (lo hi : Int) (l : List Int) (g c : Nat) (w : World) (hl : l.length < 1000) (h : ∀ (i : Nat) (x : Int), l[i]? = some x → w.cell? ⟨g, i, none⟩ = some (.int .i64 x)) :
    Calls Tryz.prog 130 #[.int .i64 lo, .int .i64 hi, .slice (some ⟨g, 0, none⟩) l.length c] w fun e w' => e = .returned (.bool (inr_ lo hi l)) ∧ Below w.heap.size w w' := by
  obtain ⟨n, hn⟩ : ∃ n, l.length = n := ⟨_, rfl⟩
  have HN := Lib.hid hn
  have HC := Lib.hid h
  rw [hn] at hl ⊢
  clear hn h
  go_enter Tryz.func130, Tryz.ntmps130
  go_wp2
  go_loopw [11] (fun v11 wr => ∃ j : Nat, j ≤ n ∧ v11 = .int .i64 j ∧ Hid (∀ (i : Nat) (x : Int), i < j → l[i]? = some x → lo ≤ x ∧ x ≤ hi) ∧ Below w.heap.size w wr) (fun v11 _ => n - (intOf v11).toNat)
  case atStart => exact ⟨0, by omega, rfl, Lib.hid (fun i x hi => absurd hi (by omega)), by go_grown⟩
  case round =>
    obtain ⟨j, hj, rfl, HJ, hb⟩ := hrel
    by_cases hlt : j < n
    · obtain ⟨x, hx⟩ := get_lt (l := l) (i := j) (by rw [HN.out]; exact hlt)
      have c0 := cell_later hb (HC.out j x hx)
      have HX := Lib.hid hx
      have e0 : (j : Int) < n := by omega
      clear hx
      have bad : ¬ (lo ≤ x ∧ x ≤ hi) → inr_ lo hi l = false := fun hb => by
        unfold inr_
        rw [List.all_eq_false]
        exact ⟨x, List.mem_iff_getElem?.2 ⟨j, HX.out⟩, by simpa using hb⟩
      have BAD := Lib.hid bad
      clear bad
      by_cases h1 : lo ≤ x
      · by_cases h2 : x ≤ hi
        · have H12 := Lib.hid (And.intro h1 h2)
          have h1' : ¬ x < lo := by omega
          have h2' : ¬ hi < x := by omega
          clear h1 h2
          go_wp2
          go_roundw
          case rel => exact ⟨j + 1, by omega, by go_num, Lib.hid (fun i y hi' hy => by
            rcases Nat.lt_succ_iff_lt_or_eq.1 hi' with h | rfl
            · exact HJ.out i y h hy
            · rw [HX.out] at hy; cases hy; exact H12.out), hb⟩
          case measure => simp [intOf]; omega
        · have HB := Lib.hid (BAD.out (fun h => h2 h.2))
          have h1' : ¬ x < lo := by omega
          have h2' : hi < x := by omega
          clear h1 h2
          go_wp2
          go_returns
          exact ⟨ret_bool HB.out.symm, hb⟩
      · have HB := Lib.hid (BAD.out (fun h => h1 h.1))
        have h1' : x < lo := by omega
        clear h1
        go_wp2
        go_returns
        exact ⟨ret_bool HB.out.symm, hb⟩
    · obtain rfl : n = j := by omega
      have ok : inr_ lo hi l = true := by
        unfold inr_
        rw [List.all_eq_true]
        intro x hx
        obtain ⟨i, hi'⟩ := List.mem_iff_getElem?.1 hx
        have := HJ.out i x (by have := (List.getElem?_eq_some_iff.1 hi').1; have := HN.out; omega) hi'
        simpa using this
      have OK := Lib.hid ok
      clear ok
      go_wp2
      go_returns
      exact ⟨ret_bool OK.out.symm, hb⟩
theorem square_any (x y : Int) (hx : -4294967296 ≤ x ∧ x ≤ 4294967296 ∧ -1073741824 ≤ x ∧ x ≤ 1073741824) (hy : -1073741824 ≤ y ∧ y ≤ 1073741824) (w : World) : Calls Tryz.prog 166 #[.int .i64 x, .int .i64 y] w fun e w' => e = .returned (.int .i64 (x * x + y * y)) ∧ Below w.heap.size w w' := by
  have h1 : 0 ≤ x * x ∧ x * x ≤ 1152921504606846976 := ⟨by rcases Int.le_total 0 x with h | h; exact Int.mul_nonneg h h; exact Int.mul_nonneg_of_nonpos_of_nonpos h h, by
    rw [← Int.natAbs_mul_self]
    have : x.natAbs ≤ 1073741824 := by omega
    have := Nat.mul_le_mul this this
    omega⟩
  have h2 : 0 ≤ y * y ∧ y * y ≤ 1152921504606846976 := ⟨by rcases Int.le_total 0 y with h | h; exact Int.mul_nonneg h h; exact Int.mul_nonneg_of_nonpos_of_nonpos h h, by
    rw [← Int.natAbs_mul_self]
    have : y.natAbs ≤ 1073741824 := by omega
    have := Nat.mul_le_mul this this
    omega⟩
  obtain ⟨p, hp⟩ : ∃ p, x * x = p := ⟨_, rfl⟩
  obtain ⟨q, hq⟩ : ∃ q, y * y = q := ⟨_, rfl⟩
  rw [hp] at h1 ⊢
  rw [hq] at h2 ⊢
  clear hx hy
  go_enter Tryz.func166, Tryz.ntmps166
  go_wp2
  go_returns
  exact ⟨rfl, by go_grown⟩
theorem shabs_any (x : Int) (hx : -4611686018427387904 ≤ x ∧ x ≤ 4611686018427387904) (w : World) : Calls Tryz.prog 144 #[.int .i64 x] w fun e w' => e = .returned (.int .i64 (max x (-x))) ∧ Below w.heap.size w w' := by
  go_enter Tryz.func144, Tryz.ntmps144
  go_wp2_with (refine wpList_max2 _ rfl _ _ _ rfl _ _ _ rfl rfl ?_)
  go_returns
  exact ⟨rfl, by go_grown⟩
theorem kind_any (b : Bdy) (w : World) : Calls Tryz.prog 143 #[Bv b] w fun e w' => e = .returned (.int .i64 (if b.round = true then 1 else 0)) ∧ Below w.heap.size w w' := by
  obtain ⟨id, x, y, vx, vy, bw, bh, r, f⟩ := b
  unfold Bv
  cases r
  · go_enter Tryz.func143, Tryz.ntmps143
    go_wp2
    go_returns
    exact ⟨rfl, by go_grown⟩
  · go_enter Tryz.func143, Tryz.ntmps143
    go_wp2
    go_returns
    exact ⟨rfl, by go_grown⟩
end Go.Proofs.YtlcjkomfjgddeaaGreatDoor
namespace Go.Proofs.YtlcjkomfjgddeaaGreatDoor
open Go Go.RowKit Go.Sort
set_option maxRecDepth 100000
attribute [local go_sem] opLow opUpon opLow2 opUpon2

def keyC (k : Int) (x : Cmp) : Bool := decide (x.k = k)
theorem first1_any (x : Cmp) (k : Int) (g : Nat) (w : World) (hg : Bk w g #[.int .u8 k] 5) :
    Calls Tryz.prog 122 #[C x, .pointer (some ⟨g, 0, none⟩)] w fun e w' => e = .returned (.bool (keyC k x)) ∧ Below w.heap.size w w' := by
  have hp := hg.cell (v := .int .u8 k) 0 rfl
  have lt := hg.lt
  clear hg
  by_cases hk : x.k = k
  · have h1 : keyC k x = true := by unfold keyC; simp [hk]
    have h2 : ((x.k : Int) == k) = true := by simp [hk]
    rw [h1]
    clear h1 hk
    go_enter Tryz.func122, Tryz.ntmps122
    go_wp2
    go_returns
    exact ⟨rfl, by go_grown⟩
  · have h1 : keyC k x = false := by unfold keyC; simp [hk]
    have h2 : ((x.k : Int) == k) = false := by simp [hk]
    rw [h1]
    clear h1 hk
    go_enter Tryz.func122, Tryz.ntmps122
    go_wp2
    go_returns
    exact ⟨rfl, by go_grown⟩
set_option maxHeartbeats 4000000 in
theorem indexFirst_any (l : List Cmp) (v : Value) (w : World) (h : CompsAt w v l) (k : Int) (g : Nat) (hR : Bk w g #[.int .u8 k] 5) :
    Calls Tryz.prog 39 #[v, .func (.func 122) #[] #[.pointer (some ⟨g, 0, none⟩)]] w fun e w' => e = .returned (.int .i64 (firstOf (keyC k) l)) ∧ Below w.heap.size w w' := by
  rcases h with ⟨⟨a0, rfl⟩, rfl⟩ | ⟨b, off, cap, rfl, hl, hc⟩
  · go_enter Tryz.func39, Tryz.ntmps39
    go_wp2
    refine wp_loop_rounds 1 ?_
    rw [rounds_succ]
    go_wp2
    go_returns
    exact ⟨rfl, by go_grown⟩
  · obtain ⟨n, hn⟩ : ∃ n, l.length = n := ⟨_, rfl⟩
    have HN := Lib.hid hn
    rw [hn] at hl ⊢
    clear hn
    go_enter Tryz.func39, Tryz.ntmps39
    go_wp2
    go_loopw [8] (fun v8 wr => ∃ j : Nat, j ≤ n ∧ v8 = .int .i64 j ∧ Hid (∀ i x, i < j → l[i]? = some x → (keyC k) x = false) ∧ Below w.heap.size w wr) (fun v8 _ => n - (intOf v8).toNat)
    case atStart => exact ⟨0, by omega, rfl, Lib.hid (fun i x hi => absurd hi (by omega)), by go_grown⟩
    case round =>
      obtain ⟨j, hj, rfl, HJ, hb⟩ := hrel
      by_cases hlt : j < n
      · obtain ⟨x, hx⟩ := at_lt (l := l) (i := j) (by rw [HN.out]; omega)
        have hP := hc j x hx
        obtain ⟨⟨x0, x1, x2, x3, x4⟩, xk⟩ := hP
        have HX := Lib.hid (And.intro hx (hc j x hx))
        clear hx
        replace x0 := cell_later hb x0
        replace x1 := cell_later hb x1
        replace x2 := cell_later hb x2
        replace x3 := cell_later hb x3
        replace x4 := cell_later hb x4
        go_wp2_with fail
        with_reducible refine (first1_any x k g _ (hR.below hb)).mono ?_
        rintro e W1 ⟨rfl, hb1⟩
        obtain ⟨hb', hs'⟩ := below_c (w := w) hb1 hb
        clear x0 x1 x2 x3 x4 hb1 hb
        by_cases hbad : (keyC k) x = true
        · have HB := Lib.hid hbad
          try simp only at hbad
          go_wp2
          go_returns
          exact ⟨ret_i64 (firstOf_yes HX.out.1 HB.out HJ.out).symm, hb'⟩
        · have hbad : (keyC k) x = false := by simpa using hbad
          have HB := Lib.hid hbad
          try simp only at hbad
          go_wp2
          go_roundw
          case rel => exact ⟨j + 1, by omega, by go_num, Lib.hid (fun i y hi hy => by
            rcases Nat.lt_succ_iff_lt_or_eq.1 hi with h | h
            · exact HJ.out i y h hy
            · subst h
              rw [HX.out.1] at hy
              cases hy
              exact HB.out), hb'⟩
          case measure => simp [intOf]; omega
      · go_wp2
        go_returns
        exact ⟨ret_i64 (firstOf_no (fun i x hx => HJ.out i x (by have := (List.getElem?_eq_some_iff.1 hx).1; have := HN.out; omega) hx)).symm, hb⟩
theorem firstOf_bd {α : Type} (p : α → Bool) (l : List α) : -1 ≤ firstOf p l ∧ firstOf p l < l.length := by
  unfold firstOf
  split
  · rename_i h
    have := List.findIdx_lt_length.2 (List.any_eq_true.1 h)
    omega
  · omega
/-- the place of the first component of a kind -/
def firstV (a : Option Addr) (i : Int) : Value := match a with
  | some ⟨b, off, _⟩ => if 0 ≤ i then .pointer (some ⟨b, off + i.toNat * 5, none⟩) else .pointer none
  | none => .pointer none
set_option maxHeartbeats 4000000 in
theorem first_any (id : Int) (l : List Cmp) (a : Option Addr) (n c : Nat) (k : Int) (w : World) (h : CompsAt w (.slice a n c) l) :
    Calls Tryz.prog 90 #[.agg #[.int .i64 id, .slice a n c], .int .u8 k] w fun e w' => e = .returned (firstV a (firstOf (keyC k) l)) ∧ Below w.heap.size w w' := by
  have hn := h.len
  obtain ⟨z, hz⟩ : ∃ z, firstOf (keyC k) l = z := ⟨_, rfl⟩
  have bd := firstOf_bd (keyC k) l
  rw [hz] at bd ⊢
  have h0 : Below w.heap.size w ((w.alloc (.cells #[.int .i64 id, .slice a n c] 43)).alloc (.cells #[.int .u8 k] 5)) := ((Below.refl _ _).alloc (Nat.le_refl _) _).alloc (by simp) _
  have IXF := indexFirst_any l (.slice a n c) ((w.alloc (.cells #[.int .i64 id, .slice a n c] 43)).alloc (.cells #[.int .u8 k] 5)) (h.below h0) k (w.heap.size + 1) (Bk.at_ (by simp))
  rw [hz] at IXF
  have HI := Lib.hid IXF
  have hpn : ∀ w : World, True := fun _ => trivial
  clear hpn IXF h0
  obtain ⟨b0, b1⟩ := bd
  have HL := Lib.hid hn
  by_cases hneg : z < 0
  · have hv : firstV a z = .pointer none := by
      unfold firstV
      rcases a with _ | ⟨b, off, s⟩
      · rfl
      · simp only; rw [if_neg (by omega)]
    rw [hv]
    clear hv hz hn h
    go_enter Tryz.func90, Tryz.ntmps90
    go_wp2_with fail
    refine Calls.mono HI.out ?_
    rintro e W1 ⟨rfl, hb⟩
    obtain ⟨hgg, hs⟩ := below_cc (w := w) hb (by go_grown)
    clear hb
    go_wp2
    go_returns
    exact ⟨rfl, hgg⟩
  · rcases h with ⟨h1, rfl⟩ | ⟨b, off, cap, h1, hl, hc⟩
    · simp at b1; omega
    · cases h1
      obtain ⟨i, rfl⟩ : ∃ i : Nat, z = i := ⟨z.toNat, by omega⟩
      have hv : firstV (some ⟨b, off, none⟩) (i : Int) = .pointer (some ⟨b, off + i * 5, none⟩) := by
        unfold firstV; simp
      rw [hv]
      obtain ⟨m, hm⟩ : ∃ m, l.length = m := ⟨_, rfl⟩
      rw [hm] at HI HL hl b1 ⊢
      have b2 : i < m := by omega
      clear hv hz hc hm hn b1 hneg b0
      go_enter Tryz.func90, Tryz.ntmps90
      go_wp2_with fail
      refine Calls.mono HI.out ?_
      rintro e W1 ⟨rfl, hb⟩
      have B1 : Bk W1 w.heap.size #[.int .i64 id, .slice (some ⟨b, off, none⟩) m c] 43 := Bk.below ((Bk.made _ _ _).alloc _) hb
      have c1 := B1.cell (v := .slice (some ⟨b, off, none⟩) m c) 1 rfl
      obtain ⟨hgg, hs⟩ := below_cc (w := w) hb (by go_grown)
      clear hb
      go_wp2
      go_returns
      exact ⟨rfl, hgg⟩
end Go.Proofs.YtlcjkomfjgddeaaGreatDoor
namespace Go.Proofs.YtlcjkomfjgddeaaGreatDoor
open Go Go.RowKit Go.Sort
set_option maxRecDepth 100000
attribute [local go_sem] opLow opUpon opLow2 opUpon2

/-- what Between takes -/
def okB (A B : Wld) (n d : Int) : Prop := Valid A ∧ Valid B ∧ A.t < B.t ∧ (1 ≤ d ∧ d ≤ 34359738368) ∧ (0 ≤ n ∧ n ≤ d)
instance decOkB (A B : Wld) (n d : Int) : Decidable (okB A B n d) := by unfold okB; infer_instance
/-- the boxes of Between's frame -/
structure BB (w0 w : World) (s : Nat) (ta tb n d : Int) (a b : Option Addr) (an ac bn bc : Nat) : Prop where
  pa : Bk w s #[.int .i64 ta, .slice a an ac] 26
  pb : Bk w (s + 1) #[.int .i64 tb, .slice b bn bc] 26
  pn : Bk w (s + 1 + 1) #[.int .i64 n] 3
  pd : Bk w (s + 1 + 1 + 1) #[.int .i64 d] 3
  pr : Bk w (s + 1 + 1 + 1 + 1) #[.int .i64 0, .slice none 0 0] 26
  bel : Below s w0 w
theorem BB.later {w0 w w' : World} {s : Nat} {ta tb n d : Int} {a b : Option Addr} {an ac bn bc : Nat} (h : BB w0 w s ta tb n d a b an ac bn bc) (hs : s = w0.heap.size) (hb : Below w.heap.size w w') : BB w0 w' s ta tb n d a b an ac bn bc :=
  ⟨h.pa.below hb, h.pb.below hb, h.pn.below hb, h.pd.below hb, h.pr.below hb, by subst hs; exact (below_c hb h.bel).1⟩
theorem Fresh.mono {base base' : Nat} {w : World} {v : Value} {es : List Ent} (h : Fresh base w v es) (hb : base' ≤ base) : Fresh base' w v es := by
  obtain ⟨hl, ss, h1, h2, h3, h4⟩ := h
  refine ⟨hl, ss, h1, ⟨h2.1, ?_⟩, fun i s e hs he => (h3 i s e hs he).mono hb, h4⟩
  rcases h2.2 with h5 | ⟨g, cap, cur, hv, hg, r⟩
  · exact .inl h5
  · exact .inr ⟨g, cap, cur, hv, Nat.le_trans hb hg, r⟩
theorem wpL_name {P : Program} {ops : Array Oper} {Q : Exit → Act → World → Prop} {rest : List Oper} {a : Act} {w : World} (R : World → Prop) (h : R w) (hK : ∀ V, R V → wpList P ops Q rest a V) : wpList P ops Q rest a w := hK w h
end Go.Proofs.YtlcjkomfjgddeaaGreatDoor
