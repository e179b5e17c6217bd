/- Stores into a world that the call owns; a map of the call's own beside other blocks. interp.Between on the way. -/
import Derived.Test.YtlcjkomfjgddeaaGreatDoorM11
import Derived.Maps.OwnOps
import Derived.Maps.Views
import Derived.Test.YtlcjkomfjgddeaaGreatDoorM06
set_option linter.unusedVariables false
set_option linter.unusedSimpArgs false
namespace Go.Proofs.YtlcjkomfjgddeaaGreatDoor
open Go Go.RowKit Go.Sort
set_option maxRecDepth 100000

/-- as Fresh, with the slices of the entities -/
def FreshS (base : Nat) (w : World) (v : Value) (es : List Ent) (ss : List Value) : Prop :=
  es.length < 1099511627776 ∧ ss.length = es.length ∧ w.ownsRow base 43 2 v es.length (evs ((es.map Ent.id).zip ss)) ∧ (∀ (i : Nat) (s : Value) (e : Ent), ss[i]? = some s → es[i]? = some e → RowC base w s e.cs) ∧ Apart2 ss
theorem Fresh.open {base : Nat} {w : World} {v : Value} {es : List Ent} (h : Fresh base w v es) : ∃ ss, FreshS base w v es ss := by
  obtain ⟨h0, ss, h1, h2, h3, h4⟩ := h
  exact ⟨ss, h0, h1, h2, h3, h4⟩
theorem FreshS.shut {base : Nat} {w : World} {v : Value} {es : List Ent} {ss : List Value} (h : FreshS base w v es ss) : Fresh base w v es := by
  obtain ⟨h0, h1, h2, h3, h4⟩ := h
  exact ⟨h0, ss, h1, h2, h3, h4⟩
theorem FreshS.below {base : Nat} {w w' : World} {v : Value} {es : List Ent} {ss : List Value} (h : FreshS base w v es ss) (hb : Below w.heap.size w w') : FreshS base w' v es ss := by
  obtain ⟨h0, h1, h2, h3, h4⟩ := h
  exact ⟨h0, h1, row_below h2 hb, fun i s e hs he => (h3 i s e hs he).below hb, h4⟩
theorem FreshS.set {base : Nat} {w : World} {v : Value} {es : List Ent} {ss : List Value} {p : Addr} {cs : Array Value} {t : TypeId} (h : FreshS base w v es ss) (hp : Bk w p.block cs t) (ht : t ≠ 48) (ht2 : t ≠ 43) (u : Value) : FreshS base (w.setCell p u) v es ss := by
  obtain ⟨h0, h1, h2, h3, h4⟩ := h
  exact ⟨h0, h1, ownsRow_setCell_other h2 (fun e => bk_ne_row hp ht2 h2 e.symm) u, fun i s e hs he => (h3 i s e hs he).set hp ht u, h4⟩
/-- an entity's cells -/
theorem FreshS.ent {base : Nat} {w : World} {v : Value} {es : List Ent} {ss : List Value} (h : FreshS base w v es ss) {i : Nat} {e : Ent} (he : es[i]? = some e) :
    ∃ g cap a n c, v = .slice (some ⟨g, 0, none⟩) es.length cap ∧ ss[i]? = some (.slice a n c) ∧ w.cell? ⟨g, 0 + i * 2, none⟩ = some (.int .i64 e.id) ∧ w.cell? ⟨g, 0 + i * 2 + 1, none⟩ = some (.slice a n c) ∧ RowC base w (.slice a n c) e.cs := by
  obtain ⟨h0, h1, h2, h3, h4⟩ := h
  have hi := (List.getElem?_eq_some_iff.1 he).1
  obtain ⟨s, hs⟩ := at_lt (l := ss) (i := i) (by omega)
  have hr := h3 i s e hs he
  obtain ⟨a, n, c, rfl⟩ := hr.form
  rcases h2.2 with ⟨-, g2⟩ | ⟨g, cap, cur, hv, hg, hh, hrr⟩
  · omega
  · have hz : ((es.map Ent.id).zip ss)[i]? = some (e.id, .slice a n c) := by rw [List.getElem?_zip_eq_some]; exact ⟨by simp [he], hs⟩
    have key : ∀ r, r < 2 → w.cell? ⟨g, i * 2 + r, none⟩ = (ev (e.id, .slice a n c))[r]? := fun r hr' => by
      subst hv
      rw [h2.cellAt (i * 2 + r) (by omega)]
      exact flat_at ev 2 ev_len _ i r _ hz hr'
    exact ⟨g, cap, a, n, c, hv, hs, by rw [Nat.zero_add]; exact key 0 (by omega), by rw [Nat.zero_add]; exact key 1 (by omega), hr⟩
theorem flat_set {α β : Type} (f : α → List β) (k : Nat) (hk : ∀ x, (f x).length = k) : ∀ (l : List α) (i r : Nat) (x y : α) (u : β), l[i]? = some x → r < k → (f x).set r u = f y → (l.flatMap f).set (i * k + r) u = (l.set i y).flatMap f
  | [], i, r, x, y, u, h, _, _ => by simp at h
  | z :: l, 0, r, x, y, u, h, hr, hu => by
    simp only [List.getElem?_cons_zero, Option.some.injEq] at h
    subst h
    rw [List.flatMap_cons, Nat.zero_mul, Nat.zero_add, List.set_append_left _ _ (by rw [hk]; exact hr), hu, List.set_cons_zero, List.flatMap_cons]
  | z :: l, i + 1, r, x, y, u, h, hr, hu => by
    simp only [List.getElem?_cons_succ] at h
    rw [List.flatMap_cons, List.set_append_right _ _ (by rw [hk, Nat.add_mul]; omega), hk, show (i + 1) * k + r - k = i * k + r by rw [Nat.add_mul]; omega, flat_set f k hk l i r x y u h hr hu, List.set_cons_succ, List.flatMap_cons]
/-- a component's cells -/
theorem RowC.comp {base : Nat} {w : World} {s : Value} {l : List Cmp} (h : RowC base w s l) {j : Nat} {x : Cmp} (hx : l[j]? = some x) :
    ∃ g cap cur, s = .slice (some ⟨g, 0, none⟩) l.length cap ∧ base ≤ g ∧ Bk w g cur 48 ∧ (∀ o, w.frozen? ⟨g, o, none⟩ = false) ∧ w.cell? ⟨g, 0 + j * 5, none⟩ = some (.int .u8 x.k) ∧ w.cell? ⟨g, 0 + j * 5 + 1, none⟩ = some (.int .i64 x.a) ∧ w.cell? ⟨g, 0 + j * 5 + 2, none⟩ = some (.int .i64 x.b) := by
  have hi := (List.getElem?_eq_some_iff.1 hx).1
  have hrow := h.1
  rcases h.1.2 with ⟨-, g2⟩ | ⟨g, cap, cur, hv, hg, hh, hrr⟩
  · omega
  · subst hv
    have key : ∀ r, r < 5 → w.cell? ⟨g, 0 + j * 5 + r, none⟩ = (cv x)[r]? := fun r hr' => by
      rw [hrow.cellAt (0 + j * 5 + r) (by omega), Nat.zero_add]
      exact flat_at cv 5 cv_len l j r x hx hr'
    exact ⟨g, cap, cur, rfl, hg, hh, fun o => hrow.frozenAt o, key 0 (by omega), key 1 (by omega), key 2 (by omega)⟩
theorem RowC.store {base : Nat} {w : World} {g n cap : Nat} {l : List Cmp} (h : RowC base w (.slice (some ⟨g, 0, none⟩) n cap) l) {j r : Nat} {x y : Cmp} {u : Value} (hx : l[j]? = some x) (hr : r < 5) (hu : (cv x).set r u = cv y) (hy : y.k = x.k) :
    RowC base (w.setCell ⟨g, 0 + j * 5 + r, none⟩ u) (.slice (some ⟨g, 0, none⟩) n cap) (l.set j y) := by
  have hn : n = l.length := by
    rcases h.1.2 with ⟨h1, _⟩ | ⟨g', cap', cur, hv, _⟩
    · cases h1
    · cases hv; rfl
  subst hn
  refine ⟨?_, fun z hz => ?_, by simpa using h.2.2⟩
  · have := (h.1.stored (0 + j * 5 + r) u).1
    rw [List.length_set]
    unfold cvs at this ⊢
    rw [Nat.zero_add, flat_set cv 5 cv_len l j r x y u hx hr hu] at this
    rw [Nat.zero_add]; exact this
  · obtain ⟨i, hi⟩ := List.mem_iff_getElem?.1 hz
    rcases List.mem_or_eq_of_mem_set hz with h1 | rfl
    · exact h.2.1 z h1
    · rw [hy]; exact h.2.1 x (List.mem_iff_getElem?.2 ⟨j, hx⟩)
/-- a store into a component of an entity -/
theorem FreshS.store {base : Nat} {w : World} {v : Value} {es : List Ent} {ss : List Value} (h : FreshS base w v es ss) {i j r g n cap : Nat} {e e' : Ent} {x y : Cmp} {u : Value} (he : es[i]? = some e) (hs : ss[i]? = some (.slice (some ⟨g, 0, none⟩) n cap)) (hx : e.cs[j]? = some x) (hr : r < 5) (hu : (cv x).set r u = cv y) (hy : y.k = x.k) (hid : e'.id = e.id) (hcs : e'.cs = e.cs.set j y) :
    FreshS base (w.setCell ⟨g, 0 + j * 5 + r, none⟩ u) v (es.set i e') ss := by
  obtain ⟨h0, h1, h2, h3, h4⟩ := h
  have hrow := h3 i _ e hs he
  have hi := (List.getElem?_eq_some_iff.1 he).1
  obtain ⟨g', cap', cur, hv, hg, hB, -⟩ := hrow.comp hx
  injection hv with e1 e2 e3
  injection e1 with e1; injection e1 with e1
  subst e1
  refine ⟨by simpa using h0, by simpa using h1, ?_, fun k s z hk hz => ?_, h4⟩
  · rw [List.length_set, List.map_set, hid, show (es.map Ent.id).set i e.id = es.map Ent.id by
      apply List.ext_getElem?
      intro k
      rw [List.getElem?_set]
      by_cases hk : i = k
      · subst hk; simp only [hi, if_true, List.length_map, List.getElem?_map, he, Option.map_some]
      · simp [hk]]
    exact ownsRow_setCell_other h2 (fun e => bk_ne_row hB (by decide) h2 e.symm) u
  · by_cases hki : i = k
    · subst hki
      rw [hs] at hk
      injection hk with hk
      subst hk
      rw [List.getElem?_set_self hi] at hz
      injection hz with hz
      subst hz
      rw [hcs]
      exact hrow.store hx hr hu hy
    · rw [List.getElem?_set_ne hki] at hz
      have hc := h3 k s z hk hz
      refine ⟨ownsRow_setCell_other hc.1 ?_ u, hc.2⟩
      rcases Nat.lt_or_gt_of_ne hki with hlt | hlt
      · exact fun e => h4 i k _ _ _ hlt hs hk rfl e
      · exact fun e => h4 k i _ _ _ hlt hk hs e rfl
theorem map_below {H : Type} {w w' : World} {P : Program} {k : TypeId} {R : Value → Option (DataW H × List MemPlace)} {b n : Nat} {D : DataW H} (h : w.ownsMap P k R b n D) (hb : Below w.heap.size w w') : w'.ownsMap P k R b n D := by
  have hlt := h.lt
  obtain ⟨es, clock, h1, r⟩ := h
  exact ⟨es, clock, (hb.block b hlt).trans h1, r⟩
theorem map_set {H : Type} {w : World} {P : Program} {k : TypeId} {R : Value → Option (DataW H × List MemPlace)} {b n : Nat} {D : DataW H} (h : w.ownsMap P k R b n D) {p : Addr} {cs : Array Value} {t : TypeId} (hp : Bk w p.block cs t) (u : Value) : (w.setCell p u).ownsMap P k R b n D := by
  obtain ⟨es, clock, h1, r⟩ := h
  refine ⟨es, clock, ?_, r⟩
  rw [Below.heap_setCell _ _ _ _ (fun e => ?_)]
  · exact h1
  · subst e
    rw [hp] at h1
    cases h1
theorem map_ne {H : Type} {w : World} {P : Program} {k : TypeId} {R : Value → Option (DataW H × List MemPlace)} {b n g : Nat} {D : DataW H} (h : w.ownsMap P k R b n D) {cs : Array Value} {t : TypeId} (hp : Bk w g cs t) : some g ≠ some b := by
  intro e
  obtain ⟨es, clock, h1, r⟩ := h
  injection e with e
  subst e
  rw [hp] at h1
  cases h1
theorem Bk.kept {w w' : World} {g : Nat} {cs : Array Value} {t : TypeId} {row : Option Nat} (h : Bk w g cs t) (hg : w.grownBy w' row) (hne : some g ≠ row) : Bk w' g cs t := (hg.block g h.lt hne).trans h
/-- what the later entities' map answers -/
def MapIs (D : DataW Unit) (es : List Ent) (k : Nat) : Prop := Maps.IsMap D ∧ ∀ i : Int, D.atKey (.int .i64 i) (.lit (.int .i64 0)) = .lit (.int .i64 (lastK es i k))
theorem MapIs.nil (es : List Ent) : MapIs (.map []) es 0 := ⟨⟨_, rfl⟩, fun i => rfl⟩
theorem MapIs.step {D : DataW Unit} {es : List Ent} {k : Nat} {x : Ent} (h : MapIs D es k) (hx : es[k]? = some x) : MapIs (D.put (.int .i64 x.id) (.lit (.int .i64 ((k : Int) + 1)))) es (k + 1) := by
  obtain ⟨l, rfl⟩ := h.1
  refine ⟨⟨_, rfl⟩, fun i => ?_⟩
  by_cases hi : x.id = i
  · subst hi
    rw [Maps.atKey_put_same ⟨l, rfl⟩ (by simp [WideAt.IsKeyLit]), lastK_same hx]
    rfl
  · rw [Maps.atKey_put_other (fun e => hi (by cases e; rfl)), h.2 i, lastK_other hx hi]
theorem key_wf {i : Int} (h1 : -9223372036854775808 ≤ i) (h2 : i ≤ 9223372036854775807) : (Lit.int .i64 i).wf = true := by
  simp only [Lit.wf, IntKind.min, IntKind.max, IntKind.signed, IntKind.bits, Bool.and_eq_true, decide_eq_true_eq, if_true]
  omega
end Go.Proofs.YtlcjkomfjgddeaaGreatDoor
namespace Go.Proofs.YtlcjkomfjgddeaaGreatDoor
open Go Go.RowKit Go.Sort
set_option maxRecDepth 100000
attribute [local go_sem] opLow opUpon opLow2 opUpon2

theorem BB.grown {w0 w w' : World} {s gm k : Nat} {D : DataW Unit} {ta tb n d : Int} {a b : Option Addr} {an ac bn bc : Nat} (h : BB w0 w s ta tb n d a b an ac bn bc) (hs : s = w0.heap.size) (hg : w.grownBy w' (some gm)) (hm : w.ownsMap Tryz.prog 3 (plainElem Tryz.prog 3) gm k D) (hgm : s ≤ gm) : BB w0 w' s ta tb n d a b an ac bn bc :=
  ⟨h.pa.kept hg (map_ne hm h.pa), h.pb.kept hg (map_ne hm h.pb), h.pn.kept hg (map_ne hm h.pn), h.pd.kept hg (map_ne hm h.pd), h.pr.kept hg (map_ne hm h.pr), h.bel.grown hg (by subst hs; exact h.bel.size) (fun j hj => by cases hj; exact hgm)⟩
theorem BB.setCell {w0 w : World} {s : Nat} {ta tb n d : Int} {a b : Option Addr} {an ac bn bc : Nat} (h : BB w0 w s ta tb n d a b an ac bn bc) {p : Addr} (hp : s + 1 + 1 + 1 + 1 < p.block) (u : Value) : BB w0 (w.setCell p u) s ta tb n d a b an ac bn bc :=
  ⟨h.pa.far (by omega) u, h.pb.far (by omega) u, h.pn.far (by omega) u, h.pd.far (by omega) u, h.pr.far (by omega) u, h.bel.setCell (by omega) u⟩
theorem Bk.ne {w : World} {g h : Nat} {cs ds : Array Value} {t u : TypeId} (hg : Bk w g cs t) (hh : Bk w h ds u) (ne : t ≠ u) : g ≠ h := by
  intro e
  subst e
  unfold Bk at hg hh
  rw [hg] at hh
  injection hh with hh
  injection hh with _ h2 _
  exact ne h2
theorem BB.setRow {w0 w : World} {s : Nat} {ta tb n d : Int} {a b : Option Addr} {an ac bn bc : Nat} (h : BB w0 w s ta tb n d a b an ac bn bc) {p : Addr} {cs : Array Value} (hp : Bk w p.block cs 48) (hs : s ≤ p.block) (u : Value) : BB w0 (w.setCell p u) s ta tb n d a b an ac bn bc :=
  ⟨h.pa.far (h.pa.ne hp (by decide)) u, h.pb.far (h.pb.ne hp (by decide)) u, h.pn.far (h.pn.ne hp (by decide)) u, h.pd.far (h.pd.ne hp (by decide)) u, h.pr.far (h.pr.ne hp (by decide)) u, h.bel.setCell hs u⟩
theorem set_self {α : Type} {l : List α} {i : Nat} {x : α} (h : l[i]? = some x) : l.set i x = l := by
  apply List.ext_getElem?
  intro k
  rw [List.getElem?_set]
  by_cases hk : i = k
  · subst hk; rw [if_pos rfl, if_pos (List.getElem?_eq_some_iff.1 h).1, h]
  · simp [hk]
/-- a list of which f has changed the first k -/
def midL {α : Type} (f : α → α) (l : List α) (k : Nat) : List α := (l.take k).map f ++ l.drop k
theorem midL_len {α : Type} (f : α → α) (l : List α) (k : Nat) : (midL f l k).length = l.length := by
  simp only [midL, List.length_append, List.length_map, List.length_take, List.length_drop]; omega
theorem midL_all {α : Type} (f : α → α) (l : List α) : midL f l l.length = l.map f := by simp [midL]
theorem midL_at {α : Type} {f : α → α} {l : List α} {k : Nat} {x : α} (h : l[k]? = some x) : (midL f l k)[k]? = some x := by
  have hk := (List.getElem?_eq_some_iff.1 h).1
  have hl : ((l.take k).map f).length = k := by simp; omega
  unfold midL
  rw [List.getElem?_append_right (by omega), hl, Nat.sub_self, List.getElem?_drop]
  simpa using h
theorem midL_succ {α : Type} {f : α → α} {l : List α} {k : Nat} {x : α} (h : l[k]? = some x) : (midL f l k).set k (f x) = midL f l (k + 1) := by
  have hk := (List.getElem?_eq_some_iff.1 h).1
  have hl : ((l.take k).map f).length = k := by simp; omega
  unfold midL
  rw [List.set_append_right _ _ (by omega), hl, Nat.sub_self, take_succ h, List.map_append, List.drop_eq_getElem_cons hk, List.set_cons_zero, List.map_cons, List.map_nil, List.append_assoc]
  congr 1
theorem midL_stay {α : Type} {f : α → α} {l : List α} {k : Nat} {x : α} (h : l[k]? = some x) (hf : f x = x) : midL f l (k + 1) = midL f l k := by
  rw [← midL_succ h, hf]
  exact set_self (midL_at h)
theorem fits_pos {x : Cmp} (h : fits x = true) (hk : x.k = 1) : (-1048576 ≤ x.a ∧ x.a ≤ 1048576) ∧ (-1048576 ≤ x.b ∧ x.b ≤ 1048576) := by
  obtain ⟨k, a, b, c, d⟩ := x
  simp only at hk
  subst hk
  unfold fits at h
  simp only [Bool.and_eq_true] at h
  obtain ⟨⟨-, ⟨⟨⟨h0, h1⟩, -⟩, -⟩⟩, -⟩ := h
  unfold inLim at h0 h1
  simp only [Bool.and_eq_true, decide_eq_true_eq, lim, tab, Cmp.v] at h0 h1
  exact ⟨h0, h1⟩
theorem posOf_mem {cs : List Cmp} {x : Cmp} (h : posOf cs = some x) : x ∈ cs ∧ x.k = 1 := by
  unfold posOf at h
  exact ⟨List.mem_of_find?_eq_some h, by simpa using List.find?_some h⟩
theorem pos_bd {cs : List Cmp} (h : ∀ x ∈ cs, fits x = true) : (-1048576 ≤ posX cs ∧ posX cs ≤ 1048576) ∧ (-1048576 ≤ posY cs ∧ posY cs ≤ 1048576) := by
  unfold posX posY
  cases hp : posOf cs with
  | none => simp
  | some x => exact fits_pos (h x (posOf_mem hp).1) (posOf_mem hp).2
theorem movE_miss {B : Wld} {n d : Int} {x : Ent} (h : posOf (toCs B x.id) = none) : movE B n d x = x := by
  unfold movE
  have : movC n d (toCs B x.id) = fun y => y := by funext y; simp [movC, h]
  rw [this]; simp
theorem toCs_zero {B : Wld} {i : Int} (h : lastK B.es i B.es.length = 0) : toCs B i = [] := by unfold toCs; rw [h]
theorem toCs_at {B : Wld} {i : Int} {q : Nat} {y : Ent} (h : lastK B.es i B.es.length = q + 1) (hy : B.es[q]? = some y) : toCs B i = y.cs := by unfold toCs; rw [h]; simp only [hy]
theorem wpSeq_cons {P : Program} {ops : Array Oper} {Q : Exit → Act → World → Prop} {t : Nat} {ts : List Nat} {o : Oper} {a : Act} {w : World} (ho : ops[t]? = some o)
    (h : ∀ K' : Act → World → Prop, (∀ a w, wpSeq P ops Q ts a w → K' a w) → if Region.wanted o (yielded ops a.tmps) = true then Oper.wp P o a w K' Q else K' (a.put o.dst undef) w) : wpSeq P ops Q (t :: ts) a w := wpOp_step ho h
theorem wpSeq_nil {P : Program} {ops : Array Oper} {Q : Exit → Act → World → Prop} {a : Act} {w : World} (h : Q .normal a w) : wpSeq P ops Q [] a w := h
theorem FreshS.move2 {base : Nat} {w : World} {v : Value} {M : List Ent} {ss : List Value} {k j g n cap : Nat} {x : Ent} {c : Cmp} {f : Cmp → Cmp} {u1 u2 : Int} (h : FreshS base w v (M.set k ⟨x.id, midL f x.cs j⟩) ss) (hk : k < M.length) (hs : ss[k]? = some (.slice (some ⟨g, 0, none⟩) n cap)) (hc : x.cs[j]? = some c) (hf : f c = ⟨c.k, u1, u2, c.c, c.d⟩) :
    FreshS base ((w.setCell ⟨g, j * 5 + 1, none⟩ (.int .i64 u1)).setCell ⟨g, j * 5 + 2, none⟩ (.int .i64 u2)) v (M.set k ⟨x.id, midL f x.cs (j + 1)⟩) ss := by
  have hj := (List.getElem?_eq_some_iff.1 (midL_at (f := f) hc)).1
  have h1 := h.store (i := k) (j := j) (r := 1) (e := ⟨x.id, midL f x.cs j⟩) (e' := ⟨x.id, (midL f x.cs j).set j ⟨c.k, u1, c.b, c.c, c.d⟩⟩) (x := c) (y := ⟨c.k, u1, c.b, c.c, c.d⟩) (u := .int .i64 u1) (List.getElem?_set_self hk) hs (midL_at hc) (by decide) rfl rfl rfl rfl
  rw [List.set_set] at h1
  have h2 := h1.store (i := k) (j := j) (r := 2) (e := ⟨x.id, (midL f x.cs j).set j ⟨c.k, u1, c.b, c.c, c.d⟩⟩) (e' := ⟨x.id, (midL f x.cs (j + 1))⟩) (x := ⟨c.k, u1, c.b, c.c, c.d⟩) (y := ⟨c.k, u1, u2, c.c, c.d⟩) (u := .int .i64 u2) (List.getElem?_set_self hk) hs (List.getElem?_set_self hj) (by decide) rfl rfl rfl (by rw [List.set_set, ← hf]; exact (midL_succ hc).symm)
  rw [List.set_set, Nat.zero_add] at h2
  exact h2
theorem wpAny_name {P : Program} {md : Region.Mode} {ops : Array Oper} {Q : Exit → Act → World → Prop} {f : Nat} {l : Array Bool} {a : Act} {w : World} (R : World → Prop) (h : R w) (hK : ∀ V, R V → wpAny P md ops Q f l a V) : wpAny P md ops Q f l a w := hK w h
theorem lawI : Maps.Keyed Tryz.prog 3 := Maps.int_keyed Tryz.underlying3
theorem zeroI (w : World) : (zeroValue 3).run Tryz.prog w = .ok (.int .i64 0) w := by kernel_rfl
end Go.Proofs.YtlcjkomfjgddeaaGreatDoor
