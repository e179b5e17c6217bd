/- interp.Between on the way. -/
import Derived.Test.YtjjodmkblpdnhaaDoorInterp4
import Derived.Test.YtjjodmkblpdnhaaDoorRegH
set_option linter.unusedVariables false
set_option linter.unusedSimpArgs false
namespace Go.Proofs.YtjjodmkblpdnhaaDoor
open Go Go.RowKit Go.Sort
set_option maxRecDepth 100000
attribute [local go_sem] opLow opUpon opLow2 opUpon2

theorem BB.grown {w0 w w' : World} {s gm k : Nat} {D : DataW Unit} {ta tb n d : Int} {a b : Option Addr} {an ac bn bc : Nat} (h : BB w0 w s ta tb n d a b an ac bn bc) (hs : s = w0.heap.size) (hg : w.grownBy w' (some gm)) (hm : w.ownsMap Tryd.prog 3 (plainElem Tryd.prog 3) gm k D) (hgm : s ≤ gm) : BB w0 w' s ta tb n d a b an ac bn bc :=
  ⟨h.pa.kept hg (map_ne hm h.pa), h.pb.kept hg (map_ne hm h.pb), h.pn.kept hg (map_ne hm h.pn), h.pd.kept hg (map_ne hm h.pd), h.pr.kept hg (map_ne hm h.pr), h.bel.grown hg (by subst hs; exact h.bel.size) (fun j hj => by cases hj; exact hgm)⟩
theorem BB.setCell {w0 w : World} {s : Nat} {ta tb n d : Int} {a b : Option Addr} {an ac bn bc : Nat} (h : BB w0 w s ta tb n d a b an ac bn bc) {p : Addr} (hp : s + 1 + 1 + 1 + 1 < p.block) (u : Value) : BB w0 (w.setCell p u) s ta tb n d a b an ac bn bc :=
  ⟨h.pa.far (by omega) u, h.pb.far (by omega) u, h.pn.far (by omega) u, h.pd.far (by omega) u, h.pr.far (by omega) u, h.bel.setCell (by omega) u⟩
theorem Bk.ne {w : World} {g h : Nat} {cs ds : Array Value} {t u : TypeId} (hg : Bk w g cs t) (hh : Bk w h ds u) (ne : t ≠ u) : g ≠ h := by
  intro e
  subst e
  unfold Bk at hg hh
  rw [hg] at hh
  injection hh with hh
  injection hh with _ h2 _
  exact ne h2
theorem BB.setRow {w0 w : World} {s : Nat} {ta tb n d : Int} {a b : Option Addr} {an ac bn bc : Nat} (h : BB w0 w s ta tb n d a b an ac bn bc) {p : Addr} {cs : Array Value} (hp : Bk w p.block cs 67) (hs : s ≤ p.block) (u : Value) : BB w0 (w.setCell p u) s ta tb n d a b an ac bn bc :=
  ⟨h.pa.far (h.pa.ne hp (by decide)) u, h.pb.far (h.pb.ne hp (by decide)) u, h.pn.far (h.pn.ne hp (by decide)) u, h.pd.far (h.pd.ne hp (by decide)) u, h.pr.far (h.pr.ne hp (by decide)) u, h.bel.setCell hs u⟩
theorem set_self {α : Type} {l : List α} {i : Nat} {x : α} (h : l[i]? = some x) : l.set i x = l := by
  apply List.ext_getElem?
  intro k
  rw [List.getElem?_set]
  by_cases hk : i = k
  · subst hk; rw [if_pos rfl, if_pos (List.getElem?_eq_some_iff.1 h).1, h]
  · simp [hk]
/-- a list of which f has changed the first k -/
def midL {α : Type} (f : α → α) (l : List α) (k : Nat) : List α := (l.take k).map f ++ l.drop k
theorem midL_len {α : Type} (f : α → α) (l : List α) (k : Nat) : (midL f l k).length = l.length := by
  simp only [midL, List.length_append, List.length_map, List.length_take, List.length_drop]; omega
theorem midL_all {α : Type} (f : α → α) (l : List α) : midL f l l.length = l.map f := by simp [midL]
theorem midL_at {α : Type} {f : α → α} {l : List α} {k : Nat} {x : α} (h : l[k]? = some x) : (midL f l k)[k]? = some x := by
  have hk := (List.getElem?_eq_some_iff.1 h).1
  have hl : ((l.take k).map f).length = k := by simp; omega
  unfold midL
  rw [List.getElem?_append_right (by omega), hl, Nat.sub_self, List.getElem?_drop]
  simpa using h
theorem midL_succ {α : Type} {f : α → α} {l : List α} {k : Nat} {x : α} (h : l[k]? = some x) : (midL f l k).set k (f x) = midL f l (k + 1) := by
  have hk := (List.getElem?_eq_some_iff.1 h).1
  have hl : ((l.take k).map f).length = k := by simp; omega
  unfold midL
  rw [List.set_append_right _ _ (by omega), hl, Nat.sub_self, take_succ h, List.map_append, List.drop_eq_getElem_cons hk, List.set_cons_zero, List.map_cons, List.map_nil, List.append_assoc]
  congr 1
theorem midL_stay {α : Type} {f : α → α} {l : List α} {k : Nat} {x : α} (h : l[k]? = some x) (hf : f x = x) : midL f l (k + 1) = midL f l k := by
  rw [← midL_succ h, hf]
  exact set_self (midL_at h)
theorem fits_pos {x : Cmp} (h : fits x = true) (hk : x.k = 1) : (-1048576 ≤ x.a ∧ x.a ≤ 1048576) ∧ (-1048576 ≤ x.b ∧ x.b ≤ 1048576) := by
  obtain ⟨k, a, b, c, d⟩ := x
  simp only at hk
  subst hk
  unfold fits at h
  simp only [Bool.and_eq_true] at h
  obtain ⟨⟨-, ⟨⟨⟨h0, h1⟩, -⟩, -⟩⟩, -⟩ := h
  unfold inLim at h0 h1
  simp only [Bool.and_eq_true, decide_eq_true_eq, lim, tab, Cmp.v] at h0 h1
  exact ⟨h0, h1⟩
theorem posOf_mem {cs : List Cmp} {x : Cmp} (h : posOf cs = some x) : x ∈ cs ∧ x.k = 1 := by
  unfold posOf at h
  exact ⟨List.mem_of_find?_eq_some h, by simpa using List.find?_some h⟩
theorem pos_bd {cs : List Cmp} (h : ∀ x ∈ cs, fits x = true) : (-1048576 ≤ posX cs ∧ posX cs ≤ 1048576) ∧ (-1048576 ≤ posY cs ∧ posY cs ≤ 1048576) := by
  unfold posX posY
  cases hp : posOf cs with
  | none => simp
  | some x => exact fits_pos (h x (posOf_mem hp).1) (posOf_mem hp).2
theorem movE_miss {B : Wld} {n d : Int} {x : Ent} (h : posOf (toCs B x.id) = none) : movE B n d x = x := by
  unfold movE
  have : movC n d (toCs B x.id) = fun y => y := by funext y; simp [movC, h]
  rw [this]; simp
theorem toCs_zero {B : Wld} {i : Int} (h : lastK B.es i B.es.length = 0) : toCs B i = [] := by unfold toCs; rw [h]
theorem toCs_at {B : Wld} {i : Int} {q : Nat} {y : Ent} (h : lastK B.es i B.es.length = q + 1) (hy : B.es[q]? = some y) : toCs B i = y.cs := by unfold toCs; rw [h]; simp only [hy]
theorem wpSeq_cons {P : Program} {ops : Array Oper} {Q : Exit → Act → World → Prop} {t : Nat} {ts : List Nat} {o : Oper} {a : Act} {w : World} (ho : ops[t]? = some o)
    (h : ∀ K' : Act → World → Prop, (∀ a w, wpSeq P ops Q ts a w → K' a w) → if Region.wanted o (yielded ops a.tmps) = true then Oper.wp P o a w K' Q else K' (a.put o.dst undef) w) : wpSeq P ops Q (t :: ts) a w := wpOp_step ho h
theorem wpSeq_nil {P : Program} {ops : Array Oper} {Q : Exit → Act → World → Prop} {a : Act} {w : World} (h : Q .normal a w) : wpSeq P ops Q [] a w := h
theorem FreshS.move2 {base : Nat} {w : World} {v : Value} {M : List Ent} {ss : List Value} {k j g n cap : Nat} {x : Ent} {c : Cmp} {f : Cmp → Cmp} {u1 u2 : Int} (h : FreshS base w v (M.set k ⟨x.id, midL f x.cs j⟩) ss) (hk : k < M.length) (hs : ss[k]? = some (.slice (some ⟨g, 0, none⟩) n cap)) (hc : x.cs[j]? = some c) (hf : f c = ⟨c.k, u1, u2, c.c, c.d⟩) :
    FreshS base ((w.setCell ⟨g, j * 5 + 1, none⟩ (.int .i64 u1)).setCell ⟨g, j * 5 + 2, none⟩ (.int .i64 u2)) v (M.set k ⟨x.id, midL f x.cs (j + 1)⟩) ss := by
  have hj := (List.getElem?_eq_some_iff.1 (midL_at (f := f) hc)).1
  have h1 := h.store (i := k) (j := j) (r := 1) (e := ⟨x.id, midL f x.cs j⟩) (e' := ⟨x.id, (midL f x.cs j).set j ⟨c.k, u1, c.b, c.c, c.d⟩⟩) (x := c) (y := ⟨c.k, u1, c.b, c.c, c.d⟩) (u := .int .i64 u1) (List.getElem?_set_self hk) hs (midL_at hc) (by decide) rfl rfl rfl rfl
  rw [List.set_set] at h1
  have h2 := h1.store (i := k) (j := j) (r := 2) (e := ⟨x.id, (midL f x.cs j).set j ⟨c.k, u1, c.b, c.c, c.d⟩⟩) (e' := ⟨x.id, (midL f x.cs (j + 1))⟩) (x := ⟨c.k, u1, c.b, c.c, c.d⟩) (y := ⟨c.k, u1, u2, c.c, c.d⟩) (u := .int .i64 u2) (List.getElem?_set_self hk) hs (List.getElem?_set_self hj) (by decide) rfl rfl rfl (by rw [List.set_set, ← hf]; exact (midL_succ hc).symm)
  rw [List.set_set, Nat.zero_add] at h2
  exact h2
theorem wpAny_name {P : Program} {md : Region.Mode} {ops : Array Oper} {Q : Exit → Act → World → Prop} {f : Nat} {l : Array Bool} {a : Act} {w : World} (R : World → Prop) (h : R w) (hK : ∀ V, R V → wpAny P md ops Q f l a V) : wpAny P md ops Q f l a w := hK w h
theorem lawI : Maps.Keyed Tryd.prog 3 := Maps.int_keyed Tryd.underlying3
theorem zeroI (w : World) : (zeroValue 3).run Tryd.prog w = .ok (.int .i64 0) w := by kernel_rfl
set_option maxHeartbeats 16000000 in
theorem between_mid (A B : Wld) (n d : Int) (a b : Option Addr) (an ac bn bc : Nat) (w : World) (hR : RG w) (hA : EntsAt w (.slice a an ac) A.es) (hBs : EntsAt w (.slice b bn bc) B.es) (hok : okB A B n d) (hnd : n ≠ d) :
    Calls Tryd.prog 17 #[Wv A.t a an ac, Wv B.t b bn bc, .int .i64 n, .int .i64 d] w fun e w' => ∃ a' n' c', e = .returned (.tuple #[Wv (betw A B n d).t a' n' c', .int .i64 0]) ∧ Fresh w.heap.size w' (.slice a' n' c') (betw A B n d).es ∧ Below w.heap.size w w' := by
  have hmm := @run_makeMap
    Tryd.prog
  obtain ⟨vA, vB, h1, ⟨h2, h3⟩, h4, h5⟩ := hok
  have HVA := Lib.hid (show decide (Valid A) = true from decide_eq_true vA)
  have HVB := Lib.hid (show decide (Valid B) = true from decide_eq_true vB)
  clear vA vB
  go_enter Tryd.func17, Tryd.ntmps17
  go_wp2_with fail
  refine Calls.mono (valid_any A a an ac _ (hR.below (by go_grown)) (hA.below (by go_grown))) ?_
  rw [HVA.out]
  rintro e W1 ⟨rfl, hb1⟩
  have hB : BB w W1 w.heap.size A.t B.t n d a b an ac bn bc := BB.later ⟨((((Bk.at_ (by simp)).alloc _).alloc _).alloc _).alloc _, (((Bk.at_ (by simp)).alloc _).alloc _).alloc _, ((Bk.at_ (by simp)).alloc _).alloc _, (Bk.at_ (by simp)).alloc _, Bk.at_ (by simp), by go_grown⟩ rfl hb1
  clear hb1
  have a0 := hB.pa.cell (v := .int .i64 A.t) 0 rfl
  have a1 := hB.pa.cell (v := .slice a an ac) 1 rfl
  have b0 := hB.pb.cell (v := .int .i64 B.t) 0 rfl
  have b1 := hB.pb.cell (v := .slice b bn bc) 1 rfl
  have n0 := hB.pn.cell (v := .int .i64 n) 0 rfl
  have d0 := hB.pd.cell (v := .int .i64 d) 0 rfl
  have r0 := hB.pr.cell (v := .int .i64 0) 0 rfl
  have r1 := hB.pr.cell (v := .slice none 0 0) 1 rfl
  have f0 := hB.pr.free 0
  have f1 := hB.pr.free 1
  go_wp2_with fail
  refine Calls.mono (valid_any B b bn bc _ (hR.below hB.bel) (hBs.below hB.bel)) ?_
  rw [HVB.out]
  rintro e W2 ⟨rfl, hb2⟩
  replace hB := hB.later rfl hb2
  clear a0 a1 b0 b1 n0 d0 r0 r1 f0 f1 hb2
  have a0 := hB.pa.cell (v := .int .i64 A.t) 0 rfl
  have a1 := hB.pa.cell (v := .slice a an ac) 1 rfl
  have b0 := hB.pb.cell (v := .int .i64 B.t) 0 rfl
  have b1 := hB.pb.cell (v := .slice b bn bc) 1 rfl
  have n0 := hB.pn.cell (v := .int .i64 n) 0 rfl
  have d0 := hB.pd.cell (v := .int .i64 d) 0 rfl
  have r0 := hB.pr.cell (v := .int .i64 0) 0 rfl
  have r1 := hB.pr.cell (v := .slice none 0 0) 1 rfl
  have f0 := hB.pr.free 0
  have f1 := hB.pr.free 1
  have HOK := Lib.hid (And.intro hR (And.intro hA hBs))
  have hlb := hBs.len
  have HLB := Lib.hid hlb
  have hbn : bn < 1099511627776 := by
    rcases hBs with ⟨_, h⟩ | ⟨_, _, _, _, hl, _⟩
    · rw [hlb, h]; simp
    · rw [hlb]; exact hl
  clear hlb
  have q1 : decide (B.t ≤ A.t) = false := by simpa using h1
  have q2 : decide (d < 1) = false := by simpa using h2
  have q3 : decide (34359738368 < d) = false := by simpa using h3
  have q4 : decide (n < 0) = false := by simpa using h4
  have q5 : decide (d < n) = false := by simpa using h5
  have q6 : (n == d) = false := by simpa using hnd
  have HH := Lib.hid (And.intro hnd (And.intro h1 (And.intro h2 (And.intro h3 (And.intro h4 h5)))))
  clear h1 h2 h3 h4 h5 hnd
  have lt1 := hB.pb.lt
  have lt0 := hB.pa.lt
  go_wp2
  clear a0 a1 b0 b1 n0 d0 r0 r1 f0 f1
  refine wp_name (fun V => BB w V w.heap.size A.t B.t n d a b an ac bn bc ∧ V.ownsMap Tryd.prog 3 (plainElem Tryd.prog 3) W2.heap.size 0 (.map [] : DataW Unit)) ⟨hB.later rfl ((Below.refl _ _).alloc (Nat.le_refl _) _), World.ownsMap_made _ _ _ _⟩ ?_
  have hgm := hB.bel.size
  clear hB lt0 lt1
  generalize W2.heap.size = gm at hgm ⊢
  rintro W3 ⟨hB, hM⟩
  clear W1 W2
  go_loopw [65] (fun v65 wr => ∃ (k : Nat) (D : DataW Unit), k ≤ bn ∧ v65 = .int .i64 k ∧ BB w wr w.heap.size A.t B.t n d a b an ac bn bc ∧ wr.ownsMap Tryd.prog 3 (plainElem Tryd.prog 3) gm k D ∧ MapIs D B.es k) (fun v65 _ => bn - (intOf v65).toNat)
  case atStart => exact ⟨0, _, by omega, rfl, hB, hM, MapIs.nil _⟩
  case round =>
    clear hB hM
    obtain ⟨k, D, hk, rfl, hB, hmp, hD⟩ := hrel
    by_cases hlt : k < bn
    · obtain ⟨x, hx⟩ := at_lt (l := B.es) (i := k) (by rw [← HLB.out]; exact hlt)
      rcases HOK.out.2.2 with ⟨h, hnil⟩ | ⟨bb, off, cap, h, hl, hc⟩
      · rw [hnil] at hx; cases hx
      · injection h with h1 h2 h3
        subst h1 h3
        obtain ⟨x0, xa, xn, xc, x1, xh⟩ := hc k x hx
        have hxr : Right x := (of_decide_eq_true HVB.out).2.2.2 x (List.mem_iff_getElem?.2 ⟨_, hx⟩)
        have hkw := key_wf (i := x.id) (by have := hxr.1; omega) (by have := hxr.1; omega)
        have hvw := key_wf (i := (k : Int) + 1) (by omega) (by omega)
        have HX := Lib.hid hx
        clear hx h2 hc hl xh hxr
        have hgg := hB.bel
        replace x0 := cell_later hgg x0
        replace x1 := cell_later hgg x1
        have lts := hgg.size
        go_wp2_with (first | (at_mapUpdate; refine wpList_mapUpdate_own _ rfl _ _ _ 76 rfl 3 3 lawI Tryd.underlying76 _ gm k _ rfl (hmp.alloc _) (by unfold maxLen; omega) _ _ _ rfl rfl (Maps.keyOf_int_mk Tryd.underlying3 hkw) _ [] (plainElem_int Tryd.underlying3 hvw) ?_; intro w1 hown1 hgrow1) | go_in)
        go_roundw
        case rel => exact ⟨k + 1, _, by omega, by go_num, BB.grown (hB.later rfl ((Below.refl _ _).alloc (Nat.le_refl _) _)) rfl hgrow1 (hmp.alloc _) hgm, hown1, hD.step HX.out⟩
        case measure => simp [intOf]; omega
    · obtain rfl : bn = k := by omega
      have hgg := hB.bel
      have a0 := hB.pa.cell (v := .int .i64 A.t) 0 rfl
      have a1 := hB.pa.cell (v := .slice a an ac) 1 rfl
      have b0 := hB.pb.cell (v := .int .i64 B.t) 0 rfl
      have b1 := hB.pb.cell (v := .slice b bn bc) 1 rfl
      have n0 := hB.pn.cell (v := .int .i64 n) 0 rfl
      have d0 := hB.pd.cell (v := .int .i64 d) 0 rfl
      have r0 := hB.pr.cell (v := .int .i64 0) 0 rfl
      have r1 := hB.pr.cell (v := .slice none 0 0) 1 rfl
      have f0 := hB.pr.free 0
      have f1 := hB.pr.free 1
      go_wp2_with fail
      refine Calls.mono (own_any A a an ac _ (HOK.out.2.1.below hgg)) ?_
      rintro e W4 ⟨o, on, oc, rfl, hF, hb4⟩
      replace hF : Fresh w.heap.size W4 (.slice o on oc) A.es := hF.mono hgg.size
      replace hB := hB.later rfl hb4
      replace hM := map_below hmp hb4
      clear a0 a1 b0 b1 n0 d0 r0 r1 f0 f1 hb4 hmp hgg
      have a0 := hB.pa.cell (v := .int .i64 A.t) 0 rfl
      have a1 := hB.pa.cell (v := .slice a an ac) 1 rfl
      have b0 := hB.pb.cell (v := .int .i64 B.t) 0 rfl
      have b1 := hB.pb.cell (v := .slice b bn bc) 1 rfl
      have lt0 := hB.pa.lt
      have lt1 := hB.pb.lt
      have hB5 := hB.later rfl ((Below.refl _ _).alloc (Nat.le_refl _) (.cells #[.int .i64 A.t, .slice o on oc] 27))
      have hT := (of_decide_eq_true HVA.out).1
      have hT2 := (of_decide_eq_true HVB.out).1
      have hnn := HH.out
      go_wp2_with fail
      refine Calls.mono (move_any A.t B.t n d _ _ _ (by omega) (by omega) (by omega) (by omega) (by omega) (by omega) (by omega) (by omega) (by omega) (hB5.pn.cell 0 rfl) (hB5.pd.cell 0 rfl)) ?_
      obtain ⟨tt, htt⟩ : ∃ z, mvI A.t B.t n d = z := ⟨_, rfl⟩
      have HTT := Lib.hid htt
      rw [htt]
      rintro e W5 ⟨rfl, hb5⟩
      have BO : Bk W5 W4.heap.size #[.int .i64 A.t, .slice o on oc] 27 := Bk.below (Bk.made _ _ _) hb5
      have hFS := (hF.below ((Below.refl _ _).alloc (Nat.le_refl _) (.cells #[.int .i64 A.t, .slice o on oc] 27))).below hb5
      have hgo : w.heap.size + 1 + 1 + 1 + 1 < W4.heap.size := hB.pr.lt
      replace hM := map_below (hM.alloc _) hb5
      replace hB := hB5.later rfl hb5
      clear hF hB5 hb5 htt hT hT2 hnn a0 a1 b0 b1 lt0 lt1
      generalize W4.heap.size = go at BO hgo ⊢
      have o0 := BO.cell (v := .int .i64 A.t) 0 rfl
      have o1 := BO.cell (v := .slice o on oc) 1 rfl
      have g0 := BO.free 0
      go_wp2
      refine wp_name (fun V => BB w V w.heap.size A.t B.t n d a b an ac bn bc ∧ Bk V go #[.int .i64 tt, .slice o on oc] 27 ∧ V.ownsMap Tryd.prog 3 (plainElem Tryd.prog 3) gm bn D ∧ Fresh w.heap.size V (.slice o on oc) A.es) ⟨hB.setCell (p := ⟨go, 0, none⟩) hgo _, BO.put 0 _, map_set hM (p := ⟨go, 0, none⟩) BO _, hFS.set (p := ⟨go, 0, none⟩) BO (by decide) (by decide) _⟩ ?_
      clear hB BO hM hFS o0 o1 g0
      rintro W6 ⟨hB, BO, hM, hFS⟩
      clear W3 wr W4 W5 hlt hk
      obtain ⟨ss0, hFS⟩ := hFS.open
      have hon := hFS.shut.ents.len
      have hon2 : on < 1099511627776 := by rw [hon]; exact hFS.1
      have HLA := Lib.hid hon
      clear hon
      go_loopw [88] (fun v88 wr => ∃ (k : Nat) (ss : List Value), k ≤ on ∧ v88 = .int .i64 k ∧ BB w wr w.heap.size A.t B.t n d a b an ac bn bc ∧ Bk wr go #[.int .i64 tt, .slice o on oc] 27 ∧ wr.ownsMap Tryd.prog 3 (plainElem Tryd.prog 3) gm bn D ∧ FreshS w.heap.size wr (.slice o on oc) (midL (movE B n d) A.es k) ss) (fun v88 _ => on - (intOf v88).toNat)
      case atStart => exact ⟨0, ss0, by omega, rfl, hB, BO, hM, hFS⟩
      case round =>
        clear hB BO hM hFS ss0
        obtain ⟨k, ss, hk, rfl, hB, BO, hmp, hFS⟩ := hrel
        by_cases hlt : k < on
        · obtain ⟨x, hx⟩ := at_lt (l := A.es) (i := k) (by rw [← HLA.out]; exact hlt)
          obtain ⟨g, cap, sa, sn, sc, hv, hss, x0, x1, hrow⟩ := hFS.ent (midL_at hx)
          injection hv with e1 e2 e3
          subst e1 e3
          rw [Nat.zero_add] at x0 x1
          have hxr : Right x := (of_decide_eq_true HVA.out).2.2.2 x (List.mem_iff_getElem?.2 ⟨_, hx⟩)
          have hkw := key_wf (i := x.id) (by have := hxr.1; omega) (by have := hxr.1; omega)
          have hsn := hrow.comps.len
          have hsn2 : sn < 1099511627776 := by rw [hsn]; exact hrow.2.2
          have HSN := Lib.hid (And.intro hsn (And.intro hss (And.intro hx hxr)))
          have HRW := Lib.hid hrow
          have lts := hB.bel.size
          have hmap := hD.2 x.id
          obtain ⟨q, hq⟩ : ∃ q, lastK B.es x.id bn = q := ⟨_, rfl⟩
          rw [hq] at hmap
          have HQ := Lib.hid hq
          clear hq e2 hx hss hxr hsn hrow
          rcases q with _ | q
          · go_wp2_with (first | (at_lookup; refine wpList_lookup_own_int _ rfl _ _ 76 rfl 3 3 .i64 lawI Tryd.underlying76 Tryd.underlying3 (zeroI _) gm bn _ rfl (hmp.alloc _) _ _ rfl (Maps.keyOf_int_mk Tryd.underlying3 hkw) ?_; intro c hat hwc; obtain rfl : (((0 : Nat) : Int)) = c := (by rw [hmap] at hat; cases hat; rfl); clear hat hwc) | go_in)
            go_roundw
            case rel => exact ⟨k + 1, ss, by omega, by go_num, hB.later rfl ((Below.refl _ _).alloc (Nat.le_refl _) _), BO.alloc _, hmp.alloc _, by rw [midL_stay HSN.out.2.2.1 (movE_miss (by rw [toCs_zero (by rw [← HLB.out]; exact HQ.out)]; rfl))]; exact hFS.below ((Below.refl _ _).alloc (Nat.le_refl _) _)⟩
            case measure => simp [intOf]; omega
          · have hqn : q < bn := by have := lastK_le B.es x.id bn; have := HQ.out; omega
            obtain ⟨y, hy⟩ := at_lt (l := B.es) (i := q) (by rw [← HLB.out]; exact hqn)
            have htc : toCs B x.id = y.cs := toCs_at (by rw [← HLB.out]; exact HQ.out) hy
            rcases HOK.out.2.2 with ⟨h, hnil⟩ | ⟨bb, off, bcap, h, hl, hc⟩
            · rw [hnil] at hy; cases hy
            · injection h with h1 h2 h3
              subst h1 h3
              obtain ⟨y0, ya, yn, yc, y1, yh⟩ := hc q y hy
              have hgg := hB.bel
              replace y0 := cell_later hgg y0
              replace y1 := cell_later hgg y1
              replace yh := yh.below hgg
              have HTC := Lib.hid (And.intro htc (And.intro hy h2))
              clear hy h2 hc hl htc
              have hmap2 : D.atKey (.int .i64 x.id) (.lit (.int .i64 0)) = .lit (.int .i64 ((q : Int) + 1)) := hmap
              have hz : ((q : Int) + 1 == 0) = false := by simp; omega
              clear hmap
              have hmap := hmap2
              have b0 := hB.pb.cell (v := .int .i64 B.t) 0 rfl
              have b1 := hB.pb.cell (v := .slice (some ⟨bb, off, none⟩) bn bc) 1 rfl
              have lt1 := hB.pb.lt
              have lt2 : bb < wr.heap.size := World.block_lt_of_cell? wr ⟨bb, off + q * 2, none⟩ y0
              go_wp2_with (first | (at_lookup; refine wpList_lookup_own_int _ rfl _ _ 76 rfl 3 3 .i64 lawI Tryd.underlying76 Tryd.underlying3 (zeroI _) gm bn _ rfl (hmp.alloc _) _ _ rfl (Maps.keyOf_int_mk Tryd.underlying3 hkw) ?_; intro c hat hwc; obtain rfl : ((q : Int) + 1) = c := (by rw [hmap] at hat; cases hat; rfl); clear hat hwc) | fail)
              have hB5 := hB.later rfl ((Below.refl _ _).alloc (Nat.le_refl _) (.cells #[.int .i64 x.id, .slice sa sn sc] 47))
              refine Calls.mono (position_any y ya yn yc _ (yh.below ((Below.refl _ _).alloc (Nat.le_refl _) _))) ?_
              obtain ⟨px, hpx⟩ : ∃ z, posX y.cs = z := ⟨_, rfl⟩
              obtain ⟨py, hpy⟩ : ∃ z, posY y.cs = z := ⟨_, rfl⟩
              obtain ⟨pk, hpk⟩ : ∃ z, (posOf y.cs).isSome = z := ⟨_, rfl⟩
              have HP := Lib.hid (And.intro hpx (And.intro hpy hpk))
              rw [show posV y.cs = .tuple #[.agg #[.int .i64 px, .int .i64 py], .bool pk] by unfold posV; rw [hpx, hpy, hpk]]
              clear hpx hpy hpk
              rintro e W6 ⟨rfl, hb6⟩
              have BE : Bk W6 wr.heap.size #[.int .i64 x.id, .slice sa sn sc] 47 := Bk.below (Bk.made _ _ _) hb6
              have hge : w.heap.size + 1 + 1 + 1 + 1 < wr.heap.size := hB.pr.lt
              replace hB := hB5.later rfl hb6
              replace BO := (BO.alloc _).below hb6
              replace hmp := map_below (hmp.alloc _) hb6
              replace hFS := (hFS.below ((Below.refl _ _).alloc (Nat.le_refl _) _)).below hb6
              clear hB5 y0 y1 yh lt1 lt2 b0 b1 hmap hmap2 x0 x1 hb6 hgg
              generalize wr.heap.size = ge at BE hge ⊢
              have z0 := BE.cell (v := .int .i64 x.id) 0 rfl
              have z1 := BE.cell (v := .slice sa sn sc) 1 rfl
              have ltE := BE.lt
              go_wp2
              have hgv : w.heap.size + 1 + 1 + 1 + 1 < W6.heap.size := hB.pr.lt
              refine wp_name (fun V => BB w V w.heap.size A.t B.t n d a (some ⟨bb, off, none⟩) an ac bn bc ∧ Bk V go #[.int .i64 tt, .slice (some ⟨g, 0, none⟩) on oc] 27 ∧ Bk V ge #[.int .i64 x.id, .slice sa sn sc] 47 ∧ Bk V W6.heap.size #[.int .i64 px, .int .i64 py] 54 ∧ V.ownsMap Tryd.prog 3 (plainElem Tryd.prog 3) gm bn D ∧ FreshS w.heap.size V (.slice (some ⟨g, 0, none⟩) on oc) (midL (movE B n d) A.es k) ss) ⟨hB.later rfl ((Below.refl _ _).alloc (Nat.le_refl _) _), BO.alloc _, BE.alloc _, Bk.made _ _ _, hmp.alloc _, hFS.below ((Below.refl _ _).alloc (Nat.le_refl _) _)⟩ ?_
              clear hB BO BE hmp hFS z0 z1 ltE
              generalize W6.heap.size = gv at hgv ⊢
              rintro W7 ⟨hB, BO, BE, BV, hmp, hFS⟩
              clear W6 lts HRW
              go_loopw [111] (fun v111 wr2 => ∃ j : Nat, j ≤ sn ∧ v111 = .int .i64 j ∧ BB w wr2 w.heap.size A.t B.t n d a (some ⟨bb, off, none⟩) an ac bn bc ∧ Bk wr2 go #[.int .i64 tt, .slice (some ⟨g, 0, none⟩) on oc] 27 ∧ Bk wr2 ge #[.int .i64 x.id, .slice sa sn sc] 47 ∧ Bk wr2 gv #[.int .i64 px, .int .i64 py] 54 ∧ wr2.ownsMap Tryd.prog 3 (plainElem Tryd.prog 3) gm bn D ∧ FreshS w.heap.size wr2 (.slice (some ⟨g, 0, none⟩) on oc) ((midL (movE B n d) A.es k).set k ⟨x.id, midL (movC n d y.cs) x.cs j⟩) ss) (fun v111 _ => sn - (intOf v111).toNat)
              case atStart => exact ⟨0, by omega, rfl, hB, BO, BE, BV, hmp, by rw [show (⟨x.id, midL (movC n d y.cs) x.cs 0⟩ : Ent) = x from rfl, set_self (midL_at HSN.out.2.2.1)]; exact hFS⟩
              case round =>
                clear hB BO BE BV hmp hFS
                obtain ⟨j, hj, rfl, hB, BO, BE, BV, hmp, hFS⟩ := hrel
                have z1 := BE.cell (v := .slice sa sn sc) 1 rfl
                by_cases hlt2 : j < sn
                · obtain ⟨c, hc⟩ := at_lt (l := x.cs) (i := j) (by rw [← HSN.out.1]; exact hlt2)
                  have hat : ((midL (movE B n d) A.es k).set k ⟨x.id, midL (movC n d y.cs) x.cs j⟩)[k]? = some ⟨x.id, midL (movC n d y.cs) x.cs j⟩ := List.getElem?_set_self (List.getElem?_eq_some_iff.1 (midL_at HSN.out.2.2.1)).1
                  obtain ⟨g2, cap2, cur, hv, hg2, BC, fr, c0, c1, c2⟩ := (hFS.2.2.2.1 k _ _ HSN.out.2.1 hat).comp (midL_at hc)
                  injection hv with e1 e2 e3
                  subst e1 e3
                  rw [Nat.zero_add] at c0 c1 c2
                  have HC := Lib.hid (And.intro hc hat)
                  clear hc hat e2
                  cases pk
                  · go_wp2
                    go_roundw
                    case rel => exact ⟨j + 1, by omega, by go_num, hB, BO, BE, BV, hmp, by rw [midL_stay HC.out.1 (by simp [movC, HP.out.2.2])]; exact hFS⟩
                    case measure => simp [intOf]; omega
                  · by_cases hk1 : c.k = 1
                    · skip
                      have hfit := HSN.out.2.2.2.2.2 c (List.mem_iff_getElem?.2 ⟨_, HC.out.1⟩)
                      have hcb := fits_pos hfit hk1
                      have hyr : Right y := (of_decide_eq_true HVB.out).2.2.2 y (List.mem_iff_getElem?.2 ⟨_, HTC.out.2.1⟩)
                      have hpb := pos_bd hyr.2.2
                      rw [HP.out.1, HP.out.2.1] at hpb
                      have hnn := HH.out
                      have M1 := fun W => move_any c.a px n d (w.heap.size + 1 + 1) (w.heap.size + 1 + 1 + 1) W (by omega) (by omega) (by omega) (by omega) (by omega) (by omega) (by omega) (by omega) (by omega)
                      have M2 := fun W => move_any c.b py n d (w.heap.size + 1 + 1) (w.heap.size + 1 + 1 + 1) W (by omega) (by omega) (by omega) (by omega) (by omega) (by omega) (by omega) (by omega) (by omega)
                      obtain ⟨u1, hu1⟩ : ∃ z, mvI c.a px n d = z := ⟨_, rfl⟩
                      obtain ⟨u2, hu2⟩ : ∃ z, mvI c.b py n d = z := ⟨_, rfl⟩
                      rw [hu1] at M1
                      rw [hu2] at M2
                      have HU := Lib.hid (And.intro hu1 hu2)
                      clear hfit hcb hyr hpb hnn hu1 hu2
                      go_wp2
                      refine wp_region_any rfl ?_
                      have hd : Below wr.heap.size wr { wr with drawn := wr.drawn + 1 } := (Below.refl _ _).drew
                      refine wpAny_name (fun V => BB w V w.heap.size A.t B.t n d a (some ⟨bb, off, none⟩) an ac bn bc ∧ Bk V go #[.int .i64 tt, .slice (some ⟨g, 0, none⟩) on oc] 27 ∧ Bk V ge #[.int .i64 x.id, .slice (some ⟨g2, 0, none⟩) sn sc] 47 ∧ Bk V gv #[.int .i64 px, .int .i64 py] 54 ∧ V.ownsMap Tryd.prog 3 (plainElem Tryd.prog 3) gm bn D ∧ FreshS w.heap.size V (.slice (some ⟨g, 0, none⟩) on oc) ((midL (movE B n d) A.es k).set k ⟨x.id, midL (movC n d y.cs) x.cs j⟩) ss ∧ Bk V g2 cur 67 ∧ V.cell? ⟨g2, j * 5 + 1, none⟩ = some (.int .i64 c.a) ∧ V.cell? ⟨g2, j * 5 + 2, none⟩ = some (.int .i64 c.b)) ⟨hB.later rfl hd, BO.below hd, BE.below hd, BV.below hd, map_below hmp hd, hFS.below hd, BC.below hd, cell_later hd c1, cell_later hd c2⟩ ?_
                      clear hB BO BE BV hmp hFS BC c0 c1 c2 fr z1 hd
                      rintro W8 ⟨hB, BO, BE, BV, hmp, hFS, BC, c1, c2⟩
                      (refine wpAny_take (i := 1) (v := ?_) rfl (by kernel_rfl) (by kernel_rfl) (by kernel_rfl) (fun _ _ _ h => h) (Or.inl ⟨by rfl, ?_⟩) ?_; rotate_left; (intro w; go_simp); (try with_reducible rfl))
                      (refine wpAny_take (i := 24) (v := ?_) rfl (by kernel_rfl) (by kernel_rfl) (by kernel_rfl) (fun _ _ _ h => h) (Or.inl ⟨by rfl, ?_⟩) ?_; rotate_left; (intro w; go_simp); (try with_reducible rfl))
                      (refine wpAny_take (i := 25) (v := ?_) rfl (by kernel_rfl) (by kernel_rfl) (by kernel_rfl) (fun _ _ _ h => h) (Or.inl ⟨by rfl, ?_⟩) ?_; rotate_left; (intro w; go_simp); (try with_reducible rfl))
                      have n0 := cell_regrown (hB.pn.cell (v := .int .i64 n) 0 rfl)
                      have d0 := cell_regrown (hB.pd.cell (v := .int .i64 d) 0 rfl)
                      replace c1 := cell_regrown c1
                      replace c2 := cell_regrown c2
                      have v0 := cell_regrown (BV.cell (v := .int .i64 px) 0 rfl)
                      have v1 := cell_regrown (BV.cell (v := .int .i64 py) 1 rfl)
                      refine any_lowH noPosts _ [0, 2, 3, 4, 5, 6, 7, 8, 9, 10, 11, 12, 13, 14, 15, 16, 17, 18, 19, 20, 21, 22] [22, 21, 20, 19, 18, 17, 16, 15, 14, 13, 12, 11, 10, 9, 8, 7, 6, 5, 4, 3, 2, 0] [23, 26, 27] (by kernel_rfl) ?_
                      iterate 22 (refine lowH_step _ rfl (fun K hK => ?_); go_simp; first | (refine hK _ ?_; clear hK K) | (apply Exists.intro; refine ⟨fun p => ?_, hK _ ?_⟩; (refine ⟨rfl, ?_⟩; first | with_reducible exact M1 _ (n0 _ _) (d0 _ _) | with_reducible exact M2 _ (n0 _ _) (d0 _ _)); clear hK K))
                      refine lowH_nil ?_
                      intro W9 hC
                      have hb9 : Below W8.heap.size W8 W9 := hC.1
                      clear n0 d0 c1 c2 v0 v1 hC M1 M2
                      replace hB := hB.later rfl hb9
                      replace BO := BO.below hb9
                      replace BE := BE.below hb9
                      replace BV := BV.below hb9
                      replace hmp := map_below hmp hb9
                      replace hFS := hFS.below hb9
                      replace BC := BC.below hb9
                      clear hb9 W8
                      obtain ⟨g3, cap3, cur3, hv3, -, BC3, -, -, c1, c2⟩ := (hFS.2.2.2.1 k _ _ HSN.out.2.1 HC.out.2).comp (midL_at HC.out.1)
                      injection hv3 with e1 e2 e3
                      injection e1 with e1; injection e1 with e1
                      subst e1
                      clear e2 e3 BC3 cur3
                      rw [Nat.zero_add] at c1 c2
                      have f1 := BC.free (j * 5 + 1)
                      have f2 := BC.free (j * 5 + 2)
                      iterate 3 (refine wpSeq_cons rfl (fun K hK => ?_); go_simp; refine hK _ _ ?_; clear hK K)
                      refine wpSeq_nil ?_
                      go_wp2
                      go_roundw
                      case rel => exact ⟨j + 1, by omega, by go_num, (hB.setRow (p := ⟨g2, _, none⟩) BC hg2 _).setRow (p := ⟨g2, _, none⟩) (BC.put _ _) hg2 _, (BO.far (p := ⟨g2, _, none⟩) (BO.ne BC (by decide)) _).far (p := ⟨g2, _, none⟩) (BO.ne BC (by decide)) _, (BE.far (p := ⟨g2, _, none⟩) (BE.ne BC (by decide)) _).far (p := ⟨g2, _, none⟩) (BE.ne BC (by decide)) _, (BV.far (p := ⟨g2, _, none⟩) (BV.ne BC (by decide)) _).far (p := ⟨g2, _, none⟩) (BV.ne BC (by decide)) _, map_set (map_set hmp (p := ⟨g2, _, none⟩) BC _) (p := ⟨g2, _, none⟩) (BC.put _ _) _, hFS.move2 (List.getElem?_eq_some_iff.1 (midL_at HSN.out.2.2.1)).1 HSN.out.2.1 HC.out.1 (by simp [movC, hk1, HP.out.1, HP.out.2.1, HP.out.2.2, HU.out.1, HU.out.2])⟩
                      case measure => simp [intOf]; omega
                    · go_wp2
                      go_roundw
                      case rel => exact ⟨j + 1, by omega, by go_num, hB, BO, BE, BV, hmp, by rw [midL_stay HC.out.1 (by simp [movC, hk1])]; exact hFS⟩
                      case measure => simp [intOf]; omega
                · obtain rfl : sn = j := by omega
                  go_wp2
                  go_roundw
                  case rel => exact ⟨k + 1, ss, by omega, by go_num, hB, BO, hmp, by rw [← midL_succ HSN.out.2.2.1]; have e : movE B n d x = ⟨x.id, midL (movC n d y.cs) x.cs sn⟩ := (by unfold movE; rw [HTC.out.1, HSN.out.1, midL_all]); rw [e]; exact hFS⟩
                  case measure => simp [intOf]; omega
        · have e : on = k := by omega
          subst e
          have r0 := hB.pr.cell (v := .int .i64 0) 0 rfl
          have r1 := hB.pr.cell (v := .slice none 0 0) 1 rfl
          have f0 := hB.pr.free 0
          have f1 := hB.pr.free 1
          have o0 := BO.cell (v := .int .i64 tt) 0 rfl
          have o1 := BO.cell (v := .slice o on oc) 1 rfl
          rw [HLA.out, midL_all, ← HLA.out] at hFS
          have hgg := hB.bel
          have hF := hFS.shut
          go_wp2
          refine post_name (fun V => Bk V (w.heap.size + 1 + 1 + 1 + 1) #[.int .i64 tt, .slice o on oc] 27 ∧ Fresh w.heap.size V (.slice o on oc) (A.es.map (movE B n d)) ∧ Below w.heap.size w V) ⟨(hB.pr.put 0 _).put 1 _, (hF.set (p := ⟨w.heap.size + 1 + 1 + 1 + 1, 0, none⟩) hB.pr (by decide) (by decide) _).set (p := ⟨w.heap.size + 1 + 1 + 1 + 1, 1, none⟩) (hB.pr.put 0 _) (by decide) (by decide) _, by go_grown⟩ ?_
          rintro V ⟨BV, hFV, hbV⟩
          clear r0 r1 f0 f1 o0 o1
          have y0 := BV.cell (v := .int .i64 tt) 0 rfl
          have y1 := BV.cell (v := .slice o on oc) 1 rfl
          have hbt : betw A B n d = ⟨tt, A.es.map (movE B n d)⟩ := by unfold betw; rw [if_neg HH.out.1, HTT.out]
          exact bodyPost_ret (v := .tuple #[Wv tt o on oc, .int .i64 0]) (by simp [results, Tryd.results17, go_sem, y0, y1]; try rfl) rfl ⟨o, on, oc, by rw [hbt], by rw [hbt]; exact hFV, hbV⟩
end Go.Proofs.YtjjodmkblpdnhaaDoor
