/- store.find, store.Get. -/
import Derived.Test.YtjjodmkblpdnhaaDoorStore3
set_option linter.unusedVariables false
set_option linter.unusedSimpArgs false
namespace Go.Proofs.YtjjodmkblpdnhaaDoor
open Go Go.RowKit Go.Sort
set_option maxRecDepth 100000
attribute [local go_sem] opLow opUpon opLow2 opUpon2

theorem Valid.rises {W : Wld} (h : Valid W) : Rises (W.es.map Ent.id) := h.2.2.1
theorem Right.rises {e : Ent} (h : Right e) : Rises (e.cs.map Cmp.k) := h.2.1
abbrev Wv (t : Int) (a : Option Addr) (n c : Nat) : Value := .agg #[.int .i64 t, .slice a n c]
theorem find_any (W : Wld) (a : Option Addr) (n c : Nat) (id : Int) (w : World) (hR : RG w) (h : EntsAt w (.slice a n c) W.es) (hV : Valid W) :
    Calls Tryd.prog 50 #[Wv W.t a n c, .int .i64 id] w fun e w' => e = .returned (.tuple #[.int .i64 (lowerOf (fun (x : Ent) => cmpI x.id id) W.es : Nat), .bool (hitOf (fun (x : Ent) => cmpI x.id id) W.es).isSome]) ∧ Below w.heap.size w w' := by
  obtain ⟨t, es⟩ := W
  simp only at h
  have hb0 := (Below.refl w.heap.size w).alloc (Nat.le_refl _) (.cells #[.int .i64 t, .slice a n c] 27)
  have HV := Lib.hid hV
  clear hV
  go_enter Tryd.func50, Tryd.ntmps50
  go_wp2_with fail
  with_reducible refine (valid_any ⟨t, es⟩ a n c _ (hR.below hb0) (h.below hb0)).mono ?_
  rw [decide_eq_true HV.out]
  rintro e w1 ⟨rfl, hb⟩
  have B1 := Bk.below (g := w.heap.size) (cs := #[.int .i64 t, .slice a n c]) (t := 27) (Bk.made _ _ _) hb
  have c1 := B1.cell (v := .slice a n c) 1 rfl
  obtain ⟨hg1, hs1⟩ := below_c (w := w) hb hb0
  go_wp2_with fail
  with_reducible refine (placeEntity_any es _ id _ (h.below hg1) (Valid.rises HV.out)).mono ?_
  rintro e w2 ⟨rfl, hb2⟩
  obtain ⟨hg2, hs2⟩ := below_c (w := w) hb2 hg1
  go_wp2
  go_returns
  exact ⟨rfl, hg2⟩
/-- a component of an entity of a world -/
def getM (W : Wld) (id kind : Int) : Option Cmp := (W.es.find? (fun e => decide (e.id = id))).bind (fun e => e.cs.find? (fun x => decide (x.k = kind)))
def getV (W : Wld) (id kind : Int) : Value := match getM W id kind with
  | some x => .tuple #[C x, .bool true]
  | none => .tuple #[C ⟨0, 0, 0, 0, 0⟩, .bool false]
theorem getV_none {W : Wld} {id kind : Int} (h : getM W id kind = none) : getV W id kind = .tuple #[C ⟨0, 0, 0, 0, 0⟩, .bool false] := by unfold getV; rw [h]
theorem getV_some {W : Wld} {id kind : Int} {x : Cmp} (h : getM W id kind = some x) : getV W id kind = .tuple #[C x, .bool true] := by unfold getV; rw [h]
set_option maxHeartbeats 4000000 in
theorem get_any (W : Wld) (a : Option Addr) (n c : Nat) (id kind : Int) (w : World) (hR : RG w) (h : EntsAt w (.slice a n c) W.es) (hV : Valid W) :
    Calls Tryd.prog 36 #[Wv W.t a n c, .int .i64 id, .int .u8 kind] w fun e w' => e = .returned (getV W id kind) ∧ Below w.heap.size w w' := by
  obtain ⟨t, es⟩ := W
  simp only at h
  have hb0 := ((Below.refl w.heap.size w).alloc (Nat.le_refl _) (.cells #[.int .i64 t, .slice a n c] 27)).alloc (by simp) (.cells #[.int .u8 0, .int .i64 0, .int .i64 0, .int .i64 0, .int .i64 0] 67)
  have HV := Lib.hid hV
  clear hV
  obtain ⟨i, hi⟩ : ∃ i, lowerOf (fun (x : Ent) => cmpI x.id id) es = i := ⟨_, rfl⟩
  obtain ⟨r, hr⟩ : ∃ r, hitOf (fun (x : Ent) => cmpI x.id id) es = r := ⟨_, rfl⟩
  have HI := Lib.hid (And.intro hi hr)
  have HG := Lib.hid (show es.find? (fun e => decide (e.id = id)) = r by rw [← hr, ← hit_find HV.out.2.2.1 id])
  go_enter Tryd.func36, Tryd.ntmps36
  go_wp2_with fail
  with_reducible refine (find_any ⟨t, es⟩ a n c id _ (hR.below hb0) (h.below hb0) HV.out).mono ?_
  simp only [hi, hr]
  clear hi hr
  rintro e w1 ⟨rfl, hb⟩
  have B1 : Bk w1 w.heap.size #[.int .i64 t, .slice a n c] 27 := Bk.below ((Bk.made _ _ _).alloc _) hb
  have B2 : Bk w1 (w.heap.size + 1) #[.int .u8 0, .int .i64 0, .int .i64 0, .int .i64 0, .int .i64 0] 67 := Bk.below (Bk.at_ (by simp)) hb
  obtain ⟨hg1, hs1⟩ := below_c (w := w) hb hb0
  clear hb hb0
  have c1 := B1.cell (v := .slice a n c) 1 rfl
  cases r with
  | none =>
    have z0 := B2.cell (v := .int .u8 0) 0 rfl
    have z1 := B2.cell (v := .int .i64 0) 1 rfl
    have z2 := B2.cell (v := .int .i64 0) 2 rfl
    have z3 := B2.cell (v := .int .i64 0) 3 rfl
    have z4 := B2.cell (v := .int .i64 0) 4 rfl
    have f0 := B2.free 0; have f1 := B2.free 1; have f2 := B2.free 2; have f3 := B2.free 3; have f4 := B2.free 4
    go_wp2
    refine post_name (fun V => Bk V (w.heap.size + 1) #[.int .u8 0, .int .i64 0, .int .i64 0, .int .i64 0, .int .i64 0] 67 ∧ Below w.heap.size w V) ⟨((((B2.put 0 _).put 1 _).put 2 _).put 3 _).put 4 _, by go_grown⟩ ?_
    rintro V ⟨BV, hbV⟩
    clear z0 z1 z2 z3 z4 f0 f1 f2 f3 f4
    have z0 := BV.cell (v := .int .u8 0) 0 rfl
    have z1 := BV.cell (v := .int .i64 0) 1 rfl
    have z2 := BV.cell (v := .int .i64 0) 2 rfl
    have z3 := BV.cell (v := .int .i64 0) 3 rfl
    have z4 := BV.cell (v := .int .i64 0) 4 rfl
    refine bodyPost_ret (v := .tuple #[C ⟨0, 0, 0, 0, 0⟩, .bool false]) (by simp [results, Tryd.results36, go_sem, z0, z1, z2, z3, z4]; try rfl) rfl ⟨by rw [getV_none (by unfold getM; rw [HG.out]; rfl)], hbV⟩
  | some x =>
    obtain ⟨hx, hid⟩ := hit_some HI.out.2
    rw [HI.out.1] at hx
    have hxr : Right x := HV.out.2.2.2 x (List.mem_iff_getElem?.2 ⟨_, hx⟩)
    rcases h with ⟨h, rfl⟩ | ⟨b, off, cap, h, hl, hc⟩
    · cases hx
    · injection h with h1 h2 h3
      subst h1 h3
      have hin : i < n := by rw [h2]; exact (List.getElem?_eq_some_iff.1 hx).1
      have hn2 : n < 1099511627776 := by rw [h2]; exact hl
      obtain ⟨-, xa, xn, xc, x1, xh⟩ := hc i x hx
      have y1 := cell_later hg1 x1
      have yh := xh.below hg1
      have HX := Lib.hid (And.intro hx hxr)
      clear hx hxr hid hl h2 hc xh x1
      obtain ⟨j, hj⟩ : ∃ j, lowerOf (fun (x : Cmp) => cmpI x.k kind) x.cs = j := ⟨_, rfl⟩
      obtain ⟨q, hq⟩ : ∃ q, hitOf (fun (x : Cmp) => cmpI x.k kind) x.cs = q := ⟨_, rfl⟩
      have HJ := Lib.hid (And.intro hj hq)
      have HQ := Lib.hid (show getM ⟨t, es⟩ id kind = q by unfold getM; simp only; rw [HG.out, ← hq, hit_find HX.out.2.2.1 kind]; rfl)
      go_wp2_with fail
      with_reducible refine (placeComp_any x.cs _ kind _ yh (Right.rises HX.out.2)).mono ?_
      simp only [hj, hq]
      clear hj hq
      rintro e w2 ⟨rfl, hb2⟩
      have B1 := B1.below hb2
      have B2 := B2.below hb2
      have y1 := cell_later hb2 y1
      have yh := yh.below hb2
      obtain ⟨hg2, hs2⟩ := below_c (w := w) hb2 hg1
      clear hb2
      have c1 := B1.cell (v := .slice (some ⟨b, off, none⟩) n c) 1 rfl
      have z0 := B2.cell (v := .int .u8 0) 0 rfl
      have z1 := B2.cell (v := .int .i64 0) 1 rfl
      have z2 := B2.cell (v := .int .i64 0) 2 rfl
      have z3 := B2.cell (v := .int .i64 0) 3 rfl
      have z4 := B2.cell (v := .int .i64 0) 4 rfl
      have f0 := B2.free 0; have f1 := B2.free 1; have f2 := B2.free 2; have f3 := B2.free 3; have f4 := B2.free 4
      cases q with
      | none =>
        go_wp2
        refine post_name (fun V => Bk V (w.heap.size + 1) #[.int .u8 0, .int .i64 0, .int .i64 0, .int .i64 0, .int .i64 0] 67 ∧ Below w.heap.size w V) ⟨((((B2.put 0 _).put 1 _).put 2 _).put 3 _).put 4 _, by go_grown⟩ ?_
        rintro V ⟨BV, hbV⟩
        clear z0 z1 z2 z3 z4 f0 f1 f2 f3 f4 c1 y1 B1 B2
        have z0 := BV.cell (v := .int .u8 0) 0 rfl
        have z1 := BV.cell (v := .int .i64 0) 1 rfl
        have z2 := BV.cell (v := .int .i64 0) 2 rfl
        have z3 := BV.cell (v := .int .i64 0) 3 rfl
        have z4 := BV.cell (v := .int .i64 0) 4 rfl
        refine bodyPost_ret (v := .tuple #[C ⟨0, 0, 0, 0, 0⟩, .bool false]) (by simp [results, Tryd.results36, go_sem, z0, z1, z2, z3, z4]; try rfl) rfl ⟨by rw [getV_none HQ.out], hbV⟩
      | some y =>
        obtain ⟨hy, -⟩ := hit_some HJ.out.2
        rw [HJ.out.1] at hy
        rcases yh with ⟨h, hnil⟩ | ⟨b2, off2, cap2, h, hl, hc⟩
        · rw [hnil] at hy; cases hy
        · injection h with h1 h2 h3
          subst h1 h3
          have hjn : j < xn := by rw [h2]; exact (List.getElem?_eq_some_iff.1 hy).1
          have hn3 : xn < 1099511627776 := by rw [h2]; exact hl
          obtain ⟨⟨u0, u1, u2, u3, u4⟩, -⟩ := hc j y hy
          clear hy hl h2 hc
          go_wp2
          refine post_name (fun V => Bk V (w.heap.size + 1) #[.int .u8 y.k, .int .i64 y.a, .int .i64 y.b, .int .i64 y.c, .int .i64 y.d] 67 ∧ Below w.heap.size w V) ⟨((((B2.put 0 _).put 1 _).put 2 _).put 3 _).put 4 _, by go_grown⟩ ?_
          rintro V ⟨BV, hbV⟩
          clear z0 z1 z2 z3 z4 f0 f1 f2 f3 f4 c1 y1 B1 B2 u0 u1 u2 u3 u4
          have z0 := BV.cell (v := .int .u8 y.k) 0 rfl
          have z1 := BV.cell (v := .int .i64 y.a) 1 rfl
          have z2 := BV.cell (v := .int .i64 y.b) 2 rfl
          have z3 := BV.cell (v := .int .i64 y.c) 3 rfl
          have z4 := BV.cell (v := .int .i64 y.d) 4 rfl
          refine bodyPost_ret (v := .tuple #[C y, .bool true]) (by simp [results, Tryd.results36, go_sem, z0, z1, z2, z3, z4]; try rfl) rfl ⟨by rw [getV_some HQ.out], hbV⟩
end Go.Proofs.YtjjodmkblpdnhaaDoor
