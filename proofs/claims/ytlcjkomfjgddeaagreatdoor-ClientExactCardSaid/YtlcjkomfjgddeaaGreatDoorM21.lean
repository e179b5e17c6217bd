/- step.Bodies without ropes. The index of a body; a world behind a step as plain data. Changes of the first component of a kind. -/
import Derived.Test.YtlcjkomfjgddeaaGreatDoorM20
import Derived.Test.YtlcjkomfjgddeaaGreatDoorM13
set_option linter.unusedVariables false
set_option linter.unusedSimpArgs false
namespace Go.Proofs.YtlcjkomfjgddeaaGreatDoor
open Go Go.RowKit Go.Sort
set_option maxRecDepth 100000
attribute [local go_sem] opLow opUpon opLow2 opUpon2

/-- the bodies of entities -/
def bodiesM (es : List Ent) : List Bdy := es.filterMap bodyM
theorem EntAt.below_ {w w' : World} {b o : Nat} {e : Ent} (h : EntAt w b o e) (hb : Below w.heap.size w w') : EntAt w' b o e := EntAt.below hb b o e h
def BodsPost (w : World) (es : List Ent) (gx gy : Int) (e : Ending) (w' : World) : Prop :=
  ∃ (a : Option Addr) (n c : Nat), e = .returned (Sv a n c gx gy) ∧ RowB w.heap.size w' (.slice a n c) (bodiesM es) ∧ Below w.heap.size w w'
theorem RowB.set' {base : Nat} {w : World} {s : Value} {l : List Bdy} {p : Addr} {cs : Array Value} {t : TypeId} (h : RowB base w s l) (hp : Bk w p.block cs t) (ht : t ≠ 133) (u : Value) : RowB base (w.setCell p u) s l :=
  ⟨ownsRow_setCell_other h.1 (fun e => bk_ne_row hp ht h.1 e.symm) u, h.2⟩
theorem Bk.store4b {B g : Nat} {t : TypeId} {w1 w : World} {x0 x1 x2 x3 y0 y1 y2 y3 : Value} (h : Bk w g #[x0, x1, x2, x3] t) (hB : Below B w1 w) (hg : B ≤ g) :
    Bk ((((w.setCell ⟨g, 0, none⟩ y0).setCell ⟨g, 1, none⟩ y1).setCell ⟨g, 2, none⟩ y2).setCell ⟨g, 3, none⟩ y3) g #[y0, y1, y2, y3] t ∧ Below B w1 ((((w.setCell ⟨g, 0, none⟩ y0).setCell ⟨g, 1, none⟩ y1).setCell ⟨g, 2, none⟩ y2).setCell ⟨g, 3, none⟩ y3) := by
  have P1 : Bk (w.setCell ⟨g, 0, none⟩ y0) g #[y0, x1, x2, x3] t := h.put 0 y0
  have G1 := hB.setCell (p := ⟨g, 0, none⟩) hg y0
  have P2 : Bk ((w.setCell ⟨g, 0, none⟩ y0).setCell ⟨g, 1, none⟩ y1) g #[y0, y1, x2, x3] t := P1.put 1 y1
  have G2 := G1.setCell (p := ⟨g, 1, none⟩) hg y1
  have P3 : Bk (((w.setCell ⟨g, 0, none⟩ y0).setCell ⟨g, 1, none⟩ y1).setCell ⟨g, 2, none⟩ y2) g #[y0, y1, y2, x3] t := P2.put 2 y2
  have G3 := G2.setCell (p := ⟨g, 2, none⟩) hg y2
  have P4 : Bk ((((w.setCell ⟨g, 0, none⟩ y0).setCell ⟨g, 1, none⟩ y1).setCell ⟨g, 2, none⟩ y2).setCell ⟨g, 3, none⟩ y3) g #[y0, y1, y2, y3] t := P3.put 3 y3
  have G4 := G3.setCell (p := ⟨g, 3, none⟩) hg y3
  exact ⟨P4, G4⟩
structure BodsInv (w : World) (t : Int) (ea : Option Addr) (en ec : Nat) (gx gy : Int) (l : List Bdy) (W : World) : Prop where
  b3 : Bk W w.heap.size #[.int .i64 t, .slice ea en ec] 26
  b6 : Bk W (w.heap.size + 1 + 1) #[.slice none 0 0, .slice none 0 0, .int .i64 0, .int .i64 0] 106
  b7 : ∃ a c, Bk W (w.heap.size + 1 + 1 + 1) #[.slice a l.length c, .slice none 0 0, .int .i64 gx, .int .i64 gy] 106 ∧ RowB w.heap.size W (.slice a l.length c) l
  bel : Below w.heap.size w W
theorem BodsInv.below {w : World} {t : Int} {ea : Option Addr} {en ec : Nat} {gx gy : Int} {l : List Bdy} {W W' : World} (h : BodsInv w t ea en ec gx gy l W) (hb : Below W.heap.size W W') : BodsInv w t ea en ec gx gy l W' := by
  obtain ⟨a, c, h1, h2⟩ := h.b7
  exact ⟨h.b3.below hb, h.b6.below hb, ⟨a, c, h1.below hb, h2.below hb⟩, (below_cc hb h.bel).1⟩
set_option maxHeartbeats 8000000 in
theorem bodies_any (t : Int) (es : List Ent) (ea : Option Addr) (en ec : Nat) (gx gy : Int) (w : World) (h : EntsAt w (.slice ea en ec) es) (hlen : es.length ≤ 64) :
    Calls Tryz.prog 60 #[Wv t ea en ec, .slice none 0 0, V2 gx gy] w (BodsPost w es gx gy) := by
  have hn : en = es.length := ListAt.len h
  have HN := Lib.hid hn
  have HH := Lib.hid h
  have hen : en ≤ 64 := by omega
  clear hn h hlen
  go_enter Tryz.func60, Tryz.ntmps60
  go_upto_region 2 with fail
  have hI0 : BodsInv w t ea en ec gx gy [] ((((w.alloc (.cells #[.int .i64 t, .slice ea en ec] 26)).alloc (.cells #[.int .i64 gx, .int .i64 gy] 23)).alloc (.cells #[.slice none 0 0, .slice none 0 0, .int .i64 0, .int .i64 0] 106)).alloc (.cells #[.slice none 0 0, .slice none 0 0, .int .i64 gx, .int .i64 gy] 106)) :=
    ⟨(((Bk.made _ _ _).alloc _).alloc _).alloc _, (Bk.at_ (by simp)).alloc _, ⟨none, 0, Bk.at_ (by simp), World.ownsRow_nil _ _ _ _, by simp⟩, by go_grown⟩
  refine wp_name (fun V => BodsInv w t ea en ec gx gy [] V) hI0 ?_
  clear hI0
  intro W0 HI
  have p1 := HI.b3.cell (v := .slice ea en ec) 1 rfl
  have HI := Lib.hid HI
  go_wp2
  go_loopw [20] (fun v wr => ∃ i : Nat, (v = .int .i64 i ∧ i ≤ en) ∧ BodsInv w t ea en ec gx gy (bodiesM (es.take i)) wr) (fun v _ => en - (intOf v).toNat)
  case atStart => exact ⟨0, ⟨rfl, Nat.zero_le _⟩, HI.out⟩
  case round =>
    obtain ⟨i, ⟨rfl, hi⟩, HI⟩ := hrel
    have hbl : (bodiesM (es.take i)).length ≤ i := Nat.le_trans (List.length_filterMap_le _ _) (by rw [List.length_take]; omega)
    obtain ⟨L, hL⟩ : ∃ L, bodiesM (es.take i) = L := ⟨_, rfl⟩
    rw [hL] at HI hbl
    have HL := Lib.hid hL
    have HI := Lib.hid HI
    clear hL p1
    by_cases hlt : i < en
    · obtain ⟨e, he⟩ := get_lt (l := es) (i := i) (by have := HN.out; omega)
      have htk : bodiesM (es.take (i + 1)) = L ++ (bodyM e).toList := by
        have h1 : es.take (i + 1) = es.take i ++ [e] := by rw [List.take_add_one, he]; rfl
        rw [← HL.out]
        unfold bodiesM
        rw [h1, List.filterMap_append]
        refine congrArg _ ?_
        rcases h2 : bodyM e with _ | b <;> simp only [List.filterMap_cons, List.filterMap_nil, h2] <;> rfl
      have HTK := Lib.hid htk
      clear htk
      rcases HH.out with ⟨h1, h2⟩ | ⟨b, off, cap, h1, hl, hc⟩
      · subst h2; simp at he
      · have hce := EntAt.below_ (hc i e he) HI.out.bel
        cases h1
        obtain ⟨x0, xa, xn, xc, x1, hx⟩ := hce
        clear hc he hl
        have HX := Lib.hid hx
        clear hx
        go_upto_region 5 with fail
        refine wp_name (fun V => Bk V wr.heap.size #[.int .i64 e.id, .slice xa xn xc] 43 ∧ BodsInv w t (some ⟨b, off, none⟩) es.length ec gx gy L V ∧ CompsAt V (.slice xa xn xc) e.cs) ⟨Bk.made _ _ _, HI.out.below ((Below.refl _ _).alloc (Nat.le_refl _) _), HX.out.below ((Below.refl _ _).alloc (Nat.le_refl _) _)⟩ ?_
        clear x0 x1 HX HI
        rintro V ⟨B9, HI, hx⟩
        have HI := Lib.hid HI
        have BA := body_any e xa xn xc V hx
        have HBA := Lib.hid BA
        have q0 := B9.cell (v := .int .i64 e.id) 0 rfl
        have q1 := B9.cell (v := .slice xa xn xc) 1 rfl
        clear hx BA
        rcases hbm : bodyM e with _ | bd
        · rw [hbm] at HBA HTK
          simp only [bodyR, Bv] at HBA
          clear hbm
          go_wp2_with fail
          refine Calls.mono HBA.out ?_
          rintro e' V2 ⟨rfl, hb2⟩
          replace HI := Lib.hid (HI.out.below hb2)
          clear hb2 q0 q1 B9
          go_wp2
          go_roundw
          case rel => exact ⟨i + 1, ⟨by go_num, by omega⟩, by rw [HTK.out]; simpa using HI.out.below ((Below.refl _ _).alloc (Nat.le_refl _) _)⟩
          case measure => simp [intOf]; omega
        · rw [hbm] at HBA HTK
          simp only [bodyR, Bv] at HBA
          clear hbm
          go_wp2_with fail
          refine Calls.mono HBA.out ?_
          rintro e' V2 ⟨rfl, hb2⟩
          replace HI := Lib.hid (HI.out.below hb2)
          clear hb2 q0 q1 B9
          go_upto_region 7 with fail
          refine wp_name (fun V => Bk V V2.heap.size (bcs bd) 133 ∧ BodsInv w t (some ⟨b, off, none⟩) es.length ec gx gy L V) ⟨Bk.made _ _ _, HI.out.below ((Below.refl _ _).alloc (Nat.le_refl _) _)⟩ ?_
          clear HI
          rintro V3 ⟨B10, HI⟩
          obtain ⟨sa, sc, hb7, hrow⟩ := HI.b7
          have s0 := hb7.cell (v := .slice sa L.length sc) 0 rfl
          have HI := Lib.hid HI
          have HRO := Lib.hid hrow
          have HB7 := Lib.hid hb7
          clear hrow hb7
          have y0 := B10.cell (v := .int .i64 bd.id) 0 rfl
          have y1 := B10.cell (v := .int .i64 bd.x) 1 rfl
          have y2 := B10.cell (v := .int .i64 bd.y) 2 rfl
          have y3 := B10.cell (v := .int .i64 bd.vx) 3 rfl
          have y4 := B10.cell (v := .int .i64 bd.vy) 4 rfl
          have y5 := B10.cell (v := .int .i64 bd.w) 5 rfl
          have y6 := B10.cell (v := .int .i64 bd.h) 6 rfl
          have y7 := B10.cell (v := .bool bd.round) 7 rfl
          have y8 := B10.cell (v := .bool bd.fixed) 8 rfl
          obtain ⟨i0, hi0, hz0, hz1, hz2⟩ := info_parts infoB
          have HIi := Lib.hid hi0
          clear hi0
          go_wp2_with (at_builtin; refine wpL_name (fun V => Bk V V3.heap.size (bcs bd) 133 ∧ Below V3.heap.size V3 V) ⟨Bk.made _ _ _, (Below.refl _ _).alloc (Nat.le_refl _) _⟩ ?_)
          first | rintro V4 B11 hb4 | rintro V4 ⟨B11, hb4⟩
          have HRV := Lib.hid (HRO.out.below hb4)
          have HIV := Lib.hid (HI.out.below hb4)
          have HB7V := Lib.hid (HB7.out.below hb4)
          clear y0 y1 y2 y3 y4 y5 y6 y7 y8 s0 B10 hb4 HI HRO HB7
          have hc1 : ∀ (j : Nat) u, (bv bd)[j]? = some u → V4.cell? ((⟨V3.heap.size, 0, none⟩ : Addr).add j) = some u := by
            intro j u hj
            rw [Addr.add_lit, Nat.zero_add]
            match j, hj with
            | 0, hj => cases hj; exact B11.cell 0 rfl
            | 1, hj => cases hj; exact B11.cell 1 rfl
            | 2, hj => cases hj; exact B11.cell 2 rfl
            | 3, hj => cases hj; exact B11.cell 3 rfl
            | 4, hj => cases hj; exact B11.cell 4 rfl
            | 5, hj => cases hj; exact B11.cell 5 rfl
            | 6, hj => cases hj; exact B11.cell 6 rfl
            | 7, hj => cases hj; exact B11.cell 7 rfl
            | 8, hj => cases hj; exact B11.cell 8 rfl
            | j + 9, hj => exact absurd hj (by simp [bv])
          have HC1 := Lib.hid hc1
          clear hc1
          refine wpList_append_mine _ rfl _ _ 104 rfl w.heap.size 133 i0 _ 9 64 Tryz.underlying104 HIi.out hz0 hz1 hz2 rfl (by decide) _ _ _ rfl HRV.out.1 ⟨V3.heap.size, 0, none⟩ 1 1 (bv bd) rfl rfl HC1.out ?c2 (by decide) ?c4 ?c5 HIV.out.bel.size ?_
          case c2 => intro u hu; exact bvs_one [bd] u (by simpa [bvs] using hu)
          case c4 => unfold maxLen; omega
          case c5 => omega
          intro gS capS wS hownS hgS hlS
          change V4.grownBy wS (Value.slice sa L.length sc).ownBlock at hgS
          have hrow2 : RowB w.heap.size wS (.slice (some ⟨gS, 0, none⟩) (L ++ [bd]).length capS) (L ++ [bd]) := by
            refine ⟨?_, by rw [List.length_append]; have := HRV.out.2; simp; omega⟩
            have h1 : bvs (L ++ [bd]) = bvs L ++ bv bd := by unfold bvs; rw [List.flatMap_append]; simp
            rw [h1, List.length_append]
            exact hownS
          have D7 : Bk wS (w.heap.size + 1 + 1 + 1) #[.slice sa L.length sc, .slice none 0 0, .int .i64 gx, .int .i64 gy] 106 := (hgS.block _ HB7V.out.lt (bk_ne_row HB7V.out (by decide) HRV.out.1)).trans HB7V.out
          have D3 : Bk wS w.heap.size #[.int .i64 t, .slice (some ⟨b, off, none⟩) es.length ec] 26 := (hgS.block _ HIV.out.b3.lt (bk_ne_row HIV.out.b3 (by decide) HRV.out.1)).trans HIV.out.b3
          have D6 : Bk wS (w.heap.size + 1 + 1) #[.slice none 0 0, .slice none 0 0, .int .i64 0, .int .i64 0] 106 := (hgS.block _ HIV.out.b6.lt (bk_ne_row HIV.out.b6 (by decide) HRV.out.1)).trans HIV.out.b6
          have hbS : Below w.heap.size w wS := HIV.out.bel.grown hgS HIV.out.bel.size (fun k e => (HRV.out.1.lt k e).1)
          have hlen2 : (L ++ [bd]).length = L.length + 1 := by simp
          have hI2 : BodsInv w t (some ⟨b, off, none⟩) es.length ec gx gy (L ++ [bd]) (wS.setCell ⟨w.heap.size + 1 + 1 + 1, 0, none⟩ (.slice (some ⟨gS, 0, none⟩) (L.length + 1) capS)) := by
            refine ⟨D3.far (p := ⟨w.heap.size + 1 + 1 + 1, 0, none⟩) (by simp; omega) _, D6.far (p := ⟨w.heap.size + 1 + 1 + 1, 0, none⟩) (by simp) _, ⟨some ⟨gS, 0, none⟩, capS, ?_, hrow2.set' (p := ⟨w.heap.size + 1 + 1 + 1, 0, none⟩) D7 (by decide) _⟩, hbS.setCell (p := ⟨w.heap.size + 1 + 1 + 1, 0, none⟩) (by simp; omega) _⟩
            rw [hlen2]
            exact D7.put 0 _
          have HI2 := Lib.hid hI2
          have k0 := D7.cell (v := .slice sa L.length sc) 0 rfl
          have kf := D7.free 0
          have klt := D7.lt
          clear hI2 hrow2 D7 D3 D6 hbS hlen2 hgS hlS hownS HC1 HB7V HIV HRV B11 HIi hz0 hz1 hz2
          go_wp2
          go_roundw
          case rel => exact ⟨i + 1, ⟨by go_num, by omega⟩, by rw [HTK.out]; exact HI2.out⟩
          case measure => simp [intOf]; omega
    · obtain rfl : i = en := by omega
      have hfull : L = bodiesM es := by rw [← HL.out, HN.out, List.take_length]
      obtain ⟨sa, sc, hb7, hrow⟩ := HI.out.b7
      have s0 := hb7.cell (v := .slice sa L.length sc) 0 rfl
      have s1 := hb7.cell (v := .slice none 0 0) 1 rfl
      have s2 := hb7.cell (v := .int .i64 gx) 2 rfl
      have s3 := hb7.cell (v := .int .i64 gy) 3 rfl
      have B6 := HI.out.b6
      have hgg := HI.out.bel
      have HRO := Lib.hid hrow
      have HFU := Lib.hid hfull
      have HB7 := Lib.hid hb7
      clear hfull hb7 hrow HI hlt
      have r0 := B6.cell (v := .slice none 0 0) 0 rfl
      have r1 := B6.cell (v := .slice none 0 0) 1 rfl
      have r2 := B6.cell (v := .int .i64 0) 2 rfl
      have r3 := B6.cell (v := .int .i64 0) 3 rfl
      have f0 := B6.free 0
      have f1 := B6.free 1
      have f2 := B6.free 2
      have f3 := B6.free 3
      have lt := B6.lt
      have G4 := Bk.store4b (y0 := .slice sa L.length sc) (y1 := .slice none 0 0) (y2 := .int .i64 gx) (y3 := .int .i64 gy) B6 hgg (Nat.le_trans (Nat.le_succ _) (Nat.le_succ _))
      have hfar : ∀ V, V = ((((wr.setCell ⟨w.heap.size + 1 + 1, 0, none⟩ (.slice sa L.length sc)).setCell ⟨w.heap.size + 1 + 1, 1, none⟩ (.slice none 0 0)).setCell ⟨w.heap.size + 1 + 1, 2, none⟩ (.int .i64 gx)).setCell ⟨w.heap.size + 1 + 1, 3, none⟩ (.int .i64 gy)) → RowB w.heap.size V (.slice sa L.length sc) L := fun V hV => by
        subst hV
        have e1 := B6.put 0 (.slice sa L.length sc)
        have e2 := e1.put 1 (.slice none 0 0)
        have e3 := e2.put 2 (.int .i64 gx)
        exact (((HRO.out.set' (p := ⟨w.heap.size + 1 + 1, 0, none⟩) B6 (by decide) _).set' (p := ⟨w.heap.size + 1 + 1, 1, none⟩) e1 (by decide) _).set' (p := ⟨w.heap.size + 1 + 1, 2, none⟩) e2 (by decide) _).set' (p := ⟨w.heap.size + 1 + 1, 3, none⟩) e3 (by decide) _
      have HG4 := Lib.hid G4
      have HFR := Lib.hid hfar
      clear G4 hfar B6 hgg
      go_wp2
      refine wp_loop_rounds 1 ?_
      rw [rounds_succ]
      go_wp2
      refine post_name (fun V => (Bk V (w.heap.size + 1 + 1) #[.slice sa L.length sc, .slice none 0 0, .int .i64 gx, .int .i64 gy] 106 ∧ Below w.heap.size w V) ∧ RowB w.heap.size V (.slice sa L.length sc) L) ⟨HG4.out, HFR.out _ rfl⟩ ?_
      rintro V ⟨⟨BV, hbV⟩, hRV⟩
      clear s0 s1 s2 s3 r0 r1 r2 r3 f0 f1 f2 f3 lt
      have y0 := BV.cell (v := .slice sa L.length sc) 0 rfl
      have y1 := BV.cell (v := .slice none 0 0) 1 rfl
      have y2 := BV.cell (v := .int .i64 gx) 2 rfl
      have y3 := BV.cell (v := .int .i64 gy) 3 rfl
      exact bodyPost_ret (v := Sv sa L.length sc gx gy) (by simp [results, Tryz.results60, go_sem, y0, y1, y2, y3]; try rfl) rfl ⟨sa, L.length, sc, rfl, by rw [← HFU.out]; exact hRV, hbV⟩
end Go.Proofs.YtlcjkomfjgddeaaGreatDoor
namespace Go.Proofs.YtlcjkomfjgddeaaGreatDoor
open Go Go.RowKit Go.Sort
set_option maxRecDepth 100000
attribute [local go_sem] opLow opUpon opLow2 opUpon2

def idB (id : Int) (b : Bdy) : Bool := decide (b.id = id)
theorem back1_any (x : Bdy) (id : Int) (sa : Option Addr) (sn sc g : Nat) (w : World) (hg : Bk w g #[.int .i64 id, .slice sa sn sc] 43) :
    Calls Tryz.prog 93 #[Bv x, .pointer (some ⟨g, 0, none⟩)] w fun e w' => e = .returned (.bool (idB id x)) ∧ Below w.heap.size w w' := by
  have hp := hg.cell (v := .int .i64 id) 0 rfl
  have lt := hg.lt
  clear hg
  by_cases hk : x.id = id
  · have h1 : idB id x = true := by unfold idB; simp [hk]
    have h2 : ((x.id : Int) == id) = true := by simp [hk]
    rw [h1]
    clear h1 hk
    unfold Bv
    go_enter Tryz.func93, Tryz.ntmps93
    go_wp2
    go_returns
    exact ⟨rfl, by go_grown⟩
  · have h1 : idB id x = false := by unfold idB; simp [hk]
    have h2 : ((x.id : Int) == id) = false := by simp [hk]
    rw [h1]
    clear h1 hk
    unfold Bv
    go_enter Tryz.func93, Tryz.ntmps93
    go_wp2
    go_returns
    exact ⟨rfl, by go_grown⟩
set_option maxHeartbeats 4000000 in
theorem indexBody_any (l : List Bdy) (v : Value) (w : World) (h : BodiesAt w v l) (id : Int) (sa : Option Addr) (sn sc g : Nat) (hR : Bk w g #[.int .i64 id, .slice sa sn sc] 43) :
    Calls Tryz.prog 92 #[v, .func (.func 93) #[] #[.pointer (some ⟨g, 0, none⟩)]] w fun e w' => e = .returned (.int .i64 (firstOf (idB id) l)) ∧ Below w.heap.size w w' := by
  rcases h with ⟨⟨a0, rfl⟩, rfl⟩ | ⟨b, off, cap, rfl, hl, hc⟩
  · go_enter Tryz.func92, Tryz.ntmps92
    go_wp2
    refine wp_loop_rounds 1 ?_
    rw [rounds_succ]
    go_wp2
    go_returns
    exact ⟨rfl, by go_grown⟩
  · obtain ⟨n, hn⟩ : ∃ n, l.length = n := ⟨_, rfl⟩
    have HN := Lib.hid hn
    rw [hn] at hl ⊢
    clear hn
    go_enter Tryz.func92, Tryz.ntmps92
    go_wp2
    go_loopw [8] (fun v8 wr => ∃ j : Nat, j ≤ n ∧ v8 = .int .i64 j ∧ Hid (∀ i x, i < j → l[i]? = some x → (idB id) x = false) ∧ Below w.heap.size w wr) (fun v8 _ => n - (intOf v8).toNat)
    case atStart => exact ⟨0, by omega, rfl, Lib.hid (fun i x hi => absurd hi (by omega)), by go_grown⟩
    case round =>
      obtain ⟨j, hj, rfl, HJ, hb⟩ := hrel
      by_cases hlt : j < n
      · obtain ⟨x, hx⟩ := at_lt (l := l) (i := j) (by rw [HN.out]; omega)
        have hP := hc j x hx
        obtain ⟨x0, x1, x2, x3, x4, x5, x6, x7, x8⟩ := hP
        have HX := Lib.hid (And.intro hx (hc j x hx))
        clear hx
        replace x0 := cell_later hb x0
        replace x1 := cell_later hb x1
        replace x2 := cell_later hb x2
        replace x3 := cell_later hb x3
        replace x4 := cell_later hb x4
        replace x5 := cell_later hb x5
        replace x6 := cell_later hb x6
        replace x7 := cell_later hb x7
        replace x8 := cell_later hb x8
        go_wp2_with fail
        have BK := back1_any x id sa sn sc g _ (hR.below hb)
        unfold Bv at BK
        with_reducible refine BK.mono ?_
        clear BK
        rintro e W1 ⟨rfl, hb1⟩
        obtain ⟨hb', hs'⟩ := below_c (w := w) hb1 hb
        clear x0 x1 x2 x3 x4 x5 x6 x7 x8 hb1 hb
        by_cases hbad : (idB id) x = true
        · have HB := Lib.hid hbad
          try simp only at hbad
          go_wp2
          go_returns
          exact ⟨ret_i64 (firstOf_yes HX.out.1 HB.out HJ.out).symm, hb'⟩
        · have hbad : (idB id) x = false := by simpa using hbad
          have HB := Lib.hid hbad
          try simp only at hbad
          go_wp2
          go_roundw
          case rel => exact ⟨j + 1, by omega, by go_num, Lib.hid (fun i y hi hy => by
            rcases Nat.lt_succ_iff_lt_or_eq.1 hi with h | h
            · exact HJ.out i y h hy
            · subst h
              rw [HX.out.1] at hy
              cases hy
              exact HB.out), hb'⟩
          case measure => simp [intOf]; omega
      · go_wp2
        go_returns
        exact ⟨ret_i64 (firstOf_no (fun i x hx => HJ.out i x (by have := (List.getElem?_eq_some_iff.1 hx).1; have := HN.out; omega) hx)).symm, hb⟩
theorem FreshS.turn {base : Nat} {w w' : World} {v : Value} {es : List Ent} {ss : List Value} (h : FreshS base w v es ss) {i g n cap : Nat} {e e' : Ent} (he : es[i]? = some e) (hs : ss[i]? = some (.slice (some ⟨g, 0, none⟩) n cap)) (hg : w.grownBy w' (some g)) (hr : RowC base w' (.slice (some ⟨g, 0, none⟩) n cap) e'.cs) (hid : e'.id = e.id) :
    FreshS base w' v (es.set i e') ss := by
  obtain ⟨h0, h1, h2, h3, h4⟩ := h
  have hrow := h3 i _ e hs he
  have hi := (List.getElem?_eq_some_iff.1 he).1
  obtain ⟨cur, hcur⟩ : ∃ cur, Bk w g cur 48 := by
    rcases hrow.1.2 with ⟨h1, h2⟩ | ⟨g', cap', cur, hv, hg, hh, h3⟩
    · cases h1
    · cases hv; exact ⟨cur, hh⟩
  refine ⟨by simpa using h0, by simpa using h1, ?_, fun k s z hk hz => ?_, h4⟩
  · rw [List.length_set, List.map_set, hid, show (es.map Ent.id).set i e.id = es.map Ent.id by
      apply List.ext_getElem?
      intro k
      rw [List.getElem?_set]
      by_cases hk : i = k
      · subst hk; simp only [hi, if_true, List.length_map, List.getElem?_map, he, Option.map_some]
      · simp [hk]]
    exact h2.kept hg (.inr fun e => bk_ne_row hcur (by decide) h2 e.symm)
  · by_cases hki : i = k
    · subst hki
      rw [hs] at hk
      injection hk with hk
      subst hk
      rw [List.getElem?_set_self hi] at hz
      injection hz with hz
      subst hz
      exact hr
    · rw [List.getElem?_set_ne hki] at hz
      have hc := h3 k s z hk hz
      refine ⟨hc.1.kept hg (.inr ?_), hc.2⟩
      rcases Nat.lt_or_gt_of_ne hki with hlt | hlt
      · exact fun e => h4 i k _ _ _ hlt hs hk rfl e
      · exact fun e => h4 k i _ _ _ hlt hk hs e rfl
/-- the first component of a kind, changed -/
def setK (k : Int) (f : Cmp → Cmp) (cs : List Cmp) : List Cmp := match cs[cs.findIdx (keyC k)]? with
  | some x => cs.set (cs.findIdx (keyC k)) (f x)
  | none => cs
def putXY (x y : Int) (c : Cmp) : Cmp := ⟨c.k, x, y, c.c, c.d⟩
/-- step.Back of an entity -/
def backE (L : List Bdy) (e : Ent) : Ent := match bodyM e with
  | none => match e.cs.find? (keyC 1), e.cs.find? (keyC 2), e.cs.find? (keyC 3) with
    | some p, some v, none => ⟨e.id, setK 2 (putXY (flyV p.a v.a) (flyV p.b v.b)) (setK 1 (putXY (flyP p.a v.a) (flyP p.b v.b)) e.cs)⟩
    | _, _, _ => e
  | some o => match L.find? (idB e.id) with
    | none => e
    | some b => if o.fixed = true then ⟨e.id, setK 1 (putXY b.x b.y) e.cs⟩ else ⟨e.id, setK 2 (putXY b.vx b.vy) (setK 1 (putXY b.x b.y) e.cs)⟩
end Go.Proofs.YtlcjkomfjgddeaaGreatDoor
namespace Go.Proofs.YtlcjkomfjgddeaaGreatDoor
open Go Go.RowKit Go.Sort

theorem findIdx_set {α : Type} (p : α → Bool) : ∀ (l : List α) (i : Nat) (x X : α), l[i]? = some x → p X = p x → (l.set i X).findIdx p = l.findIdx p
  | [], i, x, X, hx, hp => by simp at hx
  | a :: l, 0, x, X, hx, hp => by
    simp only [List.getElem?_cons_zero, Option.some.injEq] at hx
    subst hx
    simp [List.findIdx_cons, hp]
  | a :: l, i + 1, x, X, hx, hp => by
    simp only [List.getElem?_cons_succ] at hx
    simp [List.findIdx_cons, findIdx_set p l i x X hx hp]
theorem firstOf_idx {α : Type} {p : α → Bool} {l : List α} {i : Nat} (h : firstOf p l = (i : Int)) : l.findIdx p = i := by
  unfold firstOf at h
  split at h <;> omega
theorem setK_of {k : Int} {f : Cmp → Cmp} {cs : List Cmp} {i : Nat} {x : Cmp} (h : firstOf (keyC k) cs = (i : Int)) (hx : cs[i]? = some x) : setK k f cs = cs.set i (f x) := by
  unfold setK
  rw [firstOf_idx h, hx]
theorem setK_of2 {k : Int} {f : Cmp → Cmp} {cs : List Cmp} {i j : Nat} {x X y : Cmp} (h : firstOf (keyC k) cs = (j : Int)) (hx : cs[i]? = some x) (hX : X.k = x.k) (hy : cs[j]? = some y) (hij : i ≠ j) : setK k f (cs.set i X) = (cs.set i X).set j (f y) := by
  unfold setK
  have h1 : (cs.set i X).findIdx (keyC k) = j := by
    rw [findIdx_set (keyC k) cs i x X hx (by unfold keyC; rw [hX])]
    exact firstOf_idx h
  rw [h1, List.getElem?_set_ne hij, hy]
theorem fits_vel {x : Cmp} (h : fits x = true) (hk : x.k = 2) : (-4096 ≤ x.a ∧ x.a ≤ 4096) ∧ (-4096 ≤ x.b ∧ x.b ≤ 4096) := by
  obtain ⟨k, a, b, c, d⟩ := x
  simp only at hk
  subst hk
  simp only [fits, inLim, Cmp.v, Bool.and_eq_true, decide_eq_true_eq] at h
  obtain ⟨⟨⟨h1, h2⟩, ⟨⟨⟨h3, h4⟩, h5⟩, h6⟩⟩, h7⟩ := h
  have e1 : lim 2 0 = (-4096, 4096) := by decide
  have e2 : lim 2 1 = (-4096, 4096) := by decide
  rw [e1] at h3; rw [e2] at h4
  exact ⟨h3, h4⟩
theorem fits_pos' {x : Cmp} (h : fits x = true) (hk : x.k = 1) : (-1048576 ≤ x.a ∧ x.a ≤ 1048576) ∧ (-1048576 ≤ x.b ∧ x.b ≤ 1048576) := by
  obtain ⟨k, a, b, c, d⟩ := x
  simp only at hk
  subst hk
  simp only [fits, inLim, Cmp.v, Bool.and_eq_true, decide_eq_true_eq] at h
  obtain ⟨⟨⟨h1, h2⟩, ⟨⟨⟨h3, h4⟩, h5⟩, h6⟩⟩, h7⟩ := h
  have e1 : lim 1 0 = (-1048576, 1048576) := by decide
  have e2 : lim 1 1 = (-1048576, 1048576) := by decide
  rw [e1] at h3; rw [e2] at h4
  exact ⟨h3, h4⟩
end Go.Proofs.YtlcjkomfjgddeaaGreatDoor
