/- client.over and client.View. -/
import Derived.Test.YtlcjkomfjgddeaaGreatDoorM33
set_option linter.unusedVariables false
set_option linter.unusedSimpArgs false
namespace Go.Proofs.YtlcjkomfjgddeaaGreatDoor
open Go Go.RowKit Go.Sort
set_option maxRecDepth 100000
attribute [local go_sem] opLow opUpon opLow2 opUpon2

/-- the world behind predicted ticks, and the error -/
def viewM (id gx gy : Int) : List Inp → Wld → Wld × Int
  | [], W => (W, 0)
  | x :: l, W => if (predR W id gx gy x).2 = 0 then viewM id gx gy l (predR W id gx gy x).1 else (⟨0, []⟩, (predR W id gx gy x).2)
def I64s (l : List Inp) : Prop := ∀ x ∈ l, I64 x.mx ∧ I64 x.my
set_option maxHeartbeats 4000000 in
theorem view1_any (W : Wld) (a : Option Addr) (n c : Nat) (id gx gy bt ack : Int) (ba : Option Addr) (bn bc : Nat) (pa : Option Addr) (pn pc : Nat) (x : Inp) (gC : Nat) (w : World) (hR : RG w) (hM : RM w) (hw : 2 ≤ w.heap.size) (h : Fresh 0 w (.slice a n c) W.es) (hx : I64 x.mx ∧ I64 x.my) (hg : Bk w gC #[.int .i64 id, .int .i64 gx, .int .i64 gy, .int .i64 bt, .slice ba bn bc, .int .i64 ack, .slice pa pn pc] 29) :
    Calls Tryz.prog 34 #[Wv W.t a n c, Iv x, .pointer (some ⟨gC, 0, none⟩)] w (WEPost w (predR W id gx gy x)) := by
  have PR := Lib.hid (fun V (hV : Below w.heap.size w V) => predict_any W a n c id gx gy x V (hR.below hV) (hM.low hV hw) (Nat.le_trans hw hV.size) (h.ents.below hV) hx)
  obtain ⟨r, hr⟩ : ∃ r, predR W id gx gy x = r := ⟨_, rfl⟩
  rw [hr] at PR ⊢
  obtain ⟨t, es⟩ := W
  obtain ⟨xc, xs, xt, xmx, xmy, xfire, xax, xay, xseen, xpart⟩ := x
  obtain ⟨⟨rt, res⟩, re⟩ := r
  simp only at PR
  have g0 := hg.cell (v := .int .i64 id) 0 rfl
  have g1 := hg.cell (v := .int .i64 gx) 1 rfl
  have g2 := hg.cell (v := .int .i64 gy) 2 rfl
  have glt := hg.lt
  have glt1 : gC < w.heap.size + 1 := by omega
  have glt2 : gC < w.heap.size + 1 + 1 := by omega
  clear hR hM hw h hx hg hr
  unfold Wv Iv
  unfold Wv V2 Iv at PR
  simp only at PR ⊢
  go_enter Tryz.func34, Tryz.ntmps34
  go_wp2_with fail
  refine (PR.out _ (by go_grown)).mono ?_
  rintro e V1 ⟨a', n', c', rfl, hF, hb1⟩
  have B5 : Bk V1 (w.heap.size + 1 + 1) #[.int .i64 0, .slice none 0 0] 26 := Bk.below (Bk.at_ (by simp)) hb1
  obtain ⟨hb, -⟩ := below_cc (w := w) hb1 (by go_grown)
  have q0 := B5.cell (v := .int .i64 0) 0 rfl
  have q1 := B5.cell (v := .slice none 0 0) 1 rfl
  have f0 := B5.free 0
  have f1 := B5.free 1
  have lt := B5.lt
  have HX := Lib.hid (And.intro ((B5.put 0 (.int .i64 rt)).put 1 (.slice a' n' c')) (And.intro ((hF.set (p := ⟨w.heap.size + 1 + 1, 0, none⟩) B5 (by decide) (by decide) (.int .i64 rt)).set (p := ⟨w.heap.size + 1 + 1, 1, none⟩) (B5.put 0 (.int .i64 rt)) (by decide) (by decide) (.slice a' n' c')) ((hb.setCell (p := ⟨w.heap.size + 1 + 1, 0, none⟩) (Nat.le_trans (Nat.le_succ _) (Nat.le_succ _)) (.int .i64 rt)).setCell (p := ⟨w.heap.size + 1 + 1, 1, none⟩) (Nat.le_trans (Nat.le_succ _) (Nat.le_succ _)) (.slice a' n' c'))))
  clear hF hb1 hb B5 PR g0 g1 g2 glt glt1 glt2
  unfold Wv
  simp only
  go_wp2
  refine post_name (fun V => Bk V (w.heap.size + 1 + 1) #[.int .i64 rt, .slice a' n' c'] 26 ∧ Fresh 0 V (.slice a' n' c') res ∧ Below w.heap.size w V) HX.out ?_
  clear HX q0 q1 f0 f1 lt
  rintro V2' ⟨BV, hFR, hbV⟩
  have y0 := BV.cell (v := .int .i64 rt) 0 rfl
  have y1 := BV.cell (v := .slice a' n' c') 1 rfl
  exact bodyPost_ret (v := .tuple #[Wv rt a' n' c', .int .i64 re]) (by simp [results, Tryz.results34, go_sem, y0, y1]; try rfl) rfl ⟨a', n', c', rfl, hFR, hbV⟩
set_option maxHeartbeats 8000000 in
theorem cover_any (W : Wld) (a : Option Addr) (n c : Nat) (id gx gy bt ack : Int) (ba : Option Addr) (bn bc : Nat) (pa : Option Addr) (pn pc : Nat) (l : List Inp) (la : Option Addr) (ln lc : Nat) (gC : Nat) (w : World) (hR : RG w) (hM : RM w) (hw : 2 ≤ w.heap.size) (h : Fresh 0 w (.slice a n c) W.es) (hl : InpsAt w (.slice la ln lc) l) (hl64 : l.length ≤ 64) (hx : I64s l) (hg : Bk w gC #[.int .i64 id, .int .i64 gx, .int .i64 gy, .int .i64 bt, .slice ba bn bc, .int .i64 ack, .slice pa pn pc] 29) :
    Calls Tryz.prog 32 #[.slice la ln lc, Wv W.t a n c, .func (.func 34) #[] #[.pointer (some ⟨gC, 0, none⟩)]] w (WEPost w (viewM id gx gy l W)) := by
  have hln : ln = l.length := ListAt.len hl
  have hln64 : ln ≤ 64 := by omega
  have HLN := Lib.hid hln
  obtain ⟨R, hRR⟩ : ∃ R, viewM id gx gy l W = R := ⟨_, rfl⟩
  rw [hRR]
  have HRR := Lib.hid hRR
  have HH := Lib.hid (And.intro hR (And.intro hM (And.intro hw (And.intro hl (And.intro hx hg)))))
  obtain ⟨t, es⟩ := W
  obtain ⟨⟨rt, res⟩, re⟩ := R
  simp only at h
  have hF0 : Fresh 0 ((w.alloc (.cells #[.int .i64 t, .slice a n c] 26)).alloc (.cells #[.int .i64 0, .slice none 0 0] 26)) (.slice a n c) es := h.below (((Below.refl _ _).alloc (Nat.le_refl _) _).alloc (by simp) _)
  have HF0 := Lib.hid hF0
  clear hln hRR hR hM hw h hl hl64 hx hg hF0
  unfold Wv
  simp only
  go_enter Tryz.func32, Tryz.ntmps32
  go_wp2
  go_loopw [15] (fun v15 wr => ∃ (k : Nat) (kt : Int) (kes : List Ent) (a' : Option Addr) (n' c' : Nat), (k ≤ ln ∧ v15 = .int .i64 k) ∧ Hid (viewM id gx gy (l.drop k) ⟨kt, kes⟩ = (⟨rt, res⟩, re)) ∧ Bk wr w.heap.size #[.int .i64 kt, .slice a' n' c'] 26 ∧ Bk wr (w.heap.size + 1) #[.int .i64 0, .slice none 0 0] 26 ∧ Fresh 0 wr (.slice a' n' c') kes ∧ Below w.heap.size w wr) (fun v15 _ => ln - (intOf v15).toNat)
  case atStart => exact ⟨0, t, es, a, n, c, ⟨by omega, rfl⟩, HRR, (Bk.made _ _ _).alloc _, Bk.at_ (by simp), HF0.out, by go_grown⟩
  case round =>
    obtain ⟨k, kt, kes, a', n', c', ⟨hk, rfl⟩, HK, B4, B6, hF, hb⟩ := hrel
    by_cases hlt : k < ln
    · obtain ⟨x, hx⟩ := at_lt (l := l) (i := k) (by rw [← HLN.out]; exact hlt)
      rcases HH.out.2.2.2.1 with ⟨h1, h2⟩ | ⟨b, off, cap, h1, hll, hc⟩
      · rw [h2] at hx; cases hx
      · injection h1 with w1 w2 w3
        subst w1 w3
        clear w2
        have hIx := HH.out.2.2.2.2.1 x (List.mem_iff_getElem?.2 ⟨k, hx⟩)
        have hdr := drop_at hx
        have hat := hc k x hx
        have hs := hb.size
        have R1 := Lib.hid (fun V (hV : Below wr.heap.size wr V) => view1_any ⟨kt, kes⟩ a' n' c' id gx gy bt ack ba bn bc pa pn pc x gC V (HH.out.1.below (below_cc hV hb).1) (HH.out.2.1.low (below_cc hV hb).1 HH.out.2.2.1) (Nat.le_trans HH.out.2.2.1 (below_cc hV hb).2) (hF.below hV) hIx (HH.out.2.2.2.2.2.below (below_cc hV hb).1))
        have hvw : viewM id gx gy (x :: l.drop (k + 1)) ⟨kt, kes⟩ = (⟨rt, res⟩, re) := by rw [← hdr]; exact HK.out
        rw [viewM] at hvw
        obtain ⟨r, hr⟩ : ∃ r, predR ⟨kt, kes⟩ id gx gy x = r := ⟨_, rfl⟩
        rw [hr] at hvw R1
        obtain ⟨⟨pt, pes⟩, pe⟩ := r
        simp only at hvw
        have HVW := Lib.hid hvw
        obtain ⟨x0, x1, x2, x3, x4, x5, x6, x7, x8, x9⟩ := hat
        replace x0 := cell_later hb x0
        replace x1 := cell_later hb x1
        replace x2 := cell_later hb x2
        replace x3 := cell_later hb x3
        replace x4 := cell_later hb x4
        replace x5 := cell_later hb x5
        replace x6 := cell_later hb x6
        replace x7 := cell_later hb x7
        replace x8 := cell_later hb x8
        replace x9 := cell_later hb x9
        have p0 := B4.cell (v := .int .i64 kt) 0 rfl
        have p1 := B4.cell (v := .slice a' n' c') 1 rfl
        have ltp := B4.lt
        have HF := Lib.hid (And.intro hF hb)
        obtain ⟨xc, xs, xt, xmx, xmy, xfire, xax, xay, xseen, xpart⟩ := x
        simp only at x0 x1 x2 x3 x4 x5 x6 x7 x8 x9
        unfold Wv Iv at R1
        simp only at R1
        clear hx hIx hdr hll hc hvw hr hF hb HK
        go_wp2_with fail
        refine (R1.out _ ((Below.refl _ _).alloc (Nat.le_refl _) _)).mono ?_
        rintro e V1 ⟨a2, n2, c2, rfl, hF2, hb2⟩
        have hb3 : Below wr.heap.size wr V1 := ((Below.refl wr.heap.size wr).alloc (Nat.le_refl _) _).trans (hb2.mono (by simp))
        replace B4 := B4.below hb3
        replace B6 := B6.below hb3
        obtain ⟨hb, hs⟩ := below_cc hb3 HF.out.2
        clear hb2 hb3 HF x0 x1 x2 x3 x4 x5 x6 x7 x8 x9 p0 p1 ltp R1
        unfold Wv
        simp only
        have HF := Lib.hid (And.intro hF2 hb)
        have h4lt := B4.lt
        have h6lt := B6.lt
        clear hF2 hb
        go_upto_region 5 with fail
        refine wp_name (fun V => Bk V V1.heap.size #[.int .i64 pt, .slice a2 n2 c2] 26 ∧ Bk V w.heap.size #[.int .i64 kt, .slice a' n' c'] 26 ∧ Bk V (w.heap.size + 1) #[.int .i64 0, .slice none 0 0] 26 ∧ Fresh 0 V (.slice a2 n2 c2) pes ∧ Below w.heap.size w V) ⟨Bk.made _ _ _, B4.alloc _, B6.alloc _, HF.out.1.below ((Below.refl _ _).alloc (Nat.le_refl _) _), HF.out.2.alloc hs _⟩ ?_
        obtain ⟨g10, hg10⟩ : ∃ g, V1.heap.size = g := ⟨_, rfl⟩
        rw [hg10]
        have n4 : w.heap.size ≠ g10 := by omega
        have n6 : w.heap.size + 1 ≠ g10 := by omega
        clear hg10 HF B4 B6 h4lt h6lt hs
        rintro V3 ⟨B10, B4, B6, hF, hb⟩
        by_cases hpe : pe = 0
        · subst hpe
          have hnext : viewM id gx gy (l.drop (k + 1)) ⟨pt, pes⟩ = (⟨rt, res⟩, re) := by have := HVW.out; rw [if_pos rfl] at this; exact this
          have HNX := Lib.hid hnext
          have q0 := B10.cell (v := .int .i64 pt) 0 rfl
          have q1 := B10.cell (v := .slice a2 n2 c2) 1 rfl
          have p0 := B4.cell (v := .int .i64 kt) 0 rfl
          have p1 := B4.cell (v := .slice a' n' c') 1 rfl
          have f0 := B4.free 0
          have f1 := B4.free 1
          have lt4 := B4.lt
          have lt10 := B10.lt
          have HP := Lib.hid (And.intro ((B4.put 0 (.int .i64 pt)).put 1 (.slice a2 n2 c2)) (And.intro ((B6.far (p := ⟨w.heap.size, 0, none⟩) (by simp) (.int .i64 pt)).far (p := ⟨w.heap.size, 1, none⟩) (by simp) (.slice a2 n2 c2)) (And.intro ((hF.set (p := ⟨w.heap.size, 0, none⟩) B4 (by decide) (by decide) (.int .i64 pt)).set (p := ⟨w.heap.size, 1, none⟩) (B4.put 0 (.int .i64 pt)) (by decide) (by decide) (.slice a2 n2 c2)) ((hb.setCell (p := ⟨w.heap.size, 0, none⟩) (Nat.le_refl _) (.int .i64 pt)).setCell (p := ⟨w.heap.size, 1, none⟩) (Nat.le_refl _) (.slice a2 n2 c2)))))
          clear hnext HVW B10 B4 B6 hF hb n4 n6
          go_wp2
          go_roundw
          case rel => exact ⟨k + 1, pt, pes, a2, n2, c2, ⟨by omega, by go_num⟩, HNX, HP.out.1, HP.out.2.1, HP.out.2.2.1, HP.out.2.2.2⟩
          case measure => simp [intOf]; omega
        · have hnext : rt = 0 ∧ res = [] ∧ re = pe := by
            have := HVW.out
            rw [if_neg hpe] at this
            injection this with e1 e2
            injection e1 with e3 e4
            exact ⟨e3.symm, e4.symm, e2.symm⟩
          obtain ⟨rfl, rfl, rfl⟩ := hnext
          have ne1 : ((re : Int) == 0) = false := by simpa using hpe
          have ne2 : ((re : Int) != 0) = true := by simpa using hpe
          have p0 := B6.cell (v := .int .i64 0) 0 rfl
          have p1 := B6.cell (v := .slice none 0 0) 1 rfl
          have f0 := B6.free 0
          have f1 := B6.free 1
          have lt6 := B6.lt
          have hbs := (hb.setCell (p := ⟨w.heap.size + 1, 0, none⟩) (Nat.le_succ _) (.int .i64 0)).setCell (p := ⟨w.heap.size + 1, 1, none⟩) (Nat.le_succ _) (.slice none 0 0)
          have HP := Lib.hid (And.intro (((B6.put 0 (.int .i64 0)).put 1 (.slice none 0 0)).alloc (.cells #[.int .i64 0, .slice none 0 0] 26)) (hbs.alloc hbs.size (.cells #[.int .i64 0, .slice none 0 0] 26)))
          clear hpe HVW B10 B4 B6 hF hb n4 n6 hbs
          go_wp2
          refine post_name (fun V => Bk V (w.heap.size + 1) #[.int .i64 0, .slice none 0 0] 26 ∧ Below w.heap.size w V) HP.out ?_
          clear HP p0 p1 f0 f1 lt6
          rintro V4 ⟨BV, hbV⟩
          have y0 := BV.cell (v := .int .i64 0) 0 rfl
          have y1 := BV.cell (v := .slice none 0 0) 1 rfl
          exact bodyPost_ret (v := .tuple #[Wv 0 none 0 0, .int .i64 re]) (by simp [results, Tryz.results32, go_sem, y0, y1]; try rfl) rfl ⟨none, 0, 0, rfl, Fresh.nil 0 _, hbV⟩
    · obtain rfl : k = ln := by omega
      have hend : kt = rt ∧ kes = res ∧ re = 0 := by
        have := HK.out
        rw [List.drop_of_length_le (by rw [HLN.out]; exact Nat.le_refl _), viewM] at this
        injection this with e1 e2
        injection e1 with e3 e4
        exact ⟨e3, e4, e2.symm⟩
      obtain ⟨rfl, rfl, rfl⟩ := hend
      have p0 := B4.cell (v := .int .i64 kt) 0 rfl
      have p1 := B4.cell (v := .slice a' n' c') 1 rfl
      have lt4 := B4.lt
      have q0 := B6.cell (v := .int .i64 0) 0 rfl
      have q1 := B6.cell (v := .slice none 0 0) 1 rfl
      have f0 := B6.free 0
      have f1 := B6.free 1
      have lt6 := B6.lt
      have HP := Lib.hid (And.intro ((B6.put 0 (.int .i64 kt)).put 1 (.slice a' n' c')) (And.intro ((hF.set (p := ⟨w.heap.size + 1, 0, none⟩) B6 (by decide) (by decide) (.int .i64 kt)).set (p := ⟨w.heap.size + 1, 1, none⟩) (B6.put 0 (.int .i64 kt)) (by decide) (by decide) (.slice a' n' c')) ((hb.setCell (p := ⟨w.heap.size + 1, 0, none⟩) (Nat.le_succ _) (.int .i64 kt)).setCell (p := ⟨w.heap.size + 1, 1, none⟩) (Nat.le_succ _) (.slice a' n' c'))))
      clear HK B4 B6 hF hb hlt
      go_wp2
      refine post_name (fun V => Bk V (w.heap.size + 1) #[.int .i64 kt, .slice a' n' c'] 26 ∧ Fresh 0 V (.slice a' n' c') kes ∧ Below w.heap.size w V) HP.out ?_
      clear HP p0 p1 lt4 q0 q1 f0 f1 lt6
      rintro V4 ⟨BV, hFR, hbV⟩
      have y0 := BV.cell (v := .int .i64 kt) 0 rfl
      have y1 := BV.cell (v := .slice a' n' c') 1 rfl
      exact bodyPost_ret (v := .tuple #[Wv kt a' n' c', .int .i64 0]) (by simp [results, Tryz.results32, go_sem, y0, y1]; try rfl) rfl ⟨a', n', c', rfl, hFR, hbV⟩
/-- client.View as plain data -/
def viewR (c : Cli) : Wld × Int := if validC c = true then viewM c.id c.gx c.gy c.p c.b else (⟨0, []⟩, 2)
def aOver (w0 : World) (r : Wld × Int) : Array Value → Value → World → World → Prop := fun _ v w1 w2 => w0.heap.size ≤ w1.heap.size ∧ ∃ a n c, v = .tuple #[Wv r.1.t a n c, .int .i64 r.2] ∧ Fresh 0 w2 (.slice a n c) r.1.es
set_option maxHeartbeats 4000000 in
theorem view_bad (c : Cli) (a : Option Addr) (n cap : Nat) (pa : Option Addr) (pn pc : Nat) (w : World) (hR : RG w) (h : EntsAt w (.slice a n cap) c.b.es) (hp : InpsAt w (.slice pa pn pc) c.p) (hv : validC c = false) :
    Calls Tryz.prog 11 #[Cv c a n cap pa pn pc] w fun e w' => e = .returned (.tuple #[Wv 0 none 0 0, .int .i64 2]) ∧ Below w.heap.size w w' := by
  have VC := Lib.hid (fun V (hV : Below w.heap.size w V) => by have := cvalid_any c a n cap pa pn pc V (hR.below hV) (EntsAt.below h hV) (InpsAt.below hp hV); rw [hv] at this; exact this)
  obtain ⟨id, gx, gy, ⟨t, es⟩, ack, p⟩ := c
  unfold Cv ccs at VC
  simp only at VC
  clear hR h hp hv
  unfold Cv ccs
  simp only
  go_enter Tryz.func11, Tryz.ntmps11
  go_wp2_with fail
  refine (VC.out _ (by go_grown)).mono ?_
  rintro e V1 ⟨rfl, hb1⟩
  have B5 : Bk V1 (w.heap.size + 1) #[.int .i64 0, .slice none 0 0] 26 := Bk.below (Bk.at_ (by simp)) hb1
  obtain ⟨hb, -⟩ := below_cc (w := w) hb1 (by go_grown)
  have q0 := B5.cell (v := .int .i64 0) 0 rfl
  have q1 := B5.cell (v := .slice none 0 0) 1 rfl
  have f0 := B5.free 0
  have f1 := B5.free 1
  have lt := B5.lt
  have HX := Lib.hid (And.intro ((B5.put 0 (.int .i64 0)).put 1 (.slice none 0 0)) ((hb.setCell (p := ⟨w.heap.size + 1, 0, none⟩) (Nat.le_succ _) (.int .i64 0)).setCell (p := ⟨w.heap.size + 1, 1, none⟩) (Nat.le_succ _) (.slice none 0 0)))
  clear hb1 hb B5 VC
  go_wp2
  refine post_name (fun V => Bk V (w.heap.size + 1) #[.int .i64 0, .slice none 0 0] 26 ∧ Below w.heap.size w V) HX.out ?_
  clear HX q0 q1 f0 f1 lt
  rintro V2' ⟨BV, hbV⟩
  have y0 := BV.cell (v := .int .i64 0) 0 rfl
  have y1 := BV.cell (v := .slice none 0 0) 1 rfl
  exact bodyPost_ret (v := .tuple #[Wv 0 none 0 0, .int .i64 2]) (by simp [results, Tryz.results11, go_sem, y0, y1]; try rfl) rfl ⟨rfl, hbV⟩
set_option maxHeartbeats 4000000 in
theorem view_ok (c : Cli) (a : Option Addr) (n cap : Nat) (pa : Option Addr) (pn pc : Nat) (w : World) (hR : RG w) (hM : RM w) (hw : 2 ≤ w.heap.size) (h : EntsAt w (.slice a n cap) c.b.es) (hp : InpsAt w (.slice pa pn pc) c.p) (hx : I64s c.p) (hv : validC c = true) :
    Calls Tryz.prog 11 #[Cv c a n cap pa pn pc] w (WEPost w (viewM c.id c.gx c.gy c.p c.b)) := by
  have VC := Lib.hid (fun V (hV : Below w.heap.size w V) => by have := cvalid_any c a n cap pa pn pc V (hR.below hV) (EntsAt.below h hV) (InpsAt.below hp hV); rw [hv] at this; exact this)
  have h64 : c.p.length ≤ 64 := by
    unfold validC at hv
    simp only [Bool.and_eq_true, decide_eq_true_eq] at hv
    exact hv.2.2.2.2.1
  have CP := Lib.hid (fun V (hV : Below w.heap.size w V) => ccopied_any c.b a n cap V (EntsAt.below h hV))
  have HH := Lib.hid (And.intro hR (And.intro hM (And.intro hw (And.intro hp (And.intro hx h64)))))
  obtain ⟨R, hRR⟩ : ∃ R, viewM c.id c.gx c.gy c.p c.b = R := ⟨_, rfl⟩
  rw [hRR]
  have HRR := Lib.hid hRR
  obtain ⟨id, gx, gy, ⟨t, es⟩, ack, p⟩ := c
  obtain ⟨⟨rt, res⟩, re⟩ := R
  unfold Cv ccs at VC
  unfold Wv at CP
  simp only at VC CP HH HRR
  clear hR hM hw h hp hx hv h64 hRR
  unfold Cv ccs
  simp only
  go_enter Tryz.func11, Tryz.ntmps11
  go_wp2_with fail
  refine (VC.out _ (by go_grown)).mono ?_
  rintro e V1 ⟨rfl, hb1⟩
  have B1 : Bk V1 w.heap.size #[.int .i64 id, .int .i64 gx, .int .i64 gy, .int .i64 t, .slice a n cap, .int .i64 ack, .slice pa pn pc] 29 := ((Bk.made _ _ _).alloc _).below hb1
  have B2 : Bk V1 (w.heap.size + 1) #[.int .i64 0, .slice none 0 0] 26 := Bk.below (Bk.at_ (by simp)) hb1
  obtain ⟨hb, hs⟩ := below_cc (w := w) hb1 (by go_grown)
  clear hb1 VC
  go_upto_region 3 with fail
  have HB := Lib.hid (And.intro B1 (And.intro B2 hb))
  have k3 := cell_regrown (B1.cell (v := .int .i64 t) 3 rfl)
  have k4 := cell_regrown (B1.cell (v := .slice a n cap) 4 rfl)
  have k6 := cell_regrown (B1.cell (v := .slice pa pn pc) 6 rfl)
  clear B1 B2 hb
  refine wp_region_low2 (post2 33 (aCopied V1 ⟨t, es⟩) 32 (aOver V1 (⟨rt, res⟩, re))) 9 (by kernel_rfl) (by kernel_rfl) ?_
  simp only [List.take, List.drop]
  iterate 4 (refine low2_step (fun K hK => ?_); go_simp; first | (refine hK _ ?_; clear hK K) | (apply Exists.intro; refine ⟨fun p => ?_, hK _ ?_⟩; clear hK K))
  refine low2_call 33 #[.agg #[.int .i64 t, .slice a n cap]] (aCopied V1 ⟨t, es⟩) (by rfl) (fun w => by go_simp) (by simp [post2]) (fun V hV hG => by
    have hw1 : Below w.heap.size w V := (below_cc hV HB.out.2.2).1
    exact (CP.out V hw1).mono fun e w' ⟨a', n', c', he, hF, hbb⟩ => ⟨_, he, ⟨hV.size, a', n', c', rfl, hF⟩, hbb⟩) ?_
  rintro v4 ⟨_, _, -, a', n', c', rfl, -⟩
  iterate 1 (refine low2_step (fun K hK => ?_); go_simp; first | (refine hK _ ?_; clear hK K) | (apply Exists.intro; refine ⟨fun p => ?_, hK _ ?_⟩; clear hK K))
  refine low2_call 32 #[.slice pa pn pc, Wv t a' n' c', .func (.func 34) #[] #[.pointer (some ⟨w.heap.size, 0, none⟩)]] (aOver V1 (⟨rt, res⟩, re)) (by rfl) (fun w => by go_simp) (by simp [post2]) (fun V hV hG => by
    obtain ⟨u1, u2, hA, hu1, hu2⟩ := hG 4 _ (by first | exact ⟨⟨4, .data⟩, by simp, rfl, rfl⟩ | trace_state) rfl
    obtain ⟨-, a2, n2, c2, hvv, hF⟩ := hA
    injection hvv with hvv
    injection hvv with hvv
    simp only [List.cons.injEq, Value.slice.injEq, and_true, true_and] at hvv
    obtain ⟨rfl, rfl, rfl⟩ := hvv
    have hw1 : Below w.heap.size w V := (below_cc hV HB.out.2.2).1
    have hFV : Fresh 0 V (.slice a' n' c') es := (hF.below hu2).mono (Nat.zero_le _)
    have := cover_any ⟨t, es⟩ a' n' c' id gx gy t ack a n cap pa pn pc p pa pn pc w.heap.size V (HH.out.1.below hw1) (HH.out.2.1.low hw1 HH.out.2.2.1) (Nat.le_trans HH.out.2.2.1 hw1.size) hFV (HH.out.2.2.2.1.below hw1) HH.out.2.2.2.2.2 HH.out.2.2.2.2.1 (HB.out.1.below hV)
    rw [HRR.out] at this
    exact this.mono fun e w' ⟨a3, n3, c3, he, hF3, hb3⟩ => ⟨_, he, ⟨hV.size, a3, n3, c3, rfl, hF3⟩, hb3⟩) ?_
  rintro v6 ⟨_, _, -, a3, n3, c3, rfl, -⟩
  iterate 2 (refine low2_step (fun K hK => ?_); go_simp; first | (refine hK _ ?_; clear hK K) | (apply Exists.intro; refine ⟨fun p => ?_, hK _ ?_⟩; clear hK K))
  refine low2_nil ?_
  intro V2' hC
  obtain ⟨u1, u2, hA, hu1, hu2⟩ := hC.made 6 _ rfl
  obtain ⟨-, a4, n4, c4, hvv, hF⟩ := hA
  injection hvv with hvv
  injection hvv with hvv
  simp only [List.cons.injEq, Wv, Value.agg.injEq, Array.mk.injEq, Value.slice.injEq, and_true, true_and] at hvv
  obtain ⟨rfl, rfl, rfl⟩ := hvv
  have hF2 : Fresh 0 V2' (.slice a3 n3 c3) res := hF.below hu2
  have B2 := HB.out.2.1.below hC.1
  obtain ⟨hb, hs⟩ := below_cc hC.1 HB.out.2.2
  have q0 := B2.cell (v := .int .i64 0) 0 rfl
  have q1 := B2.cell (v := .slice none 0 0) 1 rfl
  have f0 := B2.free 0
  have f1 := B2.free 1
  have lt := B2.lt
  have HX := Lib.hid (And.intro ((B2.put 0 (.int .i64 rt)).put 1 (.slice a3 n3 c3)) (And.intro ((hF2.set (p := ⟨w.heap.size + 1, 0, none⟩) B2 (by decide) (by decide) (.int .i64 rt)).set (p := ⟨w.heap.size + 1, 1, none⟩) (B2.put 0 (.int .i64 rt)) (by decide) (by decide) (.slice a3 n3 c3)) ((hb.setCell (p := ⟨w.heap.size + 1, 0, none⟩) (Nat.le_succ _) (.int .i64 rt)).setCell (p := ⟨w.heap.size + 1, 1, none⟩) (Nat.le_succ _) (.slice a3 n3 c3))))
  clear hC hF hF2 hu1 hu2 B2 hb hs k3 k4 k6 HB CP HH HRR
  unfold Wv
  try simp only
  go_wp2
  refine post_name (fun V => Bk V (w.heap.size + 1) #[.int .i64 rt, .slice a3 n3 c3] 26 ∧ Fresh 0 V (.slice a3 n3 c3) res ∧ Below w.heap.size w V) HX.out ?_
  clear HX q0 q1 f0 f1 lt
  rintro V4 ⟨BV, hFR, hbV⟩
  have y0 := BV.cell (v := .int .i64 rt) 0 rfl
  have y1 := BV.cell (v := .slice a3 n3 c3) 1 rfl
  exact bodyPost_ret (v := .tuple #[Wv rt a3 n3 c3, .int .i64 re]) (by simp [results, Tryz.results11, go_sem, y0, y1]; try rfl) rfl ⟨a3, n3, c3, rfl, hFR, hbV⟩
theorem view_any (c : Cli) (a : Option Addr) (n cap : Nat) (pa : Option Addr) (pn pc : Nat) (w : World) (hR : RG w) (hM : RM w) (hw : 2 ≤ w.heap.size) (h : EntsAt w (.slice a n cap) c.b.es) (hp : InpsAt w (.slice pa pn pc) c.p) (hx : I64s c.p) :
    Calls Tryz.prog 11 #[Cv c a n cap pa pn pc] w (WEPost w (viewR c)) := by
  unfold viewR
  rcases hv : validC c with _ | _
  · rw [if_neg (by decide)]
    exact (view_bad c a n cap pa pn pc w hR h hp hv).mono fun e w' ⟨he, hb⟩ => ⟨none, 0, 0, he, Fresh.nil 0 _, hb⟩
  · rw [if_pos rfl]
    exact view_ok c a n cap pa pn pc w hR hM hw h hp hx hv
end Go.Proofs.YtlcjkomfjgddeaaGreatDoor
