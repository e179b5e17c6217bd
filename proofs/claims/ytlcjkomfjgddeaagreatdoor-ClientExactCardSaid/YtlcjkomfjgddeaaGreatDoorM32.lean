/- The walk of client.Predict, where it predicts. -/
import Derived.Test.YtlcjkomfjgddeaaGreatDoorM31
set_option linter.unusedVariables false
set_option linter.unusedSimpArgs false
namespace Go.Proofs.YtlcjkomfjgddeaaGreatDoor
open Go Go.RowKit Go.Sort
set_option maxRecDepth 100000
attribute [local go_sem] opLow opUpon opLow2 opUpon2

theorem of_fresh (id : Int) (w : World) : Calls Tryz.prog 37 #[.int .i64 id] w fun e w' => ∃ g, e = .returned (.func (.func 62) #[] #[.pointer (some ⟨g, 0, none⟩)]) ∧ Bk w' g (mineA id) 48 ∧ w.heap.size ≤ g ∧ Below w.heap.size w w' := by
  go_enter Tryz.func37, Tryz.ntmps37
  go_wp2
  go_returns
  exact ⟨w.heap.size, rfl, Bk.made _ _ _, Nat.le_refl _, by go_grown⟩
theorem SI.put {V2 V V' : World} {t id X Y : Int} {gm g11 g12 gE nE cE g n n' cap i : Nat} {l : List Ent} {ss : List Value} {e : Ent} {cs' : List Cmp} (h : SI V2 t id X Y gm g11 g12 (some ⟨gE, 0, none⟩) nE cE l ss V) (he : l[i]? = some e) (hs : ss[i]? = some (.slice (some ⟨g, 0, none⟩) n cap)) (hB : ∃ cur, Bk V g cur 48) (hne : gm ≠ g) (hgb : V2.heap.size ≤ g) (hg : V.grownBy V' (some g)) (hr : RowC V2.heap.size V' (.slice (some ⟨g, 0, none⟩) n' cap) cs') :
    SI V2 t id X Y gm g11 g12 (some ⟨gE, 0, none⟩) nE cE (l.set i ⟨e.id, cs'⟩) (ss.set i (.slice (some ⟨g, 0, none⟩) n' cap)) (V'.setCell ⟨gE, i * 2 + 1, none⟩ (.slice (some ⟨g, 0, none⟩) n' cap)) ∧ (∃ cur, Bk V' gE cur 43) ∧ V'.cell? ⟨gE, i * 2 + 1, none⟩ = V.cell? ⟨gE, i * 2 + 1, none⟩ := by
  obtain ⟨cur, hB⟩ := hB
  obtain ⟨hf, curE, hE⟩ := h.fr.put (w' := V') (s := .slice (some ⟨g, 0, none⟩) n cap) he hs hg hr (.inl rfl)
  have hgE := (h.fr.2.2.1.lt gE rfl)
  have hgEne : gE ≠ g := fun q => bk_ne_row hB (by decide) h.fr.2.2.1 (by rw [q]; rfl)
  have bm' := bk_grown hg h.bm hne
  have b11' := bk_grown hg h.b11 (bk_types h.b11 hB (by decide))
  have b12' := bk_grown hg h.b12 (bk_types h.b12 hB (by decide))
  refine ⟨⟨(h.bel.grown hg h.bel.size (fun k q => by cases q; exact hgb)).setCell (p := ⟨gE, i * 2 + 1, none⟩) hgE.1 _, bm'.far (p := ⟨gE, i * 2 + 1, none⟩) (bk_types bm' hE (by decide)) _, b11'.far (p := ⟨gE, i * 2 + 1, none⟩) (bk_types b11' hE (by decide)) _, b12'.far (p := ⟨gE, i * 2 + 1, none⟩) (bk_types b12' hE (by decide)) _, hf⟩, ⟨curE, hE⟩, ?_⟩
  exact World.cell?_of_block (hg.block gE hgE.2 (fun q => hgEne (Option.some.inj q)))
theorem SI.vel {V2 V V' : World} {t id X Y : Int} {gm g11 g12 gE nE cE g n cap i : Nat} {l : List Ent} {ss : List Value} {e : Ent} {cs' : List Cmp} (h : SI V2 t id X Y gm g11 g12 (some ⟨gE, 0, none⟩) nE cE l ss V) (he : l[i]? = some e) (hs : ss[i]? = some (.slice (some ⟨g, 0, none⟩) n cap)) (hB : ∃ cur, Bk V g cur 48) (hne : gm ≠ g) (hgb : V2.heap.size ≤ g) (hg : V.grownBy V' (some g)) (hr : RowC V2.heap.size V' (.slice (some ⟨g, 0, none⟩) n cap) cs') :
    SI V2 t id X Y gm g11 g12 (some ⟨gE, 0, none⟩) nE cE (l.set i ⟨e.id, cs'⟩) ss V' := by
  obtain ⟨cur, hB⟩ := hB
  exact ⟨h.bel.grown hg h.bel.size (fun k q => by cases q; exact hgb), bk_grown hg h.bm hne, bk_grown hg h.b11 (bk_types h.b11 hB (by decide)), bk_grown hg h.b12 (bk_types h.b12 hB (by decide)), h.fr.turn (e' := ⟨e.id, cs'⟩) he hs hg hr rfl⟩
set_option maxHeartbeats 16000000 in
theorem pred_ok (W : Wld) (a : Option Addr) (n c : Nat) (id gx gy : Int) (x : Inp) (w : World) (hR : RG w) (hM : RM w) (hw : 2 ≤ w.heap.size) (h : EntsAt w (.slice a n c) W.es) (hv : Valid W) (hnu : numB id = true) (hpu : pullB gx gy = true) (ht : W.t < 1073741824) (hx : I64 x.mx ∧ I64 x.my) :
    Calls Tryz.prog 14 #[Wv W.t a n c, .int .i64 id, V2 gx gy, Iv x] w (PredPost w W.t id gx gy (wst x.mx (vfar x.mx x.my) 64) (wst x.my (vfar x.mx x.my) 64) W.es) := by
  have VV := Lib.hid (fun V hV => by have := valid_any W a n c V (hR.below hV) (EntsAt.below h hV); rw [decide_eq_true hv] at this; exact this)
  have NN := Lib.hid (fun V => by have := number_any id V; rw [hnu] at this; exact this)
  have PP := Lib.hid (fun V => by have := cpull_any gx gy V; rw [hpu] at this; exact this)
  have LM := Lib.hid (fun V => vlimit_any x.mx x.my 64 hx.1 hx.2 ⟨by decide, by decide⟩ V)
  have bX := wst64 x.mx x.my
  have bY := wst64' x.mx x.my
  obtain ⟨t, es⟩ := W
  obtain ⟨xc, xs, xt, xmx, xmy, xfire, xax, xay, xseen, xpart⟩ := x
  simp only at h hv ht hx VV LM bX bY ⊢
  obtain ⟨X, hX⟩ : ∃ X, wst xmx (vfar xmx xmy) 64 = X := ⟨_, rfl⟩
  obtain ⟨Y, hY⟩ : ∃ Y, wst xmy (vfar xmx xmy) 64 = Y := ⟨_, rfl⟩
  rw [hX, hY] at LM ⊢
  rw [hX] at bX
  rw [hY] at bY
  have ht0 : 0 ≤ t := hv.1.1
  have hn : n = es.length := ListAt.len h
  have hes64 : es.length ≤ 64 := hv.2.1
  have HH := Lib.hid (And.intro h (And.intro hv (And.intro hM (And.intro hw (And.intro hpu (And.intro bX bY))))))
  have CP := Lib.hid (fun V hV => ccopied_any ⟨t, es⟩ a n c V (EntsAt.below h hV))
  have HN := Lib.hid hn
  have d1 : decide (1073741824 ≤ t) = false := decide_eq_false (by omega)
  clear hR hM hw h hv hnu hpu hx hX hY hn bX bY
  unfold Wv V2 Iv
  simp only
  go_enter Tryz.func14, Tryz.ntmps14
  have hI0 : PI w t a n c gx gy #[.int .i64 xc, .int .i64 xs, .int .i64 xt, .int .i64 xmx, .int .i64 xmy, .bool xfire, .int .i64 xax, .int .i64 xay, .int .i64 xseen, .int .i64 xpart] ((((w.alloc (.cells #[.int .i64 t, .slice a n c] 26)).alloc (.cells #[.int .i64 gx, .int .i64 gy] 23)).alloc (.cells #[.int .i64 xc, .int .i64 xs, .int .i64 xt, .int .i64 xmx, .int .i64 xmy, .bool xfire, .int .i64 xax, .int .i64 xay, .int .i64 xseen, .int .i64 xpart] 37)).alloc (.cells #[.int .i64 0, .slice none 0 0] 26)) := ⟨(((Bk.made _ _ _).alloc _).alloc _).alloc _, ((Bk.at_ (by simp)).alloc _).alloc _, (Bk.at_ (by simp)).alloc _, Bk.at_ (by simp), by go_grown⟩
  have HI := Lib.hid hI0
  clear hI0
  go_wp2_with fail
  refine (VV.out _ HI.out.bel).mono ?_
  rintro e V1 ⟨rfl, hb1⟩
  replace HI := Lib.hid (HI.out.below hb1)
  clear hb1
  go_wp2_with fail
  refine (NN.out _).mono ?_
  rintro e V1a ⟨rfl, hb1⟩
  replace HI := Lib.hid (HI.out.below hb1)
  clear hb1
  have p0 := HI.out.b6.cell (v := .int .i64 gx) 0 rfl
  have p1 := HI.out.b6.cell (v := .int .i64 gy) 1 rfl
  go_wp2_with fail
  refine (PP.out _).mono ?_
  rintro e V2 ⟨rfl, hb1⟩
  replace HI := Lib.hid (HI.out.below hb1)
  clear hb1 p0 p1
  have p0 := HI.out.b4.cell (v := .int .i64 t) 0 rfl
  go_upto_region 5 with fail
  clear p0
  have k0 := cell_regrown (HI.out.b4.cell (v := .int .i64 t) 0 rfl)
  have k1 := cell_regrown (HI.out.b4.cell (v := .slice a n c) 1 rfl)
  refine wp_region_low2 (post2 37 (aOf V2 id) 33 (aCopied V2 ⟨t, es⟩)) 5 (by kernel_rfl) (by kernel_rfl) ?_
  simp only [List.take, List.drop]
  iterate 1 (refine low2_step (fun K hK => ?_); go_simp; first | (refine hK _ ?_; clear hK K) | (apply Exists.intro; refine ⟨fun p => ?_, hK _ ?_⟩; clear hK K))
  refine low2_call 37 #[.int .i64 id] (aOf V2 id) (by rfl) (fun w => by go_simp) (by simp [post2]) (fun V hV hG => by
    exact (of_fresh id V).mono fun e w' ⟨g, he, hB, hg, hbb⟩ => ⟨_, he, ⟨hV.size, g, rfl, hB, hg⟩, hbb⟩) ?_
  rintro v1 ⟨_, _, -, gm, rfl, -, -⟩
  iterate 1 (refine low2_step (fun K hK => ?_); go_simp; first | (refine hK _ ?_; clear hK K) | (apply Exists.intro; refine ⟨fun p => ?_, hK _ ?_⟩; clear hK K))
  refine low2_call 33 #[.agg #[.int .i64 t, .slice a n c]] (aCopied V2 ⟨t, es⟩) (by rfl) (fun w => by go_simp) (by simp [post2]) (fun V hV hG => by
    have hw1 : Below w.heap.size w V := (below_cc hV HI.out.bel).1
    exact (CP.out V hw1).mono fun e w' ⟨a', n', c', he, hF, hbb⟩ => ⟨_, he, ⟨hV.size, a', n', c', rfl, hF⟩, hbb⟩) ?_
  rintro v3 ⟨_, _, -, aE, nE, cE, rfl, -⟩
  refine low2_new (.cells #[.int .i64 0, .slice none 0 0] 26) (by rfl) (fun w => by go_simp) ?_
  intro g11
  refine low2_nil ?_
  intro V3 hC
  obtain ⟨u1, u2, hA, hu1, hu2⟩ := hC.made 1 _ rfl
  obtain ⟨u3, u4, hA2, hu3, hu4⟩ := hC.made 3 _ rfl
  obtain ⟨z11, B11⟩ : _ ∧ Bk V3 g11 #[.int .i64 0, .slice none 0 0] 26 := hC.made 4 _ rfl
  obtain ⟨hA1, gm', hvv, hBm, hgm⟩ := hA
  injection hvv with _ _ hvv
  simp only [Array.mk.injEq, List.cons.injEq, Value.pointer.injEq, Option.some.injEq, Addr.mk.injEq, and_true, true_and] at hvv
  obtain rfl := hvv
  obtain ⟨hA3, a1, n1, c1, hvv, hF⟩ := hA2
  injection hvv with hvv
  injection hvv with hvv
  simp only [List.cons.injEq, Value.slice.injEq, and_true, true_and] at hvv
  obtain ⟨rfl, rfl, rfl⟩ := hvv
  have hFr : Fresh V2.heap.size V3 (.slice aE nE cE) es := (hF.below hu4).monoB hA3
  have hBm3 : Bk V3 gm (mineA id) 48 := hBm.below hu2
  have hbV3 : Below V2.heap.size V2 V3 := hC.1
  clear hC hF hu1 hu2 hu3 hu4 hA1 hA3 hBm hgm k0 k1 CP u1 u2 u3 u4
  have q0 := B11.cell (v := .int .i64 0) 0 rfl
  have q1 := B11.cell (v := .slice none 0 0) 1 rfl
  have f0 := B11.free 0
  have f1 := B11.free 1
  have lt := B11.lt
  obtain ⟨ss, hFS⟩ := hFr.open
  have HS := Lib.hid (And.intro ((B11.put 0 (.int .i64 t)).put 1 (.slice aE nE cE)) (And.intro ((hBm3.far (p := ⟨g11, 0, none⟩) (bk_types hBm3 B11 (by decide)) (.int .i64 t)).far (p := ⟨g11, 1, none⟩) (bk_types hBm3 B11 (by decide)) (.slice aE nE cE)) (And.intro ((hFS.set (p := ⟨g11, 0, none⟩) B11 (by decide) (by decide) (.int .i64 t)).set (p := ⟨g11, 1, none⟩) (B11.put 0 (.int .i64 t)) (by decide) (by decide) (.slice aE nE cE)) ((hbV3.setCell (p := ⟨g11, 0, none⟩) z11 (.int .i64 t)).setCell (p := ⟨g11, 1, none⟩) z11 (.slice aE nE cE)))))
  clear B11 hFr hBm3 hbV3 hFS
  have h8 := HI.out.b8.lt
  go_upto_region 6 with fail
  refine wp_name (fun V => Bk V g11 #[.int .i64 t, .slice aE nE cE] 26 ∧ Bk V gm (mineA id) 48 ∧ FreshS V2.heap.size V (.slice aE nE cE) es ss ∧ Below V2.heap.size V2 V) HS.out ?_
  clear HS q0 q1 f0 f1 lt
  rintro V4 ⟨B11, hBm, hFS, hb4⟩
  have hI4 := HI.out.below hb4
  have j3 := hI4.b7.cell (v := .int .i64 xmx) 3 rfl
  have j4 := hI4.b7.cell (v := .int .i64 xmy) 4 rfl
  have H4 := Lib.hid (And.intro B11 (And.intro hBm (And.intro hFS hb4)))
  clear B11 hBm hFS hb4 hI4
  go_wp2_with fail
  refine (LM.out _).mono ?_
  rintro e V5 ⟨rfl, hb5⟩
  have hs5 := hb5.size
  have H5 := Lib.hid (And.intro (H4.out.1.below hb5) (And.intro (H4.out.2.1.below hb5) (And.intro (H4.out.2.2.1.below hb5) (H4.out.2.2.2.trans (hb5.mono H4.out.2.2.2.size)))))
  clear H4 hb5 j3 j4
  have hs25 := H5.out.2.2.2.size
  go_upto_region 7 with fail
  refine wp_name (fun V => SI V2 t id X Y gm g11 V5.heap.size aE nE cE es ss V) ⟨H5.out.2.2.2.alloc hs25 _, H5.out.2.1.alloc _, H5.out.1.alloc _, Bk.made _ _ _, H5.out.2.2.1.below ((Below.refl _ _).alloc (Nat.le_refl _) _)⟩ ?_
  obtain ⟨g12, hg12⟩ : ∃ g, V5.heap.size = g := ⟨_, rfl⟩
  rw [hg12]
  have hg12b : V2.heap.size ≤ g12 := by omega
  clear hg12 H5 hs25 hs5
  intro V6 hS
  have hnE : nE = es.length := by
    rcases hS.fr.2.2.1.2 with ⟨h1, h2⟩ | ⟨g, cap, cur, h1, _⟩
    · cases h1; exact h2.symm
    · cases h1; rfl
  have HNE := Lib.hid hnE
  have hnE64 : nE ≤ 64 := by omega
  clear hnE
  have p1 := hS.b11.cell (v := .slice aE nE cE) 1 rfl
  have HS := Lib.hid hS
  clear hS LM
  go_wp2
  go_loopw [51] (fun v51 wr => ∃ k : Nat, (k ≤ nE ∧ v51 = .int .i64 k) ∧ ∃ ss, SI V2 t id X Y gm g11 g12 aE nE cE (headL (stillE id X Y) es k) ss wr) (fun v51 _ => nE - (intOf v51).toNat)
  case atStart => exact ⟨0, ⟨by omega, rfl⟩, ss, HS.out⟩
  case round =>
    obtain ⟨k, ⟨hk, rfl⟩, ss, hS⟩ := hrel
    clear p1
    have p1 := hS.b11.cell (v := .slice aE nE cE) 1 rfl
    by_cases hlt : k < nE
    · obtain ⟨e, he⟩ := at_lt (l := es) (i := k) (by rw [← HNE.out]; exact hlt)
      have hle := headL_at (stillE id X Y) he
      obtain ⟨gE, capE, xa, xn, xc, hvE, hss, q0, q1, hRow⟩ := hS.fr.ent hle
      injection hvE with w1 w2 w3
      subst w1 w3
      clear w2
      rw [Nat.zero_add] at q0 q1
      have hset := headL_set (stillE id X Y) he
      have HE := Lib.hid (And.intro he (And.intro hle (And.intro hss hset)))
      have hcm := hRow.comps
      have IV := Lib.hid (fun V (hV : Below wr.heap.size wr V) => indexVel_any e.cs (.slice xa xn xc) V (hcm.below hV))
      have HRW := Lib.hid hRow
      have HSI := Lib.hid hS
      have HCM := Lib.hid hcm
      clear he hle hss hset hRow hS hcm
      go_wp2_with fail
      refine (IV.out _ (Below.refl _ _)).mono ?_
      rintro e' V7 ⟨rfl, hb7⟩
      replace HSI := Lib.hid (HSI.out.below hb7)
      replace HRW := Lib.hid (HRW.out.below hb7)
      replace HCM := Lib.hid (HCM.out.below hb7)
      replace q0 := cell_later hb7 q0
      replace q1 := cell_later hb7 q1
      clear hb7 IV p1
      by_cases hneg : firstOf (keyC 2) e.cs < 0
      · obtain ⟨hm1, hno⟩ := firstOf_neg hneg
        rw [hm1]
        have hst : stillE id X Y e = e := by unfold stillE; rw [hno]
        have hstay := headL_stay (stillE id X Y) HE.out.1 hst
        have HST := Lib.hid hstay
        clear hm1 hno hst hstay hneg q0 q1
        go_wp2
        go_roundw
        case rel => exact ⟨k + 1, ⟨by omega, by go_num⟩, ss, by rw [HST.out]; exact HSI.out⟩
        case measure => simp [intOf]; omega
      · obtain ⟨j, v, hfj, hidx, hvj, hkv⟩ := firstOf_pos hneg
        rw [hfj]
        have hkv' : v.k = 2 := by unfold keyC at hkv; simpa using hkv
        obtain ⟨g, cap', cur, hsv, hgb, hBg, hfz, hc0, hc1, hc2⟩ := HRW.out.comp hvj
        injection hsv with w1 w2 w3
        subst w1 w2 w3
        have hgm := mine_ne HSI.out.bm HRW.out hvj hkv'
        have hjl := (List.getElem?_eq_some_iff.1 hvj).1
        have hel64 : e.cs.length < 1099511627776 := HRW.out.2.2
        have HJ := Lib.hid (And.intro hvj (And.intro hidx (And.intro hkv' (And.intro hgb hgm))))
        have HBG := Lib.hid (show ∃ cur, Bk V7 g cur 48 from ⟨_, hBg⟩)
        have R1 := Lib.hid (fun V (hV : Below V7.heap.size V7 V) => own1_any e (some ⟨g, 0, none⟩) e.cs.length xc id gm V (HCM.out.below hV) (HSI.out.bm.below hV))
        have jneg : decide ((j : Int) < 0) = false := decide_eq_false (by omega)
        clear hneg hfj hkv hkv' hvj hidx hgb hBg hfz hc0 hc1 hc2 hgm
        go_wp2_with fail
        refine (R1.out _ (Below.refl _ _)).mono ?_
        rintro e' V8 ⟨rfl, hb8⟩
        replace HSI := Lib.hid (HSI.out.below hb8)
        replace HRW := Lib.hid (HRW.out.below hb8)
        replace HBG := Lib.hid (show ∃ cur, Bk V8 g cur 48 from by obtain ⟨c', hc'⟩ := HBG.out; exact ⟨c', hc'.below hb8⟩)
        replace q0 := cell_later hb8 q0
        replace q1 := cell_later hb8 q1
        clear hb8 R1 HCM
        rcases ho : ownB id e with _ | _
        · obtain ⟨q, hq⟩ : ∃ q, e.cs.length = j + q + 1 := ⟨e.cs.length - j - 1, by omega⟩
          have hst : stillE id X Y e = ⟨e.id, e.cs.eraseIdx j⟩ := by
            unfold stillE
            rw [HJ.out.2.1, HJ.out.1, ho]
            rfl
          have hset := HE.out.2.2.2
          rw [hst] at hset
          have HSET := Lib.hid hset
          have hR8 := HRW.out
          rw [hq] at q1 hR8
          have DE := Lib.hid (delete_any V2.heap.size e.cs g xc j q V8 hR8 hq)
          have hss8 := HE.out.2.2.1
          rw [hq] at hss8
          have HSS8 := Lib.hid hss8
          have wj : IntKind.i64.wrap ((j : Int) + 1) = (j : Int) + 1 := by rw [IntKind.wrap_i64]; omega
          clear hst hset hR8 hss8 hq hjl hel64 HRW
          go_wp2_with fail
          refine DE.out.mono ?_
          rintro e' V9 ⟨rfl, hR9, hg9⟩
          have hP := HSI.out.put HE.out.2.1 HSS8.out HBG.out HJ.out.2.2.2.2 HJ.out.2.2.2.1 hg9 hR9
          obtain ⟨cE9, hE9⟩ := hP.2.1
          have q9 := hP.2.2.trans q1
          have f9 := hE9.free (k * 2 + 1)
          have lt9 := hE9.lt
          have HP := Lib.hid hP.1
          clear hP hE9 q0 q1 hR9 hg9 DE wj
          go_wp2
          go_roundw
          case rel => exact ⟨k + 1, ⟨by omega, by go_num⟩, _, by rw [← HSET.out]; exact HP.out⟩
          case measure => simp [intOf]; omega
        · have hst : stillE id X Y e = ⟨e.id, e.cs.set j (putXY X Y v)⟩ := by
            unfold stillE
            rw [HJ.out.2.1, HJ.out.1, ho]
            rfl
          have hset := HE.out.2.2.2
          rw [hst] at hset
          have HSET := Lib.hid hset
          obtain ⟨cu, hcu⟩ := HBG.out
          obtain ⟨g', cap', cur', hsv, -, -, -, -, hc1, hc2⟩ := HRW.out.comp HJ.out.1
          injection hsv with w1 w2 w3
          injection w1 with w1
          injection w1 with w1
          subst w1
          rw [Nat.zero_add] at hc1 hc2
          have hc2' : V8.cell? ⟨g, j * 5 + 1 + 1, none⟩ = some (.int .i64 v.b) := hc2
          have fx1 := hcu.free (j * 5 + 1)
          have fx2 := hcu.free (j * 5 + 1 + 1)
          have ltx := hcu.lt
          have ngE : gE ≠ g := fun q => bk_ne_row hcu (by decide) HSI.out.fr.2.2.1 (by rw [q]; rfl)
          have ngE' : g ≠ gE := fun q => ngE q.symm
          have ng12 : g12 ≠ g := bk_types HSI.out.b12 hcu (by decide)
          have ng12' : g ≠ g12 := fun q => ng12 q.symm
          have r0 := HSI.out.b12.cell (v := .int .i64 X) 0 rfl
          have r1 := HSI.out.b12.cell (v := .int .i64 Y) 1 rfl
          have HVE := Lib.hid ((HSI.out.vel HE.out.2.1 HE.out.2.2.1 HBG.out HJ.out.2.2.2.2 HJ.out.2.2.2.1 (grownXY g (j * 5 + 1) (j * 5 + 1 + 1) (.int .i64 X) (.int .i64 Y)) (HRW.out.putXY HJ.out.1 X Y)).below ((Below.refl _ _).drew))
          clear hst hset hcu w2 w3 hc2 q0
          go_upto_region 15 with fail
          go_region_held3 (fun w' => w'.cell? ⟨gE, k * 2 + 1, none⟩ = some (.slice (some ⟨g, 0, none⟩) e.cs.length xc) ∧ w'.cell? ⟨g12, 0, none⟩ = some (.int .i64 X) ∧ w'.cell? ⟨g12, 1, none⟩ = some (.int .i64 Y)) (first | (simp [go_sem, ngE, ng12, ngE', ng12', q1, r0, r1]; done) | (simp [go_sem, *]; done)) (fail)
          go_wp2
          go_roundw
          case rel => exact ⟨k + 1, ⟨by omega, by go_num⟩, ss, by rw [← HSET.out]; exact HVE.out⟩
          case measure => simp [intOf]; omega
    · obtain rfl : k = nE := by omega
      have hall : headL (stillE id X Y) es k = es.map (stillE id X Y) := by rw [HNE.out]; exact headL_all _ _
      rw [hall] at hS
      have hPI := HI.out.below hS.bel
      have hbw := hPI.bel
      obtain ⟨hv1, hvl, hvr, hve⟩ := HH.out.2.1
      have hmi : (es.map (stillE id X Y)).map Ent.id = es.map Ent.id := by
        rw [List.map_map]
        apply List.map_congr_left
        intro e he
        exact (still_ok id X Y HH.out.2.2.2.2.2.1 HH.out.2.2.2.2.2.2 e (hve e he).2.2).1
      have hfit : ∀ e ∈ es.map (stillE id X Y), ∀ x ∈ e.cs, fits x = true := fun e he => by
        obtain ⟨e', he', rfl⟩ := List.mem_map.1 he
        exact (still_ok id X Y HH.out.2.2.2.2.2.1 HH.out.2.2.2.2.2.2 e' (hve e' he').2.2).2
      have hid' : ∀ e ∈ es.map (stillE id X Y), 1 ≤ e.id ∧ e.id ≤ 65536 := fun e he => by
        obtain ⟨e', he', rfl⟩ := List.mem_map.1 he
        rw [(still_ok id X Y HH.out.2.2.2.2.2.1 HH.out.2.2.2.2.2.2 e' (hve e' he').2.2).1]
        exact (hve e' he').1
      have hgG : okG gx gy := by
        have := HH.out.2.2.2.2.1
        unfold pullB at this
        simp only [Bool.and_eq_true, decide_eq_true_eq] at this
        unfold okG
        omega
      have hEn := hS.fr.shut.ents
      have WD := Lib.hid (fun V (hV : Below wr.heap.size wr V) => world_any t (es.map (stillE id X Y)) aE k cE gx gy V (HH.out.2.2.1.low (below_cc hV hbw).1 HH.out.2.2.2.1) (Nat.le_trans HH.out.2.2.2.1 (below_cc hV hbw).2) (hEn.below hV) (by rw [List.length_map]; exact hvl) hid' hfit (by rw [hmi]; exact hvr) hgG)
      obtain ⟨NX, hNX⟩ : ∃ l, worldM gx gy (es.map (stillE id X Y)) = l := ⟨_, rfl⟩
      have hNl : es.length = NX.length := by rw [← hNX]; unfold worldM; simp
      have hPM : predM id gx gy X Y es = es.zipWith (takeE id) NX := by unfold predM; rw [hNX]
      have HNX := Lib.hid (And.intro hNX (And.intro hNl hPM))
      have p0 := hS.b11.cell (v := .int .i64 t) 0 rfl
      have r0 := hPI.b6.cell (v := .int .i64 gx) 0 rfl
      have r1 := hPI.b6.cell (v := .int .i64 gy) 1 rfl
      have HPI := Lib.hid hPI
      have HBM := Lib.hid hS.bm
      clear hall hPI hbw hv1 hvl hvr hve hmi hfit hid' hgG hEn hNX hNl hPM hS HS HI hlt
      go_wp2_with fail
      refine (WD.out _ (Below.refl _ _)).mono ?_
      rintro e V7 ⟨a3, n3, c3, sa, sn, sc, rfl, hF7, hb7⟩
      rw [HNX.out.1] at hF7
      have hE7 := hF7.ents
      replace HPI := Lib.hid (HPI.out.below hb7)
      replace HBM := Lib.hid (HBM.out.below hb7)
      have HE7 := Lib.hid hE7
      clear hF7 hb7 hE7 p0 p1 r0 r1 WD
      unfold Wv
      go_upto_region 18 with fail
      refine wp_name (fun V => PI w t a n c gx gy #[.int .i64 xc, .int .i64 xs, .int .i64 xt, .int .i64 xmx, .int .i64 xmy, .bool xfire, .int .i64 xax, .int .i64 xay, .int .i64 xseen, .int .i64 xpart] V ∧ Bk V gm (mineA id) 48 ∧ Bk V V7.heap.size #[.int .i64 t, .slice a3 n3 c3] 26 ∧ EntsAt V (.slice a3 n3 c3) NX) ⟨HPI.out.below ((Below.refl _ _).alloc (Nat.le_refl _) _), HBM.out.alloc _, Bk.made _ _ _, HE7.out.below ((Below.refl _ _).alloc (Nat.le_refl _) _)⟩ ?_
      obtain ⟨g16, hg16⟩ : ∃ g, V7.heap.size = g := ⟨_, rfl⟩
      rw [hg16]
      clear hg16 HPI HBM HE7
      rintro VN ⟨hPI, hBm, hB16, hEN⟩
      have HPI := Lib.hid hPI
      have HBN := Lib.hid (And.intro hBm (And.intro hB16 hEN))
      have p0 := hPI.b4.cell (v := .int .i64 t) 0 rfl
      have p1 := hPI.b4.cell (v := .slice a n c) 1 rfl
      have CP := Lib.hid (ccopied_any ⟨t, es⟩ a n c VN (HH.out.1.below hPI.bel))
      unfold Wv at CP
      clear hPI hBm hB16 hEN
      go_wp2_with fail
      refine CP.out.mono ?_
      rintro e V9 ⟨aO, nO, cO, rfl, hF9, hb9⟩
      have hs9 := hb9.size
      have HF9 := Lib.hid (And.intro hF9 hb9)
      clear hF9 hb9 p0 p1 CP
      go_upto_region 21 with fail
      refine wp_name (fun V => Below VN.heap.size VN V ∧ Bk V V9.heap.size #[.int .i64 t, .slice aO nO cO] 26 ∧ Fresh VN.heap.size V (.slice aO nO cO) es) ⟨HF9.out.2.alloc hs9 _, Bk.made _ _ _, HF9.out.1.below ((Below.refl _ _).alloc (Nat.le_refl _) _)⟩ ?_
      obtain ⟨g19, hg19⟩ : ∃ g, V9.heap.size = g := ⟨_, rfl⟩
      rw [hg19]
      have hg19b : VN.heap.size ≤ g19 := by omega
      clear hg19 HF9 hs9
      rintro VO ⟨hbO, B19, hFO⟩
      have hnO : nO = es.length := by
        rcases hFO with ⟨_, _, _, hrow, _⟩
        rcases hrow.2 with ⟨h1, h2⟩ | ⟨g, cap, cur, h1, _⟩
        · cases h1; exact h2.symm
        · cases h1; rfl
      have hnO64 : nO ≤ 64 := by omega
      have HNO := Lib.hid hnO
      obtain ⟨ssO, hSO⟩ := hFO.open
      have p1 := B19.cell (v := .slice aO nO cO) 1 rfl
      clear hnO hFO
      go_wp2
      go_loopw [120] (fun v120 wr => ∃ k : Nat, (k ≤ nO ∧ v120 = .int .i64 k) ∧ Below VN.heap.size VN wr ∧ Bk wr g19 #[.int .i64 t, .slice aO nO cO] 26 ∧ ∃ ss, FreshS VN.heap.size wr (.slice aO nO cO) (zipL (takeE id) es NX k) ss) (fun v120 _ => nO - (intOf v120).toNat)
      case atStart => exact ⟨0, ⟨by omega, rfl⟩, hbO, B19, ssO, hSO⟩
      case round =>
        obtain ⟨q, ⟨hq, rfl⟩, hbN, B19, ss2, hS2⟩ := hrel
        clear p1 hbO hSO
        have p1 := B19.cell (v := .slice aO nO cO) 1 rfl
        by_cases hltq : q < nO
        · obtain ⟨e, he⟩ := at_lt (l := es) (i := q) (by rw [← HNO.out]; exact hltq)
          obtain ⟨m, hm⟩ := at_lt (l := NX) (i := q) (by rw [← HNX.out.2.1, ← HNO.out]; exact hltq)
          have hle := zipL_at (takeE id) HNX.out.2.1 he
          obtain ⟨gO, capO, xa, xn, xc, hvO, hss, q0, q1, hRow⟩ := hS2.ent hle
          injection hvO with w1 w2 w3
          subst w1 w3
          clear w2
          rw [Nat.zero_add] at q0 q1
          have HE := Lib.hid (And.intro he (And.intro hm (And.intro hle hss)))
          have HRW := Lib.hid hRow
          have HB := Lib.hid (And.intro hbN hS2)
          have R1 := Lib.hid (fun V (hV : Below wr.heap.size wr V) => own1_any e xa xn xc id gm V (hRow.comps.below hV) ((HBN.out.1.below hbN).below hV))
          clear he hm hle hss hRow hS2
          go_wp2_with fail
          refine (R1.out _ (Below.refl _ _)).mono ?_
          rintro e' V8 ⟨rfl, hb8⟩
          replace HB := Lib.hid (And.intro (HB.out.1.trans (hb8.mono HB.out.1.size)) (HB.out.2.below hb8))
          replace HRW := Lib.hid (HRW.out.below hb8)
          replace B19 := B19.below hb8
          clear hb8 hbN R1 p1 q0 q1
          rcases ho : ownB id e with _ | _
          · have hf : takeE id e m = e := by unfold takeE; rw [ho]; rfl
            have hst := zipL_stay (takeE id) HNX.out.2.1 HE.out.1 HE.out.2.1 hf
            have HST := Lib.hid hst
            clear hf hst ho
            go_wp2
            go_roundw
            case rel => exact ⟨q + 1, ⟨by omega, by go_num⟩, HB.out.1, B19, ss2, by rw [HST.out]; exact HB.out.2⟩
            case measure => simp [intOf]; omega
          · have hf : takeE id e m = ⟨e.id, m.cs⟩ := by unfold takeE; rw [ho]; rfl
            have hst := zipL_set (takeE id) HNX.out.2.1 HE.out.1 HE.out.2.1
            rw [hf] at hst
            have HST := Lib.hid hst
            have hEN := HBN.out.2.2.below HB.out.1
            have hB16 := HBN.out.2.1.below HB.out.1
            rcases hEN with ⟨h1, h2⟩ | ⟨bN, oN, cN, h1, hlN, hcN⟩
            · have := HE.out.2.1
              rw [h2] at this; cases this
            obtain ⟨y0, ya, yn, yc, y1, hy⟩ := hcN q m HE.out.2.1
            have hn3 : q < n3 := by
              have h4 := (List.getElem?_eq_some_iff.1 HE.out.2.1).1
              injection h1 with u1 u2 u3
              omega
            injection h1 with u1 u2 u3
            subst u1
            clear u2 u3
            have HY := Lib.hid hy
            have k19 := cell_regrown (B19.cell (v := .slice (some ⟨gO, 0, none⟩) nO cO) 1 rfl)
            have k16 := cell_regrown (hB16.cell (v := .slice (some ⟨bN, oN, none⟩) n3 c3) 1 rfl)
            replace y1 := cell_regrown y1
            clear hf hst ho y0 hlN hcN hB16 hy
            go_wp2
            refine wp_region_low2 (post1 42 (aClone V8 m.cs)) 10 (by kernel_rfl) (by kernel_rfl) ?_
            simp only [List.take, List.drop]
            iterate 9 (refine low2_step (fun K hK => ?_); go_simp; first | (refine hK _ ?_; clear hK K) | (apply Exists.intro; refine ⟨fun p => ?_, hK _ ?_⟩; clear hK K))
            refine low2_call 42 #[.slice ya yn yc] (aClone V8 m.cs) (by rfl) (fun w => by go_simp) (post1_same _ _) (fun V hV _ => by
              refine (cloneC_any _ m.cs V (HY.out.below hV)).mono ?_
              rintro e V' ⟨v, rfl, h1, h2⟩
              exact ⟨v, rfl, ⟨hV.size, h1⟩, h2⟩) ?_
            rintro v9 ⟨_, _, -, h6⟩
            obtain ⟨a6, n6, c6, rfl⟩ := h6.form
            clear h6
            refine low2_nil ?_
            intro VC hC
            obtain ⟨u1, u2, hA, hu1, hu2⟩ := hC.made 9 _ rfl
            have hbC := hC.1
            have hRC : RowC V8.heap.size VC (.slice a6 n6 c6) m.cs := (hA.2.below hu2).mono hA.1
            have hP := HB.out.2.put (w' := VC) (s' := .slice a6 n6 c6) HE.out.2.2.1 HE.out.2.2.2 ⟨hbC.os, hbC.tape, hbC.output, hbC.size, fun i hi _ => hbC.block i hi⟩ (hRC.mono HB.out.1.size) (.inr (fun b hb => (hRC.1.lt b hb).1))
            obtain ⟨cE9, hE9⟩ := hP.2
            have hgO := (HB.out.2.2.2.1.lt gO rfl)
            replace B19 := B19.below hbC
            have HP := Lib.hid (And.intro hP.1 (And.intro (B19.far (p := ⟨gO, q * 2 + 1, none⟩) (bk_types B19 hE9 (by decide)) (.slice a6 n6 c6)) ((HB.out.1.trans (hbC.mono HB.out.1.size)).setCell (p := ⟨gO, q * 2 + 1, none⟩) hgO.1 (.slice a6 n6 c6))))
            obtain ⟨gO', capO', xa', xn', xc', hvO, -, q0, q1, -⟩ := (HB.out.2.below hbC).ent HE.out.2.2.1
            injection hvO with w1 w2 w3
            injection w1 with w1
            injection w1 with w1
            subst w1
            rw [Nat.zero_add] at q1
            have f9 := hE9.free (q * 2 + 1)
            have lt9 := hE9.lt
            clear hC hA hu1 hu2 hbC hRC hP hE9 hgO B19 k19 k16 y1 q0 w2 w3 HY
            go_wp2
            go_roundw
            case rel => exact ⟨q + 1, ⟨by omega, by go_num⟩, HP.out.2.2, HP.out.2.1, _, by rw [← HST.out]; exact HP.out.1⟩
            case measure => simp [intOf]; omega
        · obtain rfl : q = nO := by omega
          have hall : zipL (takeE id) es NX q = predM id gx gy X Y es := by rw [HNO.out, HNX.out.2.2]; exact zipL_all _ HNX.out.2.1
          rw [hall] at hS2
          have hPI := HPI.out.below hbN
          have B8 := hPI.b8
          have hbw := hPI.bel
          have p0 := B19.cell (v := .int .i64 t) 0 rfl
          have f0 := B19.free 0
          have lt9 := B19.lt
          have h8 := B8.lt
          have n89 : w.heap.size + 1 + 1 + 1 ≠ g19 := by
            have := HPI.out.b8.lt
            omega
          have HS2 := Lib.hid (And.intro (B19.put 0 (.int .i64 (t + 1))) (And.intro (B8.far (p := ⟨g19, 0, none⟩) n89 (.int .i64 (t + 1))) (And.intro ((hS2.shut.mono (base' := w.heap.size) HPI.out.bel.size).set (p := ⟨g19, 0, none⟩) B19 (by decide) (by decide) (.int .i64 (t + 1))) (hbw.setCell (p := ⟨g19, 0, none⟩) (by have := HPI.out.b8.lt; show w.heap.size ≤ g19; omega) (.int .i64 (t + 1))))))
          clear hall hPI B8 hbw h8 n89 hS2 B19 p1 hbN hltq
          go_upto_region 28 with fail
          refine wp_name (fun V => Bk V g19 #[.int .i64 (t + 1), .slice aO q cO] 26 ∧ Bk V (w.heap.size + 1 + 1 + 1) #[.int .i64 0, .slice none 0 0] 26 ∧ Fresh w.heap.size V (.slice aO q cO) (predM id gx gy X Y es) ∧ Below w.heap.size w V) HS2.out ?_
          clear HS2 p0 f0 lt9
          rintro VF ⟨B19, B8, hF, hb⟩
          have p0 := B19.cell (v := .int .i64 (t + 1)) 0 rfl
          have p1 := B19.cell (v := .slice aO q cO) 1 rfl
          have l19 := B19.lt
          have q0 := B8.cell (v := .int .i64 0) 0 rfl
          have q1 := B8.cell (v := .slice none 0 0) 1 rfl
          have f0 := B8.free 0
          have f1 := B8.free 1
          have lt := B8.lt
          have HX := Lib.hid (And.intro ((B8.put 0 (.int .i64 (t + 1))).put 1 (.slice aO q cO)) (And.intro ((hF.set (p := ⟨w.heap.size + 1 + 1 + 1, 0, none⟩) B8 (by decide) (by decide) (.int .i64 (t + 1))).set (p := ⟨w.heap.size + 1 + 1 + 1, 1, none⟩) (B8.put 0 (.int .i64 (t + 1))) (by decide) (by decide) (.slice aO q cO)) ((hb.setCell (p := ⟨w.heap.size + 1 + 1 + 1, 0, none⟩) (by show w.heap.size ≤ w.heap.size + 1 + 1 + 1; omega) (.int .i64 (t + 1))).setCell (p := ⟨w.heap.size + 1 + 1 + 1, 1, none⟩) (by show w.heap.size ≤ w.heap.size + 1 + 1 + 1; omega) (.slice aO q cO))))
          clear hF hb B8 B19
          go_wp2
          refine post_name (fun V => Bk V (w.heap.size + 1 + 1 + 1) #[.int .i64 (t + 1), .slice aO q cO] 26 ∧ Fresh w.heap.size V (.slice aO q cO) (predM id gx gy X Y es) ∧ Below w.heap.size w V) HX.out ?_
          clear HX p0 p1 l19 q0 q1 f0 f1 lt
          rintro V4' ⟨BV, hFR, hbV⟩
          have y0 := BV.cell (v := .int .i64 (t + 1)) 0 rfl
          have y1 := BV.cell (v := .slice aO q cO) 1 rfl
          exact bodyPost_ret (v := .tuple #[Wv (t + 1) aO q cO, .int .i64 0]) (by simp [results, Tryz.results14, go_sem, y0, y1]; try rfl) rfl ⟨aO, q, cO, rfl, hFR, hbV⟩
end Go.Proofs.YtlcjkomfjgddeaaGreatDoor
