/- InterpMoves: the walk. -/
import Derived.Test.YtjjodmkblpdnhaaDoorMoves1
import Derived.Test.YtjjodmkblpdnhaaDoorMinMax
set_option linter.unusedVariables false
set_option linter.unusedSimpArgs false
namespace Go.Proofs.YtjjodmkblpdnhaaDoor
open Go Go.RowKit Go.Sort
set_option maxRecDepth 100000
attribute [local go_sem] opLow opUpon opLow2 opUpon2 opLow3

theorem fits_kind {x : Cmp} (h : fits x = true) : 1 ≤ x.k ∧ x.k ≤ 10 := by
  unfold fits at h
  simp only [Bool.and_eq_true, decide_eq_true_eq] at h
  omega
def Lat (W0 w : World) : Prop := Below W0.heap.size W0 w
theorem Lat.below {W0 w w' : World} (h : Lat W0 w) (hb : Below w.heap.size w w') : Lat W0 w' := (below_c hb h).1
def aPart (id : Int) (PL : List Cmp) : Array Value → Value → World → World → Prop := fun _ v w1 w2 => ∃ a n c, v = .agg #[.int .i64 id, .slice a n c] ∧ CompsAt w2 (.slice a n c) PL
set_option maxHeartbeats 16000000 in
theorem moves_any (l : List Int) (a : Option Addr) (n c : Nat) (wh s t : Int) (hwh : 0 ≤ wh ∧ wh ≤ 255) (hs0 : 0 ≤ s ∧ s ≤ 65535) (ht0 : 0 ≤ t ∧ t ≤ 65535) (w : World) (hR : RG w) (h : NumsAt w (.slice a n c) l) :
    Calls Tryd.prog 7 #[.slice a n c, .int .u8 wh, .int .u16 s, .int .u16 t] w fun e w' => e = .returned (.bool true) ∧ Below w.heap.size w w' := by
  have hVH := built_valid (nums_nat h)
  have hsmall : ∀ x ∈ built l (bnum l), x.t ≤ 200 := fun x hx => by
    obtain ⟨i, hi⟩ := List.mem_iff_getElem?.1 hx
    obtain ⟨h1, rfl⟩ := built_get hi
    have h2 := btick_bd (nums_nat h) (i + 1)
    have h3 := bnum_le l
    show btick l (i + 1) ≤ 200
    omega
  have hlen : (built l (bnum l)).length ≤ 12 := by rw [built_len]; exact bnum_le l
  obtain ⟨H, hH⟩ : ∃ H, built l (bnum l) = H := ⟨_, rfl⟩
  have HX := Lib.hid hH
  rw [hH] at hVH hsmall hlen
  obtain ⟨wh0, wh1⟩ := hwh
  obtain ⟨s0, s1⟩ := hs0
  obtain ⟨t0, t1⟩ := ht0
  have v0 : IntKind.i64.wrap wh = wh := by rw [IntKind.wrap_i64]; omega
  have v1 : IntKind.i64.wrap s = s := by rw [IntKind.wrap_i64]; omega
  have v2 : IntKind.i64.wrap t = t := by rw [IntKind.wrap_i64]; omega
  have HV := Lib.hid (And.intro hVH hsmall)
  clear hH hVH hsmall
  go_enter Tryd.func7, Tryd.ntmps7
  go_wp2_with fail
  refine Calls.mono (built_any l a n c _ (by first | exact h | exact h.below (by go_grown))) ?_
  rw [HX.out]
  rintro e W1 ⟨ha, hn, hc, sh, rfl, hF, hb1⟩
  have hH := hF.hist
  obtain ⟨hgg, hs1⟩ := below_c (w := w) hb1 (by go_grown)
  clear hF hb1 h
  have hln := hH.len
  have HL := Lib.hid hln
  have hn12 : hn ≤ 12 := by omega
  clear hln hlen
  have hd := (Below.refl W1.heap.size W1).alloc (Nat.le_refl _) (.cells #[.slice ha hn hc] 23)
  replace hH := hH.below hd
  obtain ⟨hgg, hs1⟩ := below_c (w := w) hd hgg
  have B9 : Bk (W1.alloc (.cells #[.slice ha hn hc] 23)) W1.heap.size #[.slice ha hn hc] 23 := Bk.made _ _ _
  clear hd
  go_wp2_with fail
  refine Calls.mono (validH_any H _ _ _ _ hH (hR.below hgg)) ?_
  rw [decide_eq_true HV.out.1]
  rintro e W2 ⟨rfl, hb⟩
  replace hH := hH.below hb
  replace B9 := B9.below hb
  obtain ⟨hgg2, hs2⟩ := below_c (w := w) hb hgg
  clear hb hgg hs1
  have hgg := hgg2
  have hs1 := hs2
  clear hgg2 hs2
  have c9 := B9.cell (v := .slice ha hn hc) 0 rfl
  by_cases h2 : hn < 2
  · have h2' : (hn : Int) < 2 := by omega
    go_wp2_with fail
    refine Calls.mono (awake_any _ (hR.below hgg)) ?_
    rintro e W9 ⟨rfl, hb⟩
    obtain ⟨hgg, hs⟩ := below_c (w := w) hb hgg
    clear hb
    go_wp2
    go_returns
    exact ⟨rfl, hgg⟩
  · obtain ⟨m, rfl⟩ : ∃ m, hn = m + 2 := ⟨hn - 2, by omega⟩
    obtain ⟨k, hk⟩ : ∃ k : Nat, wh % ((m : Int) + 2 - 1) = k := ⟨(wh % ((m : Int) + 2 - 1)).toNat, by have := Int.emod_nonneg wh (show (m : Int) + 2 - 1 ≠ 0 by omega); omega⟩
    have hkm : k < m + 1 := by have := Int.emod_lt_of_pos wh (show 0 < (m : Int) + 2 - 1 by omega); omega
    have tm : Int.tmod wh ((m : Int) + 2 - 1) = k := by rw [Int.tmod_eq_emod_of_nonneg wh0]; exact hk
    obtain ⟨A, hA⟩ := at_lt (l := H) (i := k) (by rw [← HL.out]; omega)
    obtain ⟨B, hB⟩ := at_lt (l := H) (i := k + 1) (by rw [← HL.out]; omega)
    have hmA : A ∈ H := List.mem_iff_getElem?.2 ⟨_, hA⟩
    have hmB : B ∈ H := List.mem_iff_getElem?.2 ⟨_, hB⟩
    have VA := HV.out.1.1.1 A hmA
    have VB := HV.out.1.1.1 B hmB
    have hAB := tick_lt HV.out.1.1.2 (Nat.lt_succ_self k) hA hB
    have ta0 := VA.1.1
    have tb0 := VB.1.1
    have ta1 := HV.out.2 A hmA
    have tb1 := HV.out.2 B hmB
    have SP := fun (q : Int) (hq : 0 ≤ q ∧ q ≤ 16 * (B.t - A.t)) => shown_parts HV.out.1 hA hB hq
    have HSP := Lib.hid (And.intro SP (And.intro VA VB))
    obtain ⟨b, off, rfl, pA⟩ := same_at hH hA
    obtain ⟨b', off', he, pB⟩ := same_at hH hB
    cases he
    obtain ⟨x0, aa, an, ac, x1, EA⟩ := pA
    obtain ⟨y0, ba, bn, bc, y1, EB⟩ := pB
    clear hmA hmB SP hA hB h2 VA VB
    go_wp2_with fail
    have c9m := fun p : Mutd (fun _ : Nat => False) W2 => cell_mutd c9 (fun e => e) p
    have x0m := fun p : Mutd (fun _ : Nat => False) W2 => cell_mutd x0 (fun e => e) p
    have x1m := fun p : Mutd (fun _ : Nat => False) W2 => cell_mutd x1 (fun e => e) p
    have y0m := fun p : Mutd (fun _ : Nat => False) W2 => cell_mutd y0 (fun e => e) p
    have y1m := fun p : Mutd (fun _ : Nat => False) W2 => cell_mutd y1 (fun e => e) p
    have wk1 : IntKind.i64.wrap ((k : Int) + 1) = (k : Int) + 1 := by rw [IntKind.wrap_i64]; omega
    have lk0 : (k : Int) < (m : Int) + 2 := by omega
    have lk1 : (k : Int) + 1 < (m : Int) + 2 := by omega
    have lk2 : (0 : Int) ≤ k := by omega
    have lk3 : (0 : Int) ≤ (k : Int) + 1 := by omega
    have lk4 : k < m + 2 := by omega
    have lk5 : k + 1 < m + 2 := by omega
    refine wp_region_low3 noPosts (fun _ : Nat => False) [] (sto1 9 11) 12 (by kernel_rfl) (fun b hb => hb.elim) (sto1_inj 9 11) (by kernel_rfl) ?_
    simp only [List.take, List.drop]
    iterate 9 (refine low3_step (sto1_no (by decide)) (fun K hK => ?_); go_simp; first | (refine hK _ ?_; clear hK K) | (apply Exists.intro; refine ⟨fun p => ?_, hK _ ?_⟩; clear hK K))
    refine low3_new (.cells #[.int .i64 0, .slice none 0 0] 27) (sto1_no (by decide)) (by rfl) (fun w => by go_simp; try rfl) ?_
    intro g
    refine low3_new (.cells #[.int .i64 0, .slice none 0 0] 27) (sto1_no (by decide)) (by rfl) (fun w => by go_simp; try rfl) ?_
    intro h
    refine low3_sto 9 g #[.int .i64 0, .slice none 0 0] #[.int .i64 A.t, .slice aa an ac] 27 rfl (by rfl) ⟨⟨9, .data⟩, by simp, rfl, rfl⟩ rfl (fun w B => by
        have lt := B.lt
        have c_0 := B.cell (v := .int .i64 0) 0 rfl
        have c_1 := B.cell (v := .slice none 0 0) 1 rfl
        have f_0 := B.free 0
        have f_1 := B.free 1
        go_simp
        show (w.setCell ⟨g, 0, none⟩ (.int .i64 A.t)).setCell ⟨g, 1, none⟩ (.slice aa an ac) = putObj w g (.cells #[.int .i64 A.t, .slice aa an ac] 27)
        rw [setCell_put B, setCell_put (putObj_heap B), putObj_twice]; rfl) ?_
    refine low3_nil ?_
    intro W3 hC
    obtain ⟨zg, B11⟩ : _ ∧ Bk W3 g #[.int .i64 A.t, .slice aa an ac] 27 := hC.made 9 g _ rfl
    obtain ⟨zh, B12z⟩ : _ ∧ Bk W3 h #[.int .i64 0, .slice none 0 0] 27 := hC.made 10 h _ rfl
    have hgh : g ≠ h := fun e => by subst e; exact absurd (hC.apart 9 10 _ _ _ rfl rfl) (by decide)
    have hfr := hC.fr.below (Nat.le_refl _) (fun _ _ e => e)
    have HB9 := Lib.hid (And.intro B9 (And.intro hH (And.intro EA EB)))
    have HG2 := Lib.hid hgg
    have hb3 := hfr
    obtain ⟨hgg, hs1⟩ := below_c (w := w) hfr hgg
    clear hC hfr c9m x0m x1m y0m y1m c9 x0 x1 y0 y1 B9 hH EA EB
    have ltg := B11.lt
    have lth := B12z.lt
    have d0 := B11.cell (v := .int .i64 A.t) 0 rfl
    have d1 := B11.cell (v := .slice aa an ac) 1 rfl
    have z0 := B12z.cell (v := .int .i64 0) 0 rfl
    have z1 := B12z.cell (v := .slice none 0 0) 1 rfl
    have f0 := B12z.free 0
    have f1 := B12z.free 1
    have hhg : h ≠ g := fun e => hgh e.symm
    have hSB := Below.setCell (p := ⟨h, 0, none⟩) (Below.refl W2.heap.size W3) zh (.int .i64 B.t)
    have hSB2 := Below.setCell (p := ⟨h, 1, none⟩) hSB zh (.slice ba bn bc)
    have hOLD := Lib.hid (hb3.trans hSB2)
    have hs9 := HB9.out.1.lt
    clear hSB hSB2
    go_wp2_with fail
    obtain ⟨D, hD⟩ : ∃ D, 16 * (B.t - A.t) = D := ⟨_, rfl⟩
    have HD := Lib.hid hD
    have hD0 : 16 ≤ D ∧ D ≤ 3200 := by omega
    obtain ⟨hD0, hD1⟩ := hD0
    rw [hD]
    clear hD
    refine wp_name (fun V => Bk V g #[.int .i64 A.t, .slice aa an ac] 27 ∧ Bk V h #[.int .i64 B.t, .slice ba bn bc] 27 ∧ Bk V W1.heap.size #[.slice (some ⟨b, off, none⟩) (m + 2) hc] 23 ∧ HistAt V (.slice (some ⟨b, off, none⟩) (m + 2) hc) H ∧ EntsAt V (.slice aa an ac) A.es ∧ EntsAt V (.slice ba bn bc) B.es ∧ Below w.heap.size w V)
      ⟨(B11.far (p := ⟨h, 0, none⟩) hgh _).far (p := ⟨h, 1, none⟩) hgh _, (B12z.put 0 _).put 1 _, HB9.out.1.below hOLD.out, HB9.out.2.1.below hOLD.out, HB9.out.2.2.1.below hOLD.out, HB9.out.2.2.2.below hOLD.out, (below_c (w := w) hOLD.out HG2.out).1⟩ ?_
    clear d0 d1 z0 z1 f0 f1 ltg lth hOLD HB9 HG2 hb3 B11 B12z hgg hs1 hs9
    rintro V ⟨B11, B12, B9, hH, EA, EB, hgg⟩
    obtain ⟨e0, he0⟩ : ∃ z, s % (D + 1) = z := ⟨_, rfl⟩
    obtain ⟨l0, hl0⟩ : ∃ z, t % (D + 1) = z := ⟨_, rfl⟩
    have eb : 0 ≤ e0 ∧ e0 ≤ D := by have := Int.emod_nonneg s (show D + 1 ≠ 0 by omega); have := Int.emod_lt_of_pos s (show 0 < D + 1 by omega); omega
    have lb : 0 ≤ l0 ∧ l0 ≤ D := by have := Int.emod_nonneg t (show D + 1 ≠ 0 by omega); have := Int.emod_lt_of_pos t (show 0 < D + 1 by omega); omega
    have te : Int.tmod s (D + 1) = e0 := by rw [Int.tmod_eq_emod_of_nonneg s0]; exact he0
    have tl : Int.tmod t (D + 1) = l0 := by rw [Int.tmod_eq_emod_of_nonneg t0]; exact hl0
    have wd : IntKind.i64.wrap (D + 1) = D + 1 := by rw [IntKind.wrap_i64]; omega
    have we : IntKind.i64.wrap e0 = e0 := by rw [IntKind.wrap_i64]; omega
    have wl : IntKind.i64.wrap l0 = l0 := by rw [IntKind.wrap_i64]; omega
    have dz : (D + 1 == 0) = false := by simp; omega
    have dz2 : D + 1 ≠ 0 := by omega
    refine wp_region_low 11 (by kernel_rfl) (by kernel_rfl) ?_
    simp only [List.take, List.drop]
    iterate 11 (refine low_step (fun K hK => ?_); go_simp; first | (refine hK _ ?_; clear hK K) | (apply Exists.intro; refine ⟨fun p => ?_, hK _ ?_⟩; clear hK K))
    refine low_nil ?_
    intro W4 hC
    have hb := hC.1
    replace B11 := B11.below hb
    replace B12 := B12.below hb
    replace B9 := B9.below hb
    replace hH := hH.below hb
    replace EA := EA.below hb
    replace EB := EB.below hb
    obtain ⟨hgg, hs⟩ := below_c (w := w) hb hgg
    clear hb
    clear hC dz dz2 wd we wl te tl he0 hl0
    obtain ⟨eb0, eb1⟩ := eb
    obtain ⟨lb0, lb1⟩ := lb
    go_wp2_with (first | refine wpList_min2 _ rfl _ _ _ rfl _ _ _ rfl rfl ?_ | refine wpList_max2 _ rfl _ _ _ rfl _ _ _ rfl rfl ?_)
    obtain ⟨el, hel⟩ : ∃ z, min e0 l0 = z := ⟨_, rfl⟩
    obtain ⟨la, hla⟩ : ∃ z, max e0 l0 = z := ⟨_, rfl⟩
    have hb1 : (0 ≤ el ∧ el ≤ la) ∧ la ≤ D := by omega
    obtain ⟨⟨el0, ela⟩, laD⟩ := hb1
    rw [hel]
    clear hel
    have SP2 := HSP.out.1
    rw [HD.out] at SP2
    obtain ⟨X, hX⟩ : ∃ X, betw A B el D = X := ⟨_, rfl⟩
    obtain ⟨Y, hY⟩ : ∃ Y, betw A B la D = Y := ⟨_, rfl⟩
    have hSX := SP2 el ⟨el0, by omega⟩
    have hSY := SP2 la ⟨by omega, laD⟩
    have hSA := SP2 0 ⟨by omega, by omega⟩
    have hSB := SP2 D ⟨by omega, by omega⟩
    rw [hX] at hSX
    rw [hY] at hSY
    rw [betw_zero HSP.out.2.1 HSP.out.2.2 (by omega)] at hSA
    rw [show betw A B D D = B by unfold betw; rw [if_pos rfl]] at hSB
    have HXY := Lib.hid (And.intro hX hY)
    have SX := Lib.hid hSX
    have SY := Lib.hid hSY
    have SA := Lib.hid hSA
    have SB := Lib.hid hSB
    clear hX hY hSX hSY hSA hSB SP2 eb0 eb1 lb0 lb1
    refine Calls.mono (showc_any H el _ g _ _ _ A.t _ X _ (by omega) (by omega) (hR.below hgg) hH B9 B11 SX.out) ?_
    rintro e W5 ⟨xa, xn, xc, rfl, EX, hb⟩
    replace B11 := B11.below hb
    replace B12 := B12.below hb
    replace B9 := B9.below hb
    replace hH := hH.below hb
    replace EA := EA.below hb
    replace EB := EB.below hb
    obtain ⟨hgg, hs⟩ := below_c (w := w) hb hgg
    clear hb
    have hd := (Below.refl W5.heap.size W5).alloc (Nat.le_refl _) (.cells #[.int .i64 X.t, .slice xa xn xc] 27)
    replace B11 := B11.below hd
    replace B12 := B12.below hd
    replace B9 := B9.below hd
    replace hH := hH.below hd
    replace EA := EA.below hd
    replace EB := EB.below hd
    replace EX := EX.below hd
    obtain ⟨hgg, hs⟩ := below_c (w := w) hd hgg
    clear hd
    have BX : Bk (W5.alloc (.cells #[.int .i64 X.t, .slice xa xn xc] 27)) W5.heap.size #[.int .i64 X.t, .slice xa xn xc] 27 := Bk.made _ _ _
    go_wp2_with fail
    clear hla
    refine Calls.mono (showc_any H la _ g _ _ _ A.t _ Y _ (by omega) (by omega) (hR.below hgg) hH B9 B11 SY.out) ?_
    rintro e W6 ⟨ya, yn, yc, rfl, EY, hb⟩
    replace B11 := B11.below hb
    replace B12 := B12.below hb
    replace B9 := B9.below hb
    replace hH := hH.below hb
    replace EA := EA.below hb
    replace EB := EB.below hb
    replace EX := EX.below hb
    replace BX := BX.below hb
    obtain ⟨hgg, hs⟩ := below_c (w := w) hb hgg
    clear hb
    have hd := (Below.refl W6.heap.size W6).alloc (Nat.le_refl _) (.cells #[.int .i64 Y.t, .slice ya yn yc] 27)
    replace B11 := B11.below hd
    replace B12 := B12.below hd
    replace B9 := B9.below hd
    replace hH := hH.below hd
    replace EA := EA.below hd
    replace EB := EB.below hd
    replace EX := EX.below hd
    replace BX := BX.below hd
    replace EY := EY.below hd
    obtain ⟨hgg, hs⟩ := below_c (w := w) hd hgg
    clear hd
    have BY : Bk (W6.alloc (.cells #[.int .i64 Y.t, .slice ya yn yc] 27)) W6.heap.size #[.int .i64 Y.t, .slice ya yn yc] 27 := Bk.made _ _ _
    go_wp2_with fail
    refine Calls.mono (showc_any H 0 _ g _ _ _ A.t _ A _ (by omega) (by omega) (hR.below hgg) hH B9 B11 SA.out) ?_
    rintro e W7 ⟨pa, pn, pc, rfl, EP, hb⟩
    replace B11 := B11.below hb
    replace B12 := B12.below hb
    replace B9 := B9.below hb
    replace hH := hH.below hb
    replace EA := EA.below hb
    replace EB := EB.below hb
    replace EX := EX.below hb
    replace BX := BX.below hb
    replace EY := EY.below hb
    replace BY := BY.below hb
    obtain ⟨hgg, hs⟩ := below_c (w := w) hb hgg
    clear hb
    have hd := (Below.refl W7.heap.size W7).alloc (Nat.le_refl _) (.cells #[.int .i64 A.t, .slice pa pn pc] 27)
    replace B11 := B11.below hd
    replace B12 := B12.below hd
    replace B9 := B9.below hd
    replace hH := hH.below hd
    replace EA := EA.below hd
    replace EB := EB.below hd
    replace EX := EX.below hd
    replace BX := BX.below hd
    replace EY := EY.below hd
    replace BY := BY.below hd
    replace EP := EP.below hd
    obtain ⟨hgg, hs⟩ := below_c (w := w) hd hgg
    clear hd
    have BP : Bk (W7.alloc (.cells #[.int .i64 A.t, .slice pa pn pc] 27)) W7.heap.size #[.int .i64 A.t, .slice pa pn pc] 27 := Bk.made _ _ _
    go_wp2_with fail
    refine Calls.mono (showc_any H D _ g _ _ _ A.t _ B _ (by omega) (by omega) (hR.below hgg) hH B9 B11 SB.out) ?_
    rintro e W8 ⟨qa, qn, qc, rfl, EQ, hb⟩
    replace B11 := B11.below hb
    replace B12 := B12.below hb
    replace B9 := B9.below hb
    replace hH := hH.below hb
    replace EA := EA.below hb
    replace EB := EB.below hb
    replace EX := EX.below hb
    replace BX := BX.below hb
    replace EY := EY.below hb
    replace BY := BY.below hb
    replace EP := EP.below hb
    replace BP := BP.below hb
    obtain ⟨hgg, hs⟩ := below_c (w := w) hb hgg
    clear hb
    have hd := (Below.refl W8.heap.size W8).alloc (Nat.le_refl _) (.cells #[.int .i64 B.t, .slice qa qn qc] 27)
    replace B11 := B11.below hd
    replace B12 := B12.below hd
    replace B9 := B9.below hd
    replace hH := hH.below hd
    replace EA := EA.below hd
    replace EB := EB.below hd
    replace EX := EX.below hd
    replace BX := BX.below hd
    replace EY := EY.below hd
    replace BY := BY.below hd
    replace EP := EP.below hd
    replace BP := BP.below hd
    replace EQ := EQ.below hd
    obtain ⟨hgg, hs⟩ := below_c (w := w) hd hgg
    clear hd
    have BQ : Bk (W8.alloc (.cells #[.int .i64 B.t, .slice qa qn qc] 27)) W8.heap.size #[.int .i64 B.t, .slice qa qn qc] 27 := Bk.made _ _ _
    have p10 := B11.cell (v := .int .i64 A.t) 0 rfl
    have p11 := B11.cell (v := .slice aa an ac) 1 rfl
    have p20 := B12.cell (v := .int .i64 B.t) 0 rfl
    have p21 := B12.cell (v := .slice ba bn bc) 1 rfl
    have p30 := BP.cell (v := .int .i64 A.t) 0 rfl
    have p31 := BP.cell (v := .slice pa pn pc) 1 rfl
    have p40 := BQ.cell (v := .int .i64 B.t) 0 rfl
    have p41 := BQ.cell (v := .slice qa qn qc) 1 rfl
    go_wp2_with fail
    refine Calls.mono (same_any A.t A.es _ _ _ _ _ _ _ EP EA) ?_
    rintro e W9 ⟨rfl, hb⟩
    clear p10 p11 p20 p21 p30 p31 p40 p41
    replace B11 := B11.below hb
    replace B12 := B12.below hb
    replace B9 := B9.below hb
    replace hH := hH.below hb
    replace EA := EA.below hb
    replace EB := EB.below hb
    replace EX := EX.below hb
    replace BX := BX.below hb
    replace EY := EY.below hb
    replace BY := BY.below hb
    replace EP := EP.below hb
    replace BP := BP.below hb
    replace EQ := EQ.below hb
    replace BQ := BQ.below hb
    obtain ⟨hgg, hs⟩ := below_c (w := w) hb hgg
    clear hb
    have p10 := B11.cell (v := .int .i64 A.t) 0 rfl
    have p11 := B11.cell (v := .slice aa an ac) 1 rfl
    have p20 := B12.cell (v := .int .i64 B.t) 0 rfl
    have p21 := B12.cell (v := .slice ba bn bc) 1 rfl
    have p40 := BQ.cell (v := .int .i64 B.t) 0 rfl
    have p41 := BQ.cell (v := .slice qa qn qc) 1 rfl
    go_wp2_with fail
    refine Calls.mono (same_any B.t B.es _ _ _ _ _ _ _ EQ EB) ?_
    rintro e W10 ⟨rfl, hb⟩
    clear p10 p11 p20 p21 p40 p41
    replace B11 := B11.below hb
    replace B12 := B12.below hb
    replace B9 := B9.below hb
    replace hH := hH.below hb
    replace EA := EA.below hb
    replace EB := EB.below hb
    replace EX := EX.below hb
    replace BX := BX.below hb
    replace EY := EY.below hb
    replace BY := BY.below hb
    replace EP := EP.below hb
    replace BP := BP.below hb
    replace EQ := EQ.below hb
    replace BQ := BQ.below hb
    obtain ⟨hgg, hs⟩ := below_c (w := w) hb hgg
    clear hb
    clear EP BP EQ BQ hH B9
    have p10 := B11.cell (v := .int .i64 A.t) 0 rfl
    have p50 := BX.cell (v := .int .i64 X.t) 0 rfl
    have p51 := BX.cell (v := .slice xa xn xc) 1 rfl
    have VX : Valid X := by rw [← HXY.out.1]; exact betw_valid HSP.out.2.1 HSP.out.2.2 ⟨el0, by omega⟩ (by omega)
    have VY : Valid Y := by rw [← HXY.out.2]; exact betw_valid HSP.out.2.1 HSP.out.2.2 ⟨by omega, laD⟩ (by omega)
    have HVX := Lib.hid (And.intro VX VY)
    go_wp2_with fail
    refine Calls.mono (valid_any X _ _ _ _ (hR.below hgg) EX) ?_
    rw [decide_eq_true VX]
    clear VX VY
    rintro e W11 ⟨rfl, hb⟩
    clear p10 p50 p51
    replace B11 := B11.below hb
    replace B12 := B12.below hb
    replace EA := EA.below hb
    replace EB := EB.below hb
    replace EX := EX.below hb
    replace BX := BX.below hb
    replace EY := EY.below hb
    replace BY := BY.below hb
    obtain ⟨hgg, hs⟩ := below_c (w := w) hb hgg
    clear hb
    have p10 := B11.cell (v := .int .i64 A.t) 0 rfl
    have p11 := B11.cell (v := .slice aa an ac) 1 rfl
    have p50 := BX.cell (v := .int .i64 X.t) 0 rfl
    have p51 := BX.cell (v := .slice xa xn xc) 1 rfl
    obtain ⟨u, hu⟩ : ∃ u, el / 16 = u := ⟨_, rfl⟩
    have hXt : X.t = A.t + u := by
      rw [← HXY.out.1, ← hu]
      unfold betw
      split
      · rename_i he
        show B.t = A.t + el / 16
        rw [he]
        have := HD.out
        omega
      · show mvI A.t B.t el D = _
        rw [← HD.out]
        exact mv_tick ⟨ta0, by omega⟩ ⟨tb0, by omega⟩ hAB ⟨el0, by have := HD.out; omega⟩
    have hq1 : Int.tdiv el 16 = u := by rw [Int.tdiv_eq_ediv_of_nonneg el0]; exact hu
    have hu0 : 0 ≤ u ∧ u ≤ 200 := by omega
    obtain ⟨hu0, hu1⟩ := hu0
    have HXT := Lib.hid hXt
    rw [hXt] at p50 BX
    clear hXt
    have heq : ¬ (A.t + u ≠ A.t + u) := fun h => h rfl
    clear heq
    by_cases hend : el = D ∨ la = D
    · have hla : la = D := by omega
      clear hend
      by_cases hel : el = D
      · go_wp2_with fail
        refine Calls.mono (awake_any _ (hR.below hgg)) ?_
        rintro e W12 ⟨rfl, hb⟩
        obtain ⟨hgg, hs⟩ := below_c (w := w) hb hgg
        clear hb
        go_wp2
        go_returns
        exact ⟨rfl, hgg⟩
      · have hel' : (el == D) = false := by simpa using hel
        go_wp2_with fail
        refine Calls.mono (awake_any _ (hR.below hgg)) ?_
        rintro e W12 ⟨rfl, hb⟩
        obtain ⟨hgg, hs⟩ := below_c (w := w) hb hgg
        clear hb
        go_wp2
        go_returns
        exact ⟨rfl, hgg⟩
    · have hel' : (el == D) = false := by simp; omega
      have hla' : (la == D) = false := by simp; omega
      have hlaD : la < D := by omega
      have hxn : xn = an := by
        have h1 := EX.len
        have h2 := EA.len
        rw [h1, h2, ← HXY.out.1]
        unfold betw
        rw [if_neg (by omega), List.length_map]
      have HLA := Lib.hid EA.len
      have HXN := Lib.hid hxn
      subst hxn
      clear hend
      go_wp2_with fail
      clear p10 p11 p50 p51 hq1 hu
      go_loopw [166] (fun v166 wr => ∃ j : Nat, j ≤ xn ∧ v166 = .int .i64 j ∧ Bk wr g #[.int .i64 A.t, .slice aa xn ac] 27 ∧ Bk wr h #[.int .i64 B.t, .slice ba bn bc] 27 ∧ Bk wr W5.heap.size #[.int .i64 (A.t + u), .slice xa xn xc] 27 ∧ Bk wr W6.heap.size #[.int .i64 Y.t, .slice ya yn yc] 27 ∧ EntsAt wr (.slice aa xn ac) A.es ∧ EntsAt wr (.slice ba bn bc) B.es ∧ EntsAt wr (.slice xa xn xc) X.es ∧ EntsAt wr (.slice ya yn yc) Y.es ∧ Below w.heap.size w wr) (fun v166 _ => xn - (intOf v166).toNat)
      case atStart => exact ⟨0, by omega, rfl, B11, B12, BX, BY, EA, EB, EX, EY, hgg⟩
      case round =>
        clear B11 B12 BX BY EA EB EX EY hgg hs
        obtain ⟨j, hj, rfl, B11, B12, BX, BY, EA, EB, EX, EY, hgg⟩ := hrel
        by_cases hlt : j < xn
        · obtain ⟨q, hq⟩ := at_lt (l := A.es) (i := j) (by rw [← HLA.out]; exact hlt)
          have hp := (get_betw HSP.out.2.1 HSP.out.2.2 (n := el) (d := D) ⟨el0, by omega⟩ hq).1
          rw [HXY.out.1] at hp
          have h4 := four HSP.out.2.1 HSP.out.2.2 el0 ela hlaD hq
          rw [HXY.out.1, HXY.out.2] at h4
          have hx64 : xn ≤ 64 := by rw [HLA.out]; exact HSP.out.2.1.2.1
          have HGG := Lib.hid hgg
          have HJL := Lib.hid hlt
          clear hgg
          obtain ⟨b1, o1, rfl, pq⟩ := same_at EA hq
          obtain ⟨b2, o2, rfl, pp⟩ := same_at EX hp
          obtain ⟨q0, qa, qn, qc, q1, EQ⟩ := pq
          obtain ⟨p0, pa, pn, pc, p1, EP⟩ := pp
          change _ = some (Value.int IntKind.i64 q.id) at p0
          change CompsAt _ _ (q.cs.map (movC el D (toCs B q.id))) at EP
          have hfq : ∀ x ∈ q.cs, fits x = true := (HSP.out.2.1.2.2.2 q (List.mem_iff_getElem?.2 ⟨_, hq⟩)).2.2
          have hkq : ∀ x ∈ q.cs, 1 ≤ x.k ∧ x.k ≤ 10 := fun x hx => fits_kind (hfq x hx)
          have hkp : ∀ x ∈ q.cs.map (movC el D (toCs B q.id)), 1 ≤ x.k ∧ x.k ≤ 10 := fun x hx => by
            obtain ⟨y, hy, rfl⟩ := List.mem_map.1 hx
            rw [movC_k]; exact hkq y hy
          have HK := Lib.hid (And.intro hkq (And.intro hkp (part_same el D (toCs B q.id) q.cs)))
          obtain ⟨has, had, fx, fy, tx, ty, ox, oy, ux, uy, r1, r2, r3, r4, hbt⟩ := h4
          have HR := Lib.hid (And.intro r1 (And.intro r2 (And.intro r3 r4)))
          have HBT := Lib.hid hbt
          obtain ⟨pcs, hpcs⟩ : ∃ pcs, q.cs.map (movC el D (toCs B q.id)) = pcs := ⟨_, rfl⟩
          rw [hpcs] at EP HK
          clear r1 r2 r3 r4 hbt hq hp hfq hkq hkp hpcs
          have hgg := HGG.out
          have g0 := B11.cell (v := .slice (some ⟨b1, o1, none⟩) xn ac) 1 rfl
          have g1 := B11.cell (v := .int .i64 A.t) 0 rfl
          have ei : (j : Int) < xn := by omega
          have ei0 : (0 : Int) ≤ j := by omega
          have hs := hgg.size
          have ltg := B11.lt
          have lth := B12.lt
          have ltx := BX.lt
          have lty := BY.lt
          have lb1 := World.block_lt_of_cell? wr _ q0
          have lb2 := World.block_lt_of_cell? wr _ p0
          go_wp2_with fail
          have hd := (Below.refl wr.heap.size wr).alloc (Nat.le_refl _) (.cells #[.int .i64 q.id, .slice pa pn pc] 47)
          replace B11 := B11.below hd
          replace B12 := B12.below hd
          replace BX := BX.below hd
          replace BY := BY.below hd
          replace EA := EA.below hd
          replace EB := EB.below hd
          replace EX := EX.below hd
          replace EY := EY.below hd
          replace EP := EP.below hd
          replace EQ := EQ.below hd
          obtain ⟨hgg, hs⟩ := below_c (w := w) hd hgg
          clear hd
          have D26 : Bk (wr.alloc (.cells #[.int .i64 q.id, .slice pa pn pc] 47)) wr.heap.size #[.int .i64 q.id, .slice pa pn pc] 47 := Bk.made _ _ _
          have hd := (Below.refl (wr.alloc (.cells #[.int .i64 q.id, .slice pa pn pc] 47)).heap.size (wr.alloc (.cells #[.int .i64 q.id, .slice pa pn pc] 47))).alloc (Nat.le_refl _) (.cells #[.int .i64 q.id, .slice qa qn qc] 47)
          replace B11 := B11.below hd
          replace B12 := B12.below hd
          replace BX := BX.below hd
          replace BY := BY.below hd
          replace EA := EA.below hd
          replace EB := EB.below hd
          replace EX := EX.below hd
          replace EY := EY.below hd
          replace EP := EP.below hd
          replace EQ := EQ.below hd
          replace D26 := D26.below hd
          obtain ⟨hgg, hs⟩ := below_c (w := w) hd hgg
          clear hd
          have D27 : Bk ((wr.alloc (.cells #[.int .i64 q.id, .slice pa pn pc] 47)).alloc (.cells #[.int .i64 q.id, .slice qa qn qc] 47)) (wr.heap.size + 1) #[.int .i64 q.id, .slice qa qn qc] 47 := Bk.at_ (by simp)
          clear g0 g1 ltg lth ltx lty lb1 lb2 p0 p1 q0 q1
          refine Calls.mono (pos_any A _ _ _ q.id _ (hR.below hgg) EA HSP.out.2.1) ?_
          rw [HR.out.1]
          rintro e W12 ⟨rfl, hb⟩
          replace B11 := B11.below hb
          replace B12 := B12.below hb
          replace BX := BX.below hb
          replace BY := BY.below hb
          replace EA := EA.below hb
          replace EB := EB.below hb
          replace EX := EX.below hb
          replace EY := EY.below hb
          replace EP := EP.below hb
          replace EQ := EQ.below hb
          replace D26 := D26.below hb
          replace D27 := D27.below hb
          obtain ⟨hgg, hs⟩ := below_c (w := w) hb hgg
          clear hb
          have hd := (Below.refl W12.heap.size W12).alloc (Nat.le_refl _) (.cells #[.int .i64 fx, .int .i64 fy] 54)
          replace B11 := B11.below hd
          replace B12 := B12.below hd
          replace BX := BX.below hd
          replace BY := BY.below hd
          replace EA := EA.below hd
          replace EB := EB.below hd
          replace EX := EX.below hd
          replace EY := EY.below hd
          replace EP := EP.below hd
          replace EQ := EQ.below hd
          replace D26 := D26.below hd
          replace D27 := D27.below hd
          obtain ⟨hgg, hs⟩ := below_c (w := w) hd hgg
          clear hd
          have D28 : Bk (W12.alloc (.cells #[.int .i64 fx, .int .i64 fy] 54)) W12.heap.size #[.int .i64 fx, .int .i64 fy] 54 := Bk.made _ _ _
          have g10 := B11.cell (v := .int .i64 A.t) 0 rfl
          have g11 := B11.cell (v := .slice (some ⟨b1, o1, none⟩) xn ac) 1 rfl
          have g20 := B12.cell (v := .int .i64 B.t) 0 rfl
          have g21 := B12.cell (v := .slice ba bn bc) 1 rfl
          have g30 := BX.cell (v := .int .i64 (A.t + u)) 0 rfl
          have g31 := BX.cell (v := .slice (some ⟨b2, o2, none⟩) xn xc) 1 rfl
          have g40 := BY.cell (v := .int .i64 Y.t) 0 rfl
          have g41 := BY.cell (v := .slice ya yn yc) 1 rfl
          have g60 := D26.cell (v := .int .i64 q.id) 0 rfl
          have g70 := D27.cell (v := .int .i64 q.id) 0 rfl
          go_wp2_with fail
          refine Calls.mono (pos_any B _ _ _ q.id _ (hR.below hgg) EB HSP.out.2.2) ?_
          rw [HR.out.2.1]
          rintro e W13 ⟨rfl, hb⟩
          clear g10 g11 g20 g21 g30 g31 g40 g41 g60 g70
          replace B11 := B11.below hb
          replace B12 := B12.below hb
          replace BX := BX.below hb
          replace BY := BY.below hb
          replace EA := EA.below hb
          replace EB := EB.below hb
          replace EX := EX.below hb
          replace EY := EY.below hb
          replace EP := EP.below hb
          replace EQ := EQ.below hb
          replace D26 := D26.below hb
          replace D27 := D27.below hb
          replace D28 := D28.below hb
          obtain ⟨hgg, hs⟩ := below_c (w := w) hb hgg
          clear hb
          have n28 : W12.heap.size < W13.heap.size := D28.lt
          have O13 := Lib.hid (And.intro B11 (And.intro B12 (And.intro BX (And.intro BY (And.intro EA (And.intro EB (And.intro EX (And.intro EY hgg))))))))
          have L13 : Lat W13 (W13.alloc (.cells #[.int .i64 tx, .int .i64 ty] 54)) := (Below.refl W13.heap.size W13).alloc (Nat.le_refl _) (.cells #[.int .i64 tx, .int .i64 ty] 54)
          have hd := (Below.refl W13.heap.size W13).alloc (Nat.le_refl _) (.cells #[.int .i64 tx, .int .i64 ty] 54)
          replace B11 := B11.below hd
          replace B12 := B12.below hd
          replace BX := BX.below hd
          replace BY := BY.below hd
          replace EA := EA.below hd
          replace EB := EB.below hd
          replace EX := EX.below hd
          replace EY := EY.below hd
          replace EP := EP.below hd
          replace EQ := EQ.below hd
          replace D26 := D26.below hd
          replace D27 := D27.below hd
          replace D28 := D28.below hd
          obtain ⟨hgg, hs⟩ := below_c (w := w) hd hgg
          clear hd
          have D30 : Bk (W13.alloc (.cells #[.int .i64 tx, .int .i64 ty] 54)) W13.heap.size #[.int .i64 tx, .int .i64 ty] 54 := Bk.made _ _ _
          have g10 := B11.cell (v := .int .i64 A.t) 0 rfl
          have g11 := B11.cell (v := .slice (some ⟨b1, o1, none⟩) xn ac) 1 rfl
          have g20 := B12.cell (v := .int .i64 B.t) 0 rfl
          have g21 := B12.cell (v := .slice ba bn bc) 1 rfl
          have g30 := BX.cell (v := .int .i64 (A.t + u)) 0 rfl
          have g31 := BX.cell (v := .slice (some ⟨b2, o2, none⟩) xn xc) 1 rfl
          have g40 := BY.cell (v := .int .i64 Y.t) 0 rfl
          have g41 := BY.cell (v := .slice ya yn yc) 1 rfl
          have g60 := D26.cell (v := .int .i64 q.id) 0 rfl
          have g70 := D27.cell (v := .int .i64 q.id) 0 rfl
          go_wp2_with fail
          have hpx := pos_any X _ _ _ q.id _ (hR.below hgg) EX HVX.out.1
          rw [HXT.out] at hpx
          refine Calls.mono hpx ?_
          clear hpx
          rw [HR.out.2.2.1]
          rintro e W14 ⟨rfl, hb⟩
          clear g10 g11 g20 g21 g30 g31 g40 g41 g60 g70
          replace B11 := B11.below hb
          replace B12 := B12.below hb
          replace BX := BX.below hb
          replace BY := BY.below hb
          replace EA := EA.below hb
          replace EB := EB.below hb
          replace EX := EX.below hb
          replace EY := EY.below hb
          replace EP := EP.below hb
          replace EQ := EQ.below hb
          replace D26 := D26.below hb
          replace D27 := D27.below hb
          replace D28 := D28.below hb
          replace D30 := D30.below hb
          replace L13 := L13.below hb
          obtain ⟨hgg, hs⟩ := below_c (w := w) hb hgg
          clear hb
          have n32 : W13.heap.size < W14.heap.size := D30.lt
          have hd := (Below.refl W14.heap.size W14).alloc (Nat.le_refl _) (.cells #[.int .i64 ox, .int .i64 oy] 54)
          replace B11 := B11.below hd
          replace B12 := B12.below hd
          replace BX := BX.below hd
          replace BY := BY.below hd
          replace EA := EA.below hd
          replace EB := EB.below hd
          replace EX := EX.below hd
          replace EY := EY.below hd
          replace EP := EP.below hd
          replace EQ := EQ.below hd
          replace D26 := D26.below hd
          replace D27 := D27.below hd
          replace D28 := D28.below hd
          replace D30 := D30.below hd
          replace L13 := L13.below hd
          obtain ⟨hgg, hs⟩ := below_c (w := w) hd hgg
          clear hd
          have D32 : Bk (W14.alloc (.cells #[.int .i64 ox, .int .i64 oy] 54)) W14.heap.size #[.int .i64 ox, .int .i64 oy] 54 := Bk.made _ _ _
          have g10 := B11.cell (v := .int .i64 A.t) 0 rfl
          have g11 := B11.cell (v := .slice (some ⟨b1, o1, none⟩) xn ac) 1 rfl
          have g20 := B12.cell (v := .int .i64 B.t) 0 rfl
          have g21 := B12.cell (v := .slice ba bn bc) 1 rfl
          have g30 := BX.cell (v := .int .i64 (A.t + u)) 0 rfl
          have g31 := BX.cell (v := .slice (some ⟨b2, o2, none⟩) xn xc) 1 rfl
          have g40 := BY.cell (v := .int .i64 Y.t) 0 rfl
          have g41 := BY.cell (v := .slice ya yn yc) 1 rfl
          have g60 := D26.cell (v := .int .i64 q.id) 0 rfl
          have g70 := D27.cell (v := .int .i64 q.id) 0 rfl
          go_wp2_with fail
          refine Calls.mono (pos_any Y _ _ _ q.id _ (hR.below hgg) EY HVX.out.2) ?_
          rw [HR.out.2.2.2]
          rintro e W15 ⟨rfl, hb⟩
          clear g10 g11 g20 g21 g30 g31 g40 g41 g60 g70
          replace B11 := B11.below hb
          replace B12 := B12.below hb
          replace BX := BX.below hb
          replace BY := BY.below hb
          replace EA := EA.below hb
          replace EB := EB.below hb
          replace EX := EX.below hb
          replace EY := EY.below hb
          replace EP := EP.below hb
          replace EQ := EQ.below hb
          replace D26 := D26.below hb
          replace D27 := D27.below hb
          replace D28 := D28.below hb
          replace D30 := D30.below hb
          replace L13 := L13.below hb
          replace D32 := D32.below hb
          obtain ⟨hgg, hs⟩ := below_c (w := w) hb hgg
          clear hb
          have n34 : W13.heap.size < W15.heap.size := D30.lt
          have hd := (Below.refl W15.heap.size W15).alloc (Nat.le_refl _) (.cells #[.int .i64 ux, .int .i64 uy] 54)
          replace B11 := B11.below hd
          replace B12 := B12.below hd
          replace BX := BX.below hd
          replace BY := BY.below hd
          replace EA := EA.below hd
          replace EB := EB.below hd
          replace EX := EX.below hd
          replace EY := EY.below hd
          replace EP := EP.below hd
          replace EQ := EQ.below hd
          replace D26 := D26.below hd
          replace D27 := D27.below hd
          replace D28 := D28.below hd
          replace D30 := D30.below hd
          replace L13 := L13.below hd
          replace D32 := D32.below hd
          obtain ⟨hgg, hs⟩ := below_c (w := w) hd hgg
          clear hd
          have D34 : Bk (W15.alloc (.cells #[.int .i64 ux, .int .i64 uy] 54)) W15.heap.size #[.int .i64 ux, .int .i64 uy] 54 := Bk.made _ _ _
          go_wp2_with fail
          refine wp_name (fun V => Bk V g #[.int .i64 A.t, .slice (some ⟨b1, o1, none⟩) xn ac] 27 ∧ Bk V h #[.int .i64 B.t, .slice ba bn bc] 27 ∧ Bk V W5.heap.size #[.int .i64 (A.t + u), .slice (some ⟨b2, o2, none⟩) xn xc] 27 ∧ Bk V W6.heap.size #[.int .i64 Y.t, .slice ya yn yc] 27 ∧ EntsAt V (.slice (some ⟨b1, o1, none⟩) xn ac) A.es ∧ EntsAt V (.slice ba bn bc) B.es ∧ EntsAt V (.slice (some ⟨b2, o2, none⟩) xn xc) X.es ∧ EntsAt V (.slice ya yn yc) Y.es ∧ CompsAt V (.slice pa pn pc) pcs ∧ CompsAt V (.slice qa qn qc) q.cs ∧ Bk V wr.heap.size #[.int .i64 q.id, .slice pa pn pc] 47 ∧ Bk V (wr.heap.size + 1) #[.int .i64 q.id, .slice qa qn qc] 47 ∧ Bk V W12.heap.size #[.int .i64 fx, .int .i64 fy] 54 ∧ Bk V W13.heap.size #[.int .i64 tx, .int .i64 ty] 54 ∧ Lat W13 V ∧ Bk V W14.heap.size #[.int .i64 ox, .int .i64 oy] 54 ∧ Bk V W15.heap.size #[.int .i64 ux, .int .i64 uy] 54 ∧ Below w.heap.size w V) ⟨B11, B12, BX, BY, EA, EB, EX, EY, EP, EQ, D26, D27, D28, D30, L13, D32, D34, hgg⟩ ?_
          clear B11 B12 BX BY EA EB EX EY EP EQ D26 D27 D28 D30 L13 D32 D34 hgg hs
          rintro V ⟨B11, B12, BX, BY, EA, EB, EX, EY, EP, EQ, D26, D27, D28, D30, L13, D32, D34, hgg⟩
          have c60 := cell_regrown (D26.cell (v := .int .i64 q.id) 0 rfl)
          have c61 := cell_regrown (D26.cell (v := .slice pa pn pc) 1 rfl)
          have c70 := cell_regrown (D27.cell (v := .int .i64 q.id) 0 rfl)
          have c71 := cell_regrown (D27.cell (v := .slice qa qn qc) 1 rfl)
          have hbb : (has != has) = false := by cases has <;> rfl
          refine wp_region_low2 (post1 24 (aPart q.id (partL q.cs))) 22 (by kernel_rfl) (by kernel_rfl) ?_
          simp only [List.take, List.drop]
          iterate 17 (refine low2_step (fun K hK => ?_); go_simp; first | (refine hK _ ?_; clear hK K) | (apply Exists.intro; refine ⟨fun p => ?_, hK _ ?_⟩; clear hK K))
          refine low2_call 24 #[.agg #[.int .i64 q.id, .slice pa pn pc], .int .u32 2044] (aPart q.id (partL q.cs)) (by rfl) (fun w => by go_simp; try rfl) (post1_same _ _) (fun V1 hV _ => ?_) ?_
          · refine (part_any q.id pcs _ _ _ V1 (EP.below hV) HK.out.2.1).mono ?_
            rintro e V' ⟨o, on, oc, rfl, h1, h2⟩
            rw [HK.out.2.2] at h1
            exact ⟨_, rfl, ⟨o, on, oc, rfl, h1⟩, h2⟩
          rintro v1 ⟨_, _, ua, un, uc, rfl, -⟩
          iterate 1 (refine low2_step (fun K hK => ?_); go_simp; first | (refine hK _ ?_; clear hK K) | (apply Exists.intro; refine ⟨fun p => ?_, hK _ ?_⟩; clear hK K))
          refine low2_call 24 #[.agg #[.int .i64 q.id, .slice qa qn qc], .int .u32 2044] (aPart q.id (partL q.cs)) (by rfl) (fun w => by go_simp; try rfl) (post1_same _ _) (fun V1 hV _ => ?_) ?_
          · refine (part_any q.id q.cs _ _ _ V1 (EQ.below hV) HK.out.1).mono ?_
            rintro e V' ⟨o, on, oc, rfl, h1, h2⟩
            exact ⟨_, rfl, ⟨o, on, oc, rfl, h1⟩, h2⟩
          rintro v2 ⟨_, _, va, vn, vc, rfl, -⟩
          refine low2_reads 23 #[.agg #[.int .i64 q.id, .slice ua un uc], .agg #[.int .i64 q.id, .slice va vn vc]] (.bool true) (by rfl) (fun w => by go_simp; try rfl) (post1_other _ (by decide)) (by kernel_rfl) (fun V1 hV hG => ?_) ?_
          · obtain ⟨w1, w2, ⟨_, _, _, he1, hc1⟩, -, hu1⟩ := hG 17 _ ⟨{ on := 17, ground := Ground.data }, by simp, rfl, rfl⟩ rfl
            obtain ⟨w3, w4, ⟨_, _, _, he2, hc2⟩, -, hu2⟩ := hG 19 _ ⟨{ on := 19, ground := Ground.data }, by simp, rfl, rfl⟩ rfl
            cases he1
            cases he2
            exact sameE_any q.id (partL q.cs) _ _ _ _ _ _ V1 (hc1.below hu1) (hc2.below hu2)
          iterate 1 (refine low2_step (fun K hK => ?_); go_simp; first | (refine hK _ ?_; clear hK K) | (apply Exists.intro; refine ⟨fun p => ?_, hK _ ?_⟩; clear hK K))
          refine low2_nil ?_
          intro W16 hC
          have hb := hC.1
          clear c60 c61 c70 c71 hC
          replace B11 := B11.below hb
          replace B12 := B12.below hb
          replace BX := BX.below hb
          replace BY := BY.below hb
          replace EA := EA.below hb
          replace EB := EB.below hb
          replace EX := EX.below hb
          replace EY := EY.below hb
          replace EP := EP.below hb
          replace EQ := EQ.below hb
          replace D26 := D26.below hb
          replace D27 := D27.below hb
          replace D28 := D28.below hb
          replace D30 := D30.below hb
          replace L13 := L13.below hb
          replace D32 := D32.below hb
          replace D34 := D34.below hb
          obtain ⟨hgg, hs⟩ := below_c (w := w) hb hgg
          clear hb
          have FIN := Lib.hid (And.intro B11 (And.intro B12 (And.intro BX (And.intro BY (And.intro EA (And.intro EB (And.intro EX (And.intro EY hgg))))))))
          clear B11 B12 BX BY EA EB EX EY EP EQ D26 D27 hbb
          cases has
          · clear D28 D30 D32 D34 L13 hgg hs
            go_wp2_with fail
            go_roundw
            case rel =>
              have hjj : j + 1 ≤ xn := HJL.out
              exact ⟨j + 1, hjj, by go_num, FIN.out⟩
            case measure => have := HJL.out; simp [intOf]; omega
          · have hbt := HBT.out rfl
            cases had
            · simp only [Bool.false_eq_true, if_false] at hbt
              obtain ⟨t1, t2, t3, t4⟩ := hbt
              have HBW := Lib.hid (And.intro t1 (And.intro t2 (And.intro t3 t4)))
              clear t1 t2 t3 t4
              have e280 := D28.cell (v := .int .i64 fx) 0 rfl
              have e281 := D28.cell (v := .int .i64 fy) 1 rfl
              have e300 := D30.cell (v := .int .i64 tx) 0 rfl
              have e301 := D30.cell (v := .int .i64 ty) 1 rfl
              have fr0 := D30.free 0
              have fr1 := D30.free 1
              have lt30 := D30.lt
              have LL : Below W13.heap.size W13 ((W16.setCell ⟨W13.heap.size, 0, none⟩ (.int .i64 fx)).setCell ⟨W13.heap.size, 1, none⟩ (.int .i64 fy)) := Below.setCell (p := ⟨W13.heap.size, 1, none⟩) (Below.setCell (p := ⟨W13.heap.size, 0, none⟩) L13 (Nat.le_refl _) _) (Nat.le_refl _) _
              have D30' := (D30.put 0 (.int .i64 fx)).put 1 (.int .i64 fy)
              have D28' := (D28.far (p := ⟨W13.heap.size, 0, none⟩) (Nat.ne_of_lt n28) (.int .i64 fx)).far (p := ⟨W13.heap.size, 1, none⟩) (Nat.ne_of_lt n28) (.int .i64 fy)
              have D32' := (D32.far (p := ⟨W13.heap.size, 0, none⟩) (Nat.ne_of_gt n32) (.int .i64 fx)).far (p := ⟨W13.heap.size, 1, none⟩) (Nat.ne_of_gt n32) (.int .i64 fy)
              have D34' := (D34.far (p := ⟨W13.heap.size, 0, none⟩) (Nat.ne_of_gt n34) (.int .i64 fx)).far (p := ⟨W13.heap.size, 1, none⟩) (Nat.ne_of_gt n34) (.int .i64 fy)
              have NEW := Lib.hid (And.intro LL (And.intro D28' (And.intro D30' (And.intro D32' D34'))))
              clear LL D28' D30' D32' D34' D32 D34 L13
              go_upto_region 35 with fail
              refine wp_name (fun V => Below W13.heap.size W13 V ∧ Bk V W12.heap.size #[.int .i64 fx, .int .i64 fy] 54 ∧ Bk V W13.heap.size #[.int .i64 fx, .int .i64 fy] 54 ∧ Bk V W14.heap.size #[.int .i64 ox, .int .i64 oy] 54 ∧ Bk V W15.heap.size #[.int .i64 ux, .int .i64 uy] 54) NEW.out ?_
              clear e280 e281 e300 e301 fr0 fr1 lt30 D28 D30 NEW hgg hs
              rintro V ⟨LL, D28, D30, D32, D34⟩
              obtain ⟨B11, B12, BX, BY, EA, EB, EX, EY, hgg⟩ := O13.out
              replace B11 := B11.below LL
              replace B12 := B12.below LL
              replace BX := BX.below LL
              replace BY := BY.below LL
              replace EA := EA.below LL
              replace EB := EB.below LL
              replace EX := EX.below LL
              replace EY := EY.below LL
              obtain ⟨hgg, hs⟩ := below_c (w := w) LL hgg
              clear LL
              have eD280 := D28.cell (v := .int .i64 fx) 0 rfl
              have eD281 := D28.cell (v := .int .i64 fy) 1 rfl
              have eD300 := D30.cell (v := .int .i64 fx) 0 rfl
              have eD301 := D30.cell (v := .int .i64 fy) 1 rfl
              have eD320 := D32.cell (v := .int .i64 ox) 0 rfl
              have eD321 := D32.cell (v := .int .i64 oy) 1 rfl
              have eD340 := D34.cell (v := .int .i64 ux) 0 rfl
              have eD341 := D34.cell (v := .int .i64 uy) 1 rfl
              go_wp2_with fail
              refine Calls.mono (btwn_any ox fx fx HBW.out.1 _) ?_
              rintro e W17 ⟨rfl, hb⟩
              clear eD280 eD281 eD300 eD301 eD320 eD321 eD340 eD341
              replace D28 := D28.below hb
              replace D30 := D30.below hb
              replace D32 := D32.below hb
              replace D34 := D34.below hb
              replace B11 := B11.below hb
              replace B12 := B12.below hb
              replace BX := BX.below hb
              replace BY := BY.below hb
              replace EA := EA.below hb
              replace EB := EB.below hb
              replace EX := EX.below hb
              replace EY := EY.below hb
              obtain ⟨hgg, hs⟩ := below_c (w := w) hb hgg
              clear hb
              have eD280 := D28.cell (v := .int .i64 fx) 0 rfl
              have eD281 := D28.cell (v := .int .i64 fy) 1 rfl
              have eD300 := D30.cell (v := .int .i64 fx) 0 rfl
              have eD301 := D30.cell (v := .int .i64 fy) 1 rfl
              have eD320 := D32.cell (v := .int .i64 ox) 0 rfl
              have eD321 := D32.cell (v := .int .i64 oy) 1 rfl
              have eD340 := D34.cell (v := .int .i64 ux) 0 rfl
              have eD341 := D34.cell (v := .int .i64 uy) 1 rfl
              go_wp2_with fail
              refine Calls.mono (btwn_any oy fy fy HBW.out.2.1 _) ?_
              rintro e W18 ⟨rfl, hb⟩
              clear eD280 eD281 eD300 eD301 eD320 eD321 eD340 eD341
              replace D28 := D28.below hb
              replace D30 := D30.below hb
              replace D32 := D32.below hb
              replace D34 := D34.below hb
              replace B11 := B11.below hb
              replace B12 := B12.below hb
              replace BX := BX.below hb
              replace BY := BY.below hb
              replace EA := EA.below hb
              replace EB := EB.below hb
              replace EX := EX.below hb
              replace EY := EY.below hb
              obtain ⟨hgg, hs⟩ := below_c (w := w) hb hgg
              clear hb
              have eD280 := D28.cell (v := .int .i64 fx) 0 rfl
              have eD281 := D28.cell (v := .int .i64 fy) 1 rfl
              have eD300 := D30.cell (v := .int .i64 fx) 0 rfl
              have eD301 := D30.cell (v := .int .i64 fy) 1 rfl
              have eD320 := D32.cell (v := .int .i64 ox) 0 rfl
              have eD321 := D32.cell (v := .int .i64 oy) 1 rfl
              have eD340 := D34.cell (v := .int .i64 ux) 0 rfl
              have eD341 := D34.cell (v := .int .i64 uy) 1 rfl
              go_wp2_with fail
              refine Calls.mono (btwn_any ux ox fx HBW.out.2.2.1 _) ?_
              rintro e W19 ⟨rfl, hb⟩
              clear eD280 eD281 eD300 eD301 eD320 eD321 eD340 eD341
              replace D28 := D28.below hb
              replace D30 := D30.below hb
              replace D32 := D32.below hb
              replace D34 := D34.below hb
              replace B11 := B11.below hb
              replace B12 := B12.below hb
              replace BX := BX.below hb
              replace BY := BY.below hb
              replace EA := EA.below hb
              replace EB := EB.below hb
              replace EX := EX.below hb
              replace EY := EY.below hb
              obtain ⟨hgg, hs⟩ := below_c (w := w) hb hgg
              clear hb
              have eD280 := D28.cell (v := .int .i64 fx) 0 rfl
              have eD281 := D28.cell (v := .int .i64 fy) 1 rfl
              have eD300 := D30.cell (v := .int .i64 fx) 0 rfl
              have eD301 := D30.cell (v := .int .i64 fy) 1 rfl
              have eD320 := D32.cell (v := .int .i64 ox) 0 rfl
              have eD321 := D32.cell (v := .int .i64 oy) 1 rfl
              have eD340 := D34.cell (v := .int .i64 ux) 0 rfl
              have eD341 := D34.cell (v := .int .i64 uy) 1 rfl
              go_wp2_with fail
              refine Calls.mono (btwn_any uy oy fy HBW.out.2.2.2 _) ?_
              rintro e W20 ⟨rfl, hb⟩
              clear eD280 eD281 eD300 eD301 eD320 eD321 eD340 eD341
              replace D28 := D28.below hb
              replace D30 := D30.below hb
              replace D32 := D32.below hb
              replace D34 := D34.below hb
              replace B11 := B11.below hb
              replace B12 := B12.below hb
              replace BX := BX.below hb
              replace BY := BY.below hb
              replace EA := EA.below hb
              replace EB := EB.below hb
              replace EX := EX.below hb
              replace EY := EY.below hb
              obtain ⟨hgg, hs⟩ := below_c (w := w) hb hgg
              clear hb
              clear D28 D30 D32 D34 hs
              go_wp2_with fail
              go_roundw
              case rel =>
                have hjj : j + 1 ≤ xn := HJL.out
                exact ⟨j + 1, hjj, by go_num, B11, B12, BX, BY, EA, EB, EX, EY, hgg⟩
              case measure => have := HJL.out; simp [intOf]; omega
            · simp only [if_true] at hbt
              obtain ⟨t1, t2, t3, t4⟩ := hbt
              have HBW := Lib.hid (And.intro t1 (And.intro t2 (And.intro t3 t4)))
              clear t1 t2 t3 t4 L13 hgg hs
              obtain ⟨B11, B12, BX, BY, EA, EB, EX, EY, hgg⟩ := FIN.out
              have eD280 := D28.cell (v := .int .i64 fx) 0 rfl
              have eD281 := D28.cell (v := .int .i64 fy) 1 rfl
              have eD300 := D30.cell (v := .int .i64 tx) 0 rfl
              have eD301 := D30.cell (v := .int .i64 ty) 1 rfl
              have eD320 := D32.cell (v := .int .i64 ox) 0 rfl
              have eD321 := D32.cell (v := .int .i64 oy) 1 rfl
              have eD340 := D34.cell (v := .int .i64 ux) 0 rfl
              have eD341 := D34.cell (v := .int .i64 uy) 1 rfl
              go_wp2_with fail
              refine Calls.mono (btwn_any ox fx tx HBW.out.1 _) ?_
              rintro e W17 ⟨rfl, hb⟩
              clear eD280 eD281 eD300 eD301 eD320 eD321 eD340 eD341
              replace D28 := D28.below hb
              replace D30 := D30.below hb
              replace D32 := D32.below hb
              replace D34 := D34.below hb
              replace B11 := B11.below hb
              replace B12 := B12.below hb
              replace BX := BX.below hb
              replace BY := BY.below hb
              replace EA := EA.below hb
              replace EB := EB.below hb
              replace EX := EX.below hb
              replace EY := EY.below hb
              obtain ⟨hgg, hs⟩ := below_c (w := w) hb hgg
              clear hb
              have eD280 := D28.cell (v := .int .i64 fx) 0 rfl
              have eD281 := D28.cell (v := .int .i64 fy) 1 rfl
              have eD300 := D30.cell (v := .int .i64 tx) 0 rfl
              have eD301 := D30.cell (v := .int .i64 ty) 1 rfl
              have eD320 := D32.cell (v := .int .i64 ox) 0 rfl
              have eD321 := D32.cell (v := .int .i64 oy) 1 rfl
              have eD340 := D34.cell (v := .int .i64 ux) 0 rfl
              have eD341 := D34.cell (v := .int .i64 uy) 1 rfl
              go_wp2_with fail
              refine Calls.mono (btwn_any oy fy ty HBW.out.2.1 _) ?_
              rintro e W18 ⟨rfl, hb⟩
              clear eD280 eD281 eD300 eD301 eD320 eD321 eD340 eD341
              replace D28 := D28.below hb
              replace D30 := D30.below hb
              replace D32 := D32.below hb
              replace D34 := D34.below hb
              replace B11 := B11.below hb
              replace B12 := B12.below hb
              replace BX := BX.below hb
              replace BY := BY.below hb
              replace EA := EA.below hb
              replace EB := EB.below hb
              replace EX := EX.below hb
              replace EY := EY.below hb
              obtain ⟨hgg, hs⟩ := below_c (w := w) hb hgg
              clear hb
              have eD280 := D28.cell (v := .int .i64 fx) 0 rfl
              have eD281 := D28.cell (v := .int .i64 fy) 1 rfl
              have eD300 := D30.cell (v := .int .i64 tx) 0 rfl
              have eD301 := D30.cell (v := .int .i64 ty) 1 rfl
              have eD320 := D32.cell (v := .int .i64 ox) 0 rfl
              have eD321 := D32.cell (v := .int .i64 oy) 1 rfl
              have eD340 := D34.cell (v := .int .i64 ux) 0 rfl
              have eD341 := D34.cell (v := .int .i64 uy) 1 rfl
              go_wp2_with fail
              refine Calls.mono (btwn_any ux ox tx HBW.out.2.2.1 _) ?_
              rintro e W19 ⟨rfl, hb⟩
              clear eD280 eD281 eD300 eD301 eD320 eD321 eD340 eD341
              replace D28 := D28.below hb
              replace D30 := D30.below hb
              replace D32 := D32.below hb
              replace D34 := D34.below hb
              replace B11 := B11.below hb
              replace B12 := B12.below hb
              replace BX := BX.below hb
              replace BY := BY.below hb
              replace EA := EA.below hb
              replace EB := EB.below hb
              replace EX := EX.below hb
              replace EY := EY.below hb
              obtain ⟨hgg, hs⟩ := below_c (w := w) hb hgg
              clear hb
              have eD280 := D28.cell (v := .int .i64 fx) 0 rfl
              have eD281 := D28.cell (v := .int .i64 fy) 1 rfl
              have eD300 := D30.cell (v := .int .i64 tx) 0 rfl
              have eD301 := D30.cell (v := .int .i64 ty) 1 rfl
              have eD320 := D32.cell (v := .int .i64 ox) 0 rfl
              have eD321 := D32.cell (v := .int .i64 oy) 1 rfl
              have eD340 := D34.cell (v := .int .i64 ux) 0 rfl
              have eD341 := D34.cell (v := .int .i64 uy) 1 rfl
              go_wp2_with fail
              refine Calls.mono (btwn_any uy oy ty HBW.out.2.2.2 _) ?_
              rintro e W20 ⟨rfl, hb⟩
              clear eD280 eD281 eD300 eD301 eD320 eD321 eD340 eD341
              replace D28 := D28.below hb
              replace D30 := D30.below hb
              replace D32 := D32.below hb
              replace D34 := D34.below hb
              replace B11 := B11.below hb
              replace B12 := B12.below hb
              replace BX := BX.below hb
              replace BY := BY.below hb
              replace EA := EA.below hb
              replace EB := EB.below hb
              replace EX := EX.below hb
              replace EY := EY.below hb
              obtain ⟨hgg, hs⟩ := below_c (w := w) hb hgg
              clear hb
              clear D28 D30 D32 D34 hs
              go_wp2_with fail
              go_roundw
              case rel =>
                have hjj : j + 1 ≤ xn := HJL.out
                exact ⟨j + 1, hjj, by go_num, B11, B12, BX, BY, EA, EB, EX, EY, hgg⟩
              case measure => have := HJL.out; simp [intOf]; omega
        · go_wp2_with fail
          refine Calls.mono (awake_any _ (hR.below hgg)) ?_
          rintro e W12 ⟨rfl, hb⟩
          obtain ⟨hgg, hs⟩ := below_c (w := w) hb hgg
          clear hb
          go_wp2
          go_returns
          exact ⟨rfl, hgg⟩
end Go.Proofs.YtjjodmkblpdnhaaDoor
