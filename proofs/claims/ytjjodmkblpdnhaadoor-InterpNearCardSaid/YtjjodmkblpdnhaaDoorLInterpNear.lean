/- InterpNear: the walk. -/
import Derived.Test.YtjjodmkblpdnhaaDoorShowPlain
import Derived.Test.YtjjodmkblpdnhaaDoorInterp10
set_option linter.unusedVariables false
set_option linter.unusedSimpArgs false
namespace Go.Proofs.YtjjodmkblpdnhaaDoor
open Go Go.RowKit Go.Sort
set_option maxRecDepth 100000
attribute [local go_sem] opLow opUpon opLow2 opUpon2

theorem hist_pair {w : World} {b off n c : Nat} {H : List Wld} (h : HistAt w (.slice (some ⟨b, off, none⟩) n c) H) {j : Nat} {x y : Wld} (hx : H[j]? = some x) (hy : H[j + 1]? = some y) (m : Nat) : HistAt w (.slice (some ⟨b, off + j * 2, none⟩) 2 m) [x, y] := by
  rcases h with ⟨h, rfl⟩ | ⟨b', off', cap', h, hl, hc⟩
  · cases h
  · injection h with h1 h2 h3
    cases h1
    refine .inr ⟨b, off + j * 2, m, rfl, by simp, fun i z hz => ?_⟩
    match i, hz with
    | 0, hz => cases hz; simpa using hc j x hx
    | 1, hz => cases hz; have := hc (j + 1) y hy; rwa [show off + (j + 1) * 2 = off + j * 2 + 1 * 2 by omega] at this
    | i + 2, hz => simp at hz
theorem wf_u8' {n : Int} (h : (Lit.int .u8 n).wf = true) : 0 ≤ n ∧ n ≤ 255 := by
  simp [Lit.wf, IntKind.min, IntKind.max, IntKind.signed, IntKind.bits] at h
  omega
theorem zero_ents (w : World) : EntsAt w (.slice none 0 0) [] := .inl ⟨rfl, rfl⟩
set_option maxHeartbeats 16000000 in
theorem near_any (l : List Int) (a : Option Addr) (n c : Nat) (tk pt : Int) (hk : 0 ≤ tk ∧ tk ≤ 255) (hp : 0 ≤ pt ∧ pt ≤ 255) (w : World) (hR : RG w) (h : NumsAt w (.slice a n c) l) :
    Calls Tryd.prog 4 #[.slice a n c, .int .u8 tk, .int .u8 pt] w fun e w' => e = .returned (.bool true) ∧ Below w.heap.size w w' := by
  have hVH := built_valid (nums_nat h)
  obtain ⟨H, hH⟩ : ∃ H, built l (bnum l) = H := ⟨_, rfl⟩
  have hlen : H.length ≤ 12 := by rw [← hH, built_len]; exact bnum_le l
  have HX := Lib.hid hH
  rw [hH] at hVH
  obtain ⟨k0, k1⟩ := hk
  obtain ⟨p0, p1⟩ := hp
  have v1 : IntKind.i64.wrap tk = tk := by rw [IntKind.wrap_i64]; omega
  have v2 : IntKind.i64.wrap pt = pt := by rw [IntKind.wrap_i64]; omega
  obtain ⟨t, ht⟩ : ∃ t, tk % 121 = t := ⟨_, rfl⟩
  obtain ⟨p, hpp⟩ : ∃ p, pt % 16 = p := ⟨_, rfl⟩
  have m1 : Int.tmod tk 121 = t := by rw [Int.tmod_eq_emod_of_nonneg k0]; exact ht
  have m2 : Int.tmod pt 16 = p := by rw [Int.tmod_eq_emod_of_nonneg p0]; exact hpp
  have tb : 0 ≤ t ∧ t ≤ 120 := by omega
  have pb : 0 ≤ p ∧ p < 16 := by omega
  have ok : okS H t p := ⟨hVH, by omega, pb⟩
  obtain ⟨t0, t1⟩ := tb
  obtain ⟨q0, q1⟩ := pb
  have OK := Lib.hid ok
  have sc := shown_cases ok
  have ss1 := shown_since ok
  have vd := validH_drop hVH (sinceK H t)
  have HV := Lib.hid hVH
  have HD := Lib.hid ss1
  clear ht hpp hVH hH ok ss1 vd
  go_enter Tryd.func4, Tryd.ntmps4
  go_wp2_with fail
  refine Calls.mono (built_any l a n c _ (by first | exact h | exact h.below (by go_grown))) ?_
  rw [HX.out]
  rintro e W1 ⟨ha, hn, hc, sh, rfl, hF, hb1⟩
  have hcap := hF.e.cap
  have hH := hF.hist
  obtain ⟨hgg, hs1⟩ := below_c (w := w) hb1 (by go_grown)
  clear hF hb1 h
  have hln := hH.len
  have HL := Lib.hid hln
  have hn12 : hn ≤ 12 := by omega
  clear hln hlen
  go_wp2_with fail
  refine Calls.mono (shown_any H t p _ _ _ _ (hR.below hgg) hH) ?_
  rcases sc with ⟨hin, S, hS⟩ | ⟨hin, hS⟩
  · rw [hS]
    have HS := Lib.hid hS
    rintro e W2 ⟨⟨a1, n1, c1, rfl, hF⟩, hb⟩
    have E1 := hF.ents
    clear hF
    replace hH := hH.below hb
    obtain ⟨hgg, hs⟩ := below_c (w := w) hb hgg
    have hd := (Below.refl W2.heap.size W2).alloc (Nat.le_refl _) (.cells #[.int .i64 S.t, .slice a1 n1 c1] 27)
    replace hH := hH.below hd
    replace E1 := E1.below hd
    obtain ⟨hgg, hs⟩ := below_c (w := w) hd hgg
    have B1 : Bk (W2.alloc (.cells #[.int .i64 S.t, .slice a1 n1 c1] 27)) W2.heap.size #[.int .i64 S.t, .slice a1 n1 c1] 27 := Bk.made _ _ _
    clear hb hd hs1
    go_wp2_with fail
    refine Calls.mono (since_any H t _ _ _ _ hH hcap (hR.below hgg)) ?_
    rintro e W3 ⟨hsin, hb⟩
    rw [if_pos HV.out] at hsin
    obtain ⟨sa, sn, sc', rfl, hSi⟩ := hsin
    replace hH := hH.below hb
    replace E1 := E1.below hb
    replace B1 := B1.below hb
    obtain ⟨hgg, hs⟩ := below_c (w := w) hb hgg
    clear hb
    go_wp2_with fail
    refine Calls.mono (shown_any _ t p _ _ _ _ (hR.below hgg) hSi) ?_
    rw [HD.out, HS.out]
    rintro e W4 ⟨⟨a2, n2, c2, rfl, hF⟩, hb⟩
    have E2 := hF.ents
    clear hF hSi
    replace hH := hH.below hb
    replace E1 := E1.below hb
    replace B1 := B1.below hb
    obtain ⟨hgg, hs⟩ := below_c (w := w) hb hgg
    have hd := (Below.refl W4.heap.size W4).alloc (Nat.le_refl _) (.cells #[.int .i64 S.t, .slice a2 n2 c2] 27)
    replace hH := hH.below hd
    replace E1 := E1.below hd
    replace B1 := B1.below hd
    replace E2 := E2.below hd
    obtain ⟨hgg, hs⟩ := below_c (w := w) hd hgg
    have B2 : Bk (W4.alloc (.cells #[.int .i64 S.t, .slice a2 n2 c2] 27)) W4.heap.size #[.int .i64 S.t, .slice a2 n2 c2] 27 := Bk.made _ _ _
    clear hb hd
    have c10 := B1.cell (v := .int .i64 S.t) 0 rfl
    have c11 := B1.cell (v := .slice a1 n1 c1) 1 rfl
    have c20 := B2.cell (v := .int .i64 S.t) 0 rfl
    have c21 := B2.cell (v := .slice a2 n2 c2) 1 rfl
    go_wp2_with fail
    refine Calls.mono (same_any S.t S.es _ _ _ _ _ _ _ E1 E2) ?_
    rintro e W5 ⟨rfl, hb⟩
    replace hH := hH.below hb
    replace E1 := E1.below hb
    replace B1 := B1.below hb
    obtain ⟨hgg, hs⟩ := below_c (w := w) hb hgg
    clear hb B2 E2 c10 c11 c20 c21
    go_wp2_with fail
    refine Calls.mono (span_any H _ _ _ _ hH (hR.below hgg)) ?_
    obtain ⟨hi0, hi1, hi2⟩ := hin
    have hsp : spanM H = ((H.map Wld.t).getD 0 0, (H.map Wld.t).getD (H.length - 1) 0, 0) := by unfold spanM; rw [if_pos HV.out, if_neg (by omega)]
    rw [hsp]
    simp only
    obtain ⟨lo, hlo⟩ : ∃ lo, (H.map Wld.t).getD 0 0 = lo := ⟨_, rfl⟩
    obtain ⟨hi, hhi⟩ : ∃ hi, (H.map Wld.t).getD (H.length - 1) 0 = hi := ⟨_, rfl⟩
    rw [hlo, hhi]
    rw [hlo] at hi1
    rw [hhi] at hi2
    clear hlo hhi hsp
    rintro e W6 ⟨rfl, hb⟩
    replace hH := hH.below hb
    replace E1 := E1.below hb
    replace B1 := B1.below hb
    obtain ⟨hgg, hs⟩ := below_c (w := w) hb hgg
    clear hb
    rw [← HL.out] at hi0
    go_upto_region 9 with fail
    go_cut [19] (fun s wx => s = .bool true ∧ HistAt wx (.slice ha hn hc) H ∧ EntsAt wx (.slice a1 n1 c1) S.es ∧ Bk wx W2.heap.size #[.int .i64 S.t, .slice a1 n1 c1] 27 ∧ Below w.heap.size w wx)
    case first =>
      have FACTS := Lib.hid (And.intro hH (And.intro E1 (And.intro B1 hgg)))
      clear hH E1 B1 hgg
      rcases Int.lt_or_eq_of_le hi1 with g1 | g1
      · rcases hi2 with g2 | ⟨g2, g3⟩
        · have d1 : decide (lo < t) = true := decide_eq_true g1
          go_wp2_with fail
          go_meet
          exact ⟨rfl, FACTS.out.1, FACTS.out.2.1, FACTS.out.2.2.1, FACTS.out.2.2.2⟩
        · subst g2 g3
          go_wp2_with fail
          go_meet
          exact ⟨rfl, FACTS.out.1, FACTS.out.2.1, FACTS.out.2.2.1, FACTS.out.2.2.2⟩
      · rcases hi2 with g2 | ⟨g2, g3⟩
        · subst g1
          go_wp2_with fail
          go_meet
          exact ⟨rfl, FACTS.out.1, FACTS.out.2.1, FACTS.out.2.2.1, FACTS.out.2.2.2⟩
        · subst g1 g2 g3
          go_wp2_with fail
          go_meet
          exact ⟨rfl, FACTS.out.1, FACTS.out.2.1, FACTS.out.2.2.1, FACTS.out.2.2.2⟩
    case rest =>
      obtain ⟨rfl, hH, E1, B1, hgg⟩ := hcut
      clear hi1 hi2
      go_wp2_with fail
      go_loopw [111] (fun v111 wr => ∃ j : Nat, j ≤ hn ∧ v111 = .int .i64 j ∧ Hid (∀ (k : Nat) (x y : Wld), k < j → H[k]? = some x → H[k + 1]? = some y → ¬ (x.t ≤ t ∧ t < y.t)) ∧ HistAt wr (.slice ha hn hc) H ∧ EntsAt wr (.slice a1 n1 c1) S.es ∧ Bk wr W2.heap.size #[.int .i64 S.t, .slice a1 n1 c1] 27 ∧ Below w.heap.size w wr) (fun v111 _ => hn - (intOf v111).toNat)
      case atStart => exact ⟨0, by omega, rfl, Lib.hid (fun k x y hk => absurd hk (by omega)), hH, E1, B1, hgg⟩
      case round =>
        clear hH E1 B1 hgg
        obtain ⟨j, hj, rfl, HJ, hH, E1, B1, hgg⟩ := hrel
        by_cases hlt : j < hn
        · obtain ⟨x, hx⟩ := at_lt (l := H) (i := j) (by rw [← HL.out]; exact hlt)
          obtain ⟨b, off, rfl, px⟩ := same_at hH hx
          obtain ⟨x0, -⟩ := px
          have w1 : IntKind.i64.wrap ((j : Int) + 1) = j + 1 := by rw [IntKind.wrap_i64]; omega
          have w2 : IntKind.i64.wrap ((j : Int) + 2) = j + 2 := by rw [IntKind.wrap_i64]; omega
          have HX1 := Lib.hid hx
          clear hx
          by_cases hl2 : j + 1 < hn
          · obtain ⟨y, hy⟩ := at_lt (l := H) (i := j + 1) (by rw [← HL.out]; exact hl2)
            obtain ⟨b', off', he, py⟩ := same_at hH hy
            cases he
            obtain ⟨y0, -⟩ := py
            have HY1 := Lib.hid hy
            have e1 : (j : Int) + 1 < hn := by omega
            clear hy
            by_cases hq : x.t ≤ t ∧ t < y.t
            · have hpair := fun V (hV : HistAt V (.slice (some ⟨b, off, none⟩) hn hc) H) m => hist_pair hV HX1.out HY1.out m
              have HPAIR := Lib.hid hpair
              have h2 := shown_two OK.out HX1.out HY1.out hq.1 hq.2
              rw [HS.out] at h2
              have HS2 := Lib.hid h2
              obtain ⟨hq1, hq2⟩ := hq
              have t2 : ((j : Int) + 2).toNat = j + 2 := by omega
              have e2 : (j : Int) + 2 ≤ hn := by omega
              have e3 : j + 2 ≤ hc := by omega
              have e4 : ((j : Int) + 2) ≤ hc := by omega
              have CAP := Lib.hid hcap
              clear h2 hpair hcap
              go_wp2_with fail
              refine Calls.mono (shown_any _ t p _ _ _ _ (hR.below hgg) (HPAIR.out _ hH _)) ?_
              rw [HS2.out]
              rintro e W7 ⟨⟨a3, n3, c3, rfl, hF⟩, hb⟩
              have E3 := hF.ents
              clear hF
              replace E1 := E1.below hb
              replace B1 := B1.below hb
              obtain ⟨hgg, hs⟩ := below_c (w := w) hb hgg
              have hd := (Below.refl W7.heap.size W7).alloc (Nat.le_refl _) (.cells #[.int .i64 S.t, .slice a3 n3 c3] 27)
              replace E1 := E1.below hd
              replace B1 := B1.below hd
              replace E3 := E3.below hd
              obtain ⟨hgg, hs⟩ := below_c (w := w) hd hgg
              have B3 : Bk (W7.alloc (.cells #[.int .i64 S.t, .slice a3 n3 c3] 27)) W7.heap.size #[.int .i64 S.t, .slice a3 n3 c3] 27 := Bk.made _ _ _
              clear hb hd hH x0 y0
              have c10 := B1.cell (v := .int .i64 S.t) 0 rfl
              have c11 := B1.cell (v := .slice a1 n1 c1) 1 rfl
              have c20 := B3.cell (v := .int .i64 S.t) 0 rfl
              have c21 := B3.cell (v := .slice a3 n3 c3) 1 rfl
              go_wp2_with fail
              refine Calls.mono (same_any S.t S.es _ _ _ _ _ _ _ E3 E1) ?_
              rintro e W8 ⟨rfl, hb⟩
              obtain ⟨hgg, hs⟩ := below_c (w := w) hb hgg
              clear hb B3 E3 c10 c11 c20 c21 B1 E1
              go_wp2_with fail
              refine Calls.mono (awake_any _ (hR.below hgg)) ?_
              rintro e W9 ⟨rfl, hb⟩
              obtain ⟨hgg, hs⟩ := below_c (w := w) hb hgg
              clear hb
              go_wp2
              go_returns
              exact ⟨rfl, hgg⟩
            · have HNQ := Lib.hid hq
              have rel' : ∃ j' : Nat, j' ≤ hn ∧ Value.int .i64 ((j : Int) + 1) = .int .i64 j' ∧ Hid (∀ (k : Nat) (x y : Wld), k < j' → H[k]? = some x → H[k + 1]? = some y → ¬ (x.t ≤ t ∧ t < y.t)) ∧ j' = j + 1 := ⟨j + 1, by omega, by go_num, Lib.hid (fun k x' y' hk hx' hy' => by
                rcases Nat.lt_succ_iff_lt_or_eq.1 hk with h | h
                · exact HJ.out k x' y' h hx' hy'
                · subst h
                  rw [HX1.out] at hx'
                  rw [HY1.out] at hy'
                  cases hx'; cases hy'
                  exact HNQ.out), rfl⟩
              have HREL := Lib.hid rel'
              clear rel'
              by_cases hq1 : x.t ≤ t
              · have hq2 : ¬ t < y.t := fun h => hq ⟨hq1, h⟩
                clear hq
                go_wp2_with fail
                go_roundw
                case rel => obtain ⟨j', r1, r2, r3, r4⟩ := HREL.out; exact ⟨j', r1, r2, r3, hH, E1, B1, hgg⟩
                case measure => simp [intOf]; omega
              · clear hq
                go_wp2_with fail
                go_roundw
                case rel => obtain ⟨j', r1, r2, r3, r4⟩ := HREL.out; exact ⟨j', r1, r2, r3, hH, E1, B1, hgg⟩
                case measure => simp [intOf]; omega
          · have e1 : ¬ (j : Int) + 1 < hn := by omega
            go_wp2_with fail
            go_roundw
            case rel => exact ⟨j + 1, by omega, by go_num, Lib.hid (fun k x' y' hk hx' hy' => by
              rcases Nat.lt_succ_iff_lt_or_eq.1 hk with h | h
              · exact HJ.out k x' y' h hx' hy'
              · subst h
                exact absurd (List.getElem?_eq_some_iff.1 hy').1 (by rw [← HL.out]; omega)), hH, E1, B1, hgg⟩
            case measure => simp [intOf]; omega
        · obtain rfl : hn = j := by omega
          have hl := shown_last OK.out HS.out (fun k x y hx hy => HJ.out k x y (by have := (List.getElem?_eq_some_iff.1 hy).1; rw [HL.out]; omega) hx hy)
          rw [← HL.out] at hl
          obtain ⟨m, rfl⟩ : ∃ m, hn = m + 1 := ⟨hn - 1, by omega⟩
          rw [Nat.add_sub_cancel] at hl
          obtain ⟨b, off, rfl, px⟩ := same_at hH hl
          obtain ⟨x0, xa, xn, xc, x1, hE⟩ := px
          have CT := fun d os => same_any S.t S.es _ _ _ _ _ _ (grow (redrawn wr d) os) (E1.below (below_regrown _ _ _)) (hE.below (below_regrown _ _ _))
          have AT := fun d os => awake_any (grow (redrawn wr d) os) ((hR.below hgg).below (below_regrown _ _ _))
          replace x0 := cell_regrown x0
          replace x1 := cell_regrown x1
          have c10 := cell_regrown (B1.cell (v := .int .i64 S.t) 0 rfl)
          have c11 := cell_regrown (B1.cell (v := .slice a1 n1 c1) 1 rfl)
          have e1 : IntKind.i64.wrap (m : Int) = (m : Int) := by rw [IntKind.wrap_i64]; omega
          have e2 : (m : Int) < m + 1 := by omega
          have e5 : (0 : Int) ≤ (m : Int) := by omega
          clear hl hH hE E1 B1
          go_wp2
          refine wp_region_low 11 (by kernel_rfl) (by kernel_rfl) ?_
          simp only [List.take, List.drop]
          iterate 11 (refine low_step (fun K hK => ?_); go_simp; first | (refine hK _ ?_; clear hK K) | (apply Exists.intro; refine ⟨fun p => ?_, hK _ ?_⟩; (first | with_reducible exact CT _ _ | with_reducible exact AT _ _); clear hK K))
          refine low_nil ?_
          intro W7 hC
          obtain ⟨hgg, hs⟩ := below_c (w := w) hC.1 hgg
          clear hC x0 x1 c10 c11 CT AT
          go_wp2
          go_returns
          exact ⟨rfl, hgg⟩
  · rw [hS]
    have HS := Lib.hid hS
    rintro e W2 ⟨rfl, hb⟩
    replace hH := hH.below hb
    obtain ⟨hgg, hs⟩ := below_c (w := w) hb hgg
    have hd := (Below.refl W2.heap.size W2).alloc (Nat.le_refl _) (.cells #[.int .i64 0, .slice none 0 0] 27)
    replace hH := hH.below hd
    obtain ⟨hgg, hs⟩ := below_c (w := w) hd hgg
    have B1 : Bk (W2.alloc (.cells #[.int .i64 0, .slice none 0 0] 27)) W2.heap.size #[.int .i64 0, .slice none 0 0] 27 := Bk.made _ _ _
    clear hb hd hs1
    go_wp2_with fail
    refine Calls.mono (since_any H t _ _ _ _ hH hcap (hR.below hgg)) ?_
    rintro e W3 ⟨hsin, hb⟩
    rw [if_pos HV.out] at hsin
    obtain ⟨sa, sn, sc', rfl, hSi⟩ := hsin
    replace hH := hH.below hb
    replace B1 := B1.below hb
    obtain ⟨hgg, hs⟩ := below_c (w := w) hb hgg
    clear hb
    go_wp2_with fail
    refine Calls.mono (shown_any _ t p _ _ _ _ (hR.below hgg) hSi) ?_
    rw [HD.out, HS.out]
    rintro e W4 ⟨rfl, hb⟩
    clear hSi
    replace hH := hH.below hb
    replace B1 := B1.below hb
    obtain ⟨hgg, hs⟩ := below_c (w := w) hb hgg
    have hd := (Below.refl W4.heap.size W4).alloc (Nat.le_refl _) (.cells #[.int .i64 0, .slice none 0 0] 27)
    replace hH := hH.below hd
    replace B1 := B1.below hd
    obtain ⟨hgg, hs⟩ := below_c (w := w) hd hgg
    have B2 : Bk (W4.alloc (.cells #[.int .i64 0, .slice none 0 0] 27)) W4.heap.size #[.int .i64 0, .slice none 0 0] 27 := Bk.made _ _ _
    clear hb hd
    have c10 := B1.cell (v := .int .i64 0) 0 rfl
    have c11 := B1.cell (v := .slice none 0 0) 1 rfl
    have c20 := B2.cell (v := .int .i64 0) 0 rfl
    have c21 := B2.cell (v := .slice none 0 0) 1 rfl
    go_wp2_with fail
    refine Calls.mono (same_any 0 [] _ _ _ _ _ _ _ (zero_ents _) (zero_ents _)) ?_
    rintro e W5 ⟨rfl, hb⟩
    replace hH := hH.below hb
    obtain ⟨hgg, hs⟩ := below_c (w := w) hb hgg
    clear hb B1 B2 c10 c11 c20 c21
    go_wp2_with fail
    refine Calls.mono (span_any H _ _ _ _ hH (hR.below hgg)) ?_
    have hsp : ∃ lo hi z, spanM H = (lo, hi, z) ∧ ((z = 6) ∨ (z = 0 ∧ ¬ (lo ≤ t ∧ (t < hi ∨ t = hi ∧ p = 0)))) := by
      by_cases h0 : H.length = 0
      · exact ⟨0, 0, 6, by unfold spanM; rw [if_pos HV.out, if_pos h0], .inl rfl⟩
      · exact ⟨_, _, 0, by unfold spanM; rw [if_pos HV.out, if_neg h0], .inr ⟨rfl, fun h => hin ⟨by omega, h⟩⟩⟩
    obtain ⟨lo, hi, z, hz, hout⟩ := hsp
    rw [hz]
    simp only
    clear hz hin
    rintro e W6 ⟨rfl, hb⟩
    obtain ⟨hgg, hs⟩ := below_c (w := w) hb hgg
    clear hb hH
    go_upto_region 9 with fail
    go_cut [19] (fun s wx => s = .bool false ∧ Below w.heap.size w wx)
    case first =>
      rcases hout with rfl | ⟨rfl, hout⟩
      · go_wp2_with fail
        go_meet
        exact ⟨rfl, hgg⟩
      · rcases Int.lt_trichotomy lo t with g1 | g1 | g1
        · have d1 : decide (lo < t) = true := decide_eq_true g1
          have g2 : ¬ t < hi := fun h => hout ⟨by omega, .inl h⟩
          by_cases g3 : t = hi
          · have g4 : p ≠ 0 := fun h => hout ⟨by omega, .inr ⟨g3, h⟩⟩
            have d2 : (p == 0) = false := by simpa using g4
            clear hout
            subst g3
            go_wp2_with fail
            go_meet
            exact ⟨rfl, hgg⟩
          · have d2 : (t == hi) = false := by simpa using g3
            clear hout
            go_wp2_with fail
            go_meet
            exact ⟨rfl, hgg⟩
        · subst g1
          have g2 : ¬ lo < hi := fun h => hout ⟨by omega, .inl h⟩
          by_cases g3 : lo = hi
          · have g4 : p ≠ 0 := fun h => hout ⟨by omega, .inr ⟨g3, h⟩⟩
            have d2 : (p == 0) = false := by simpa using g4
            clear hout
            subst g3
            go_wp2_with fail
            go_meet
            exact ⟨rfl, hgg⟩
          · have d2 : (lo == hi) = false := by simpa using g3
            clear hout
            go_wp2_with fail
            go_meet
            exact ⟨rfl, hgg⟩
        · have d1 : decide (lo < t) = false := decide_eq_false (by omega)
          have d2 : (t == lo) = false := by simp; omega
          clear hout
          go_wp2_with fail
          go_meet
          exact ⟨rfl, hgg⟩
    case rest =>
      obtain ⟨rfl, hgg⟩ := hcut
      go_wp2_with fail
      refine Calls.mono (awake_any _ (hR.below hgg)) ?_
      rintro e W9 ⟨rfl, hb⟩
      obtain ⟨hgg, hs⟩ := below_c (w := w) hb hgg
      clear hb
      go_wp2
      go_returns
      exact ⟨rfl, hgg⟩
end Go.Proofs.YtjjodmkblpdnhaaDoor
