/- InterpKeeps: the walk. -/
import Derived.Test.YtjjodmkblpdnhaaDoorKeepPlain
import Derived.Test.YtjjodmkblpdnhaaDoorMinMax
set_option linter.unusedVariables false
set_option linter.unusedSimpArgs false
namespace Go.Proofs.YtjjodmkblpdnhaaDoor
open Go Go.RowKit Go.Sort
set_option maxRecDepth 100000
attribute [local go_sem] opLow opUpon opLow2 opUpon2

set_option maxHeartbeats 16000000 in
theorem keeps_any (l : List Int) (a : Option Addr) (n c : Nat) (mo tk pt : Int) (hm : 0 ≤ mo ∧ mo ≤ 255) (hk : 0 ≤ tk ∧ tk ≤ 255) (hp : 0 ≤ pt ∧ pt ≤ 255) (w : World) (hR : RG w) (h : NumsAt w (.slice a n c) l) :
    Calls Tryd.prog 3 #[.slice a n c, .int .u8 mo, .int .u8 tk, .int .u8 pt] w fun e w' => e = .returned (.bool true) ∧ Below w.heap.size w w' := by
  have hEA := built_early (nums_nat h)
  have hlen : (built l (bnum l)).length ≤ 12 := by rw [built_len]; exact bnum_le l
  obtain ⟨H, hH⟩ : ∃ H, built l (bnum l) = H := ⟨_, rfl⟩
  have HX := Lib.hid hH
  rw [hH] at hEA hlen
  obtain ⟨k0, k1⟩ := hk
  obtain ⟨p0, p1⟩ := hp
  obtain ⟨mo0, mo1⟩ := hm
  have v0 : IntKind.i64.wrap mo = mo := by rw [IntKind.wrap_i64]; omega
  have v1 : IntKind.i64.wrap tk = tk := by rw [IntKind.wrap_i64]; omega
  have v2 : IntKind.i64.wrap pt = pt := by rw [IntKind.wrap_i64]; omega
  obtain ⟨t, ht⟩ : ∃ t, tk % 121 = t := ⟨_, rfl⟩
  obtain ⟨p, hpp⟩ : ∃ p, pt % 16 = p := ⟨_, rfl⟩
  obtain ⟨mm, hmm⟩ : ∃ mm : Nat, mo % 60 = mm := ⟨(mo % 60).toNat, by omega⟩
  have m0 : Int.tmod mo 60 = mm := by rw [Int.tmod_eq_emod_of_nonneg mo0]; exact hmm
  have m1 : Int.tmod tk 121 = t := by rw [Int.tmod_eq_emod_of_nonneg k0]; exact ht
  have m2 : Int.tmod pt 16 = p := by rw [Int.tmod_eq_emod_of_nonneg p0]; exact hpp
  have tb : 0 ≤ t ∧ t ≤ 120 := by omega
  have pb : 0 ≤ p ∧ p < 16 := by omega
  have mb : mm < 60 := by omega
  have EA := Lib.hid hEA
  have TB := Lib.hid (show (0 ≤ t ∧ t ≤ 1073741824) ∧ (0 ≤ p ∧ p < 16) from ⟨by omega, pb⟩)
  clear ht hpp hH hmm hEA
  go_enter Tryd.func3, Tryd.ntmps3
  go_wp2_with fail
  refine Calls.mono (built_any l a n c _ (by first | exact h | exact h.below (by go_grown))) ?_
  rw [HX.out]
  rintro e W1 ⟨ha, hn, hc, sh, rfl, hF, hb1⟩
  have hH := hF.hist
  obtain ⟨hgg, hs1⟩ := below_c (w := w) hb1 (by go_grown)
  clear hF hb1 h
  have hln := hH.len
  have HL := Lib.hid (And.intro hln hlen)
  have hn12 : hn ≤ 12 := by omega
  clear hln hlen
  go_wp2_with fail
  go_loopw [10, 34] (fun v10 v34 wr => ∃ (j : Nat) (ka : Option Addr) (kn kc : Nat), j ≤ hn ∧ v10 = .slice ka kn kc ∧ v34 = .int .i64 j ∧ HistAt wr (.slice ka kn kc) (H.take j) ∧ HistAt wr (.slice ha hn hc) H ∧ Below w.heap.size w wr) (fun v10 v34 _ => hn - (intOf v34).toNat)
  case atStart => exact ⟨0, none, 0, 0, by omega, rfl, rfl, .inl ⟨rfl, rfl⟩, hH, hgg⟩
  case round =>
    clear hH hgg hs1
    obtain ⟨j, ka, kn, kc, hj, rfl, rfl, hK, hH, hgg⟩ := hrel
    by_cases hlt : j < hn
    · obtain ⟨x, hx⟩ := at_lt (l := H) (i := j) (by rw [← HL.out.1]; exact hlt)
      obtain ⟨b, off, rfl, px⟩ := same_at hH hx
      obtain ⟨x0, xa, xn, xc, x1, hE⟩ := px
      have HP := Lib.hid (push_take EA.out.1 HL.out.2 hx)
      clear hx
      go_wp2_with fail
      have hd := (Below.refl wr.heap.size wr).alloc (Nat.le_refl _) (.cells #[.int .i64 x.t, .slice xa xn xc] 27)
      replace hE := hE.below hd
      replace hK := hK.below hd
      replace hH := hH.below hd
      obtain ⟨hgg, hs⟩ := below_c (w := w) hd hgg
      clear hd x0 x1
      refine Calls.mono (push_any (H.take j) x _ _ _ _ _ _ _ hK hE (hR.below hgg)) ?_
      rw [HP.out]
      rintro e W2 ⟨⟨na, nn, nc, rfl, hK2, -⟩, hb⟩
      replace hH := hH.below hb
      obtain ⟨hgg, hs⟩ := below_c (w := w) hb hgg
      clear hb hK hE
      go_wp2_with fail
      go_roundw
      case rel => exact ⟨j + 1, na, nn, nc, by omega, rfl, by go_num, hK2, hH, hgg⟩
      case measure => simp [intOf]; omega
    · obtain rfl : hn = j := by omega
      have hall : H.take hn = H := List.take_of_length_le (by rw [← HL.out.1]; exact Nat.le_refl _)
      rw [hall] at hK
      go_wp2_with fail
      refine Calls.mono (same28_any H _ _ _ _ _ _ _ hK hH) ?_
      rintro e W2 ⟨rfl, hb⟩
      replace hK := hK.below hb
      obtain ⟨hgg, hs⟩ := below_c (w := w) hb hgg
      clear hb hH
      go_wp2_with fail
      refine Calls.mono (shown_res H t p _ _ _ _ (hR.below hgg) hK) ?_
      obtain ⟨S, hS⟩ : ∃ S, rW (shownM H t p) = S := ⟨_, rfl⟩
      obtain ⟨z, hz⟩ : ∃ z, rZ (shownM H t p) = z := ⟨_, rfl⟩
      rw [hS, hz]
      have HS := Lib.hid (And.intro hS hz)
      clear hS hz
      rintro e W3 ⟨a1, n1, c1, rfl, E1, hb⟩
      replace hK := hK.below hb
      obtain ⟨hgg, hs⟩ := below_c (w := w) hb hgg
      have hd := (Below.refl W3.heap.size W3).alloc (Nat.le_refl _) (.cells #[.int .i64 S.t, .slice a1 n1 c1] 27)
      replace hK := hK.below hd
      replace E1 := E1.below hd
      obtain ⟨hgg, hs⟩ := below_c (w := w) hd hgg
      have B1 : Bk (W3.alloc (.cells #[.int .i64 S.t, .slice a1 n1 c1] 27)) W3.heap.size #[.int .i64 S.t, .slice a1 n1 c1] 27 := Bk.made _ _ _
      clear hb hd
      rw [← kept_zero (H := H) (by have := HL.out; omega)] at hK
      go_wp2_with fail
      go_loopw [10, 68] (fun v10 v68 wr => ∃ (i : Nat) (ka : Option Addr) (kn kc : Nat), i ≤ mm ∧ v10 = .slice ka kn kc ∧ v68 = .int .i64 i ∧ HistAt wr (.slice ka kn kc) (keptL H i) ∧ EntsAt wr (.slice a1 n1 c1) S.es ∧ Bk wr W3.heap.size #[.int .i64 S.t, .slice a1 n1 c1] 27 ∧ Below w.heap.size w wr) (fun v10 v68 _ => mm - (intOf v68).toNat)
      case atStart => exact ⟨0, _, _, _, by omega, rfl, rfl, hK, E1, B1, hgg⟩
      case round =>
        clear hK E1 B1 hgg hs
        obtain ⟨i, ka, kn, kc, hi, rfl, rfl, hK, E1, B1, hgg⟩ := hrel
        by_cases hlt : i < mm
        · have hlk := hK.len
          rw [kept_len] at hlk
          have HLK := Lib.hid hlk
          clear hlk
          have w0 : IntKind.i64.wrap (200 + (i : Int)) = 200 + i := by rw [IntKind.wrap_i64]; omega
          go_wp2_with fail
          refine Calls.mono (at_any (200 + (i : Int)) i i _) ?_
          rintro e W4 ⟨ya, yn, yc, rfl, hF, hb⟩
          have E4 : EntsAt W4 (.slice ya yn yc) (atW (200 + (i : Int)) i i).es := hF.ents
          obtain ⟨tq, htq⟩ : ∃ tq, 200 + (i : Int) = tq := ⟨_, rfl⟩
          have HTQ := Lib.hid htq
          rw [htq] at E4 ⊢
          clear hF htq w0
          replace hK := hK.below hb
          replace E1 := E1.below hb
          replace B1 := B1.below hb
          obtain ⟨hgg, hs⟩ := below_c (w := w) hb hgg
          have hd := (Below.refl W4.heap.size W4).alloc (Nat.le_refl _) (.cells #[.int .i64 tq, .slice ya yn yc] 27)
          replace hK := hK.below hd
          replace E1 := E1.below hd
          replace B1 := B1.below hd
          replace E4 := E4.below hd
          obtain ⟨hgg, hs⟩ := below_c (w := w) hd hgg
          have B4 : Bk (W4.alloc (.cells #[.int .i64 tq, .slice ya yn yc] 27)) W4.heap.size #[.int .i64 tq, .slice ya yn yc] 27 := Bk.made _ _ _
          clear hb hd
          have c0 := B4.cell (v := .int .i64 tq) 0 rfl
          have c1' := B4.cell (v := .slice ya yn yc) 1 rfl
          go_wp2_with fail
          refine Calls.mono (push_any (keptL H i) (atW tq i i) _ _ _ _ _ _ _ hK E4 (hR.below hgg)) ?_
          have HP := kept_ok EA.out (show i < 60 by omega)
          have HP2 := kept_again EA.out (show i < 60 by omega)
          have hlast := kept_last H i
          rw [HTQ.out] at HP HP2 hlast
          rw [HP]
          have HQ := Lib.hid (And.intro HP2 hlast)
          clear HP HP2 hlast
          rintro e W5 ⟨⟨na, nn, nc, rfl, hN, -⟩, hb⟩
          have hln := hN.len
          rw [kept_len] at hln
          have HLN := Lib.hid hln
          clear hln
          replace E1 := E1.below hb
          replace B1 := B1.below hb
          replace E4 := E4.below hb
          replace B4 := B4.below hb
          obtain ⟨hgg, hs⟩ := below_c (w := w) hb hgg
          clear hb hK c0 c1'
          have c0 := B4.cell (v := .int .i64 tq) 0 rfl
          have c1' := B4.cell (v := .slice ya yn yc) 1 rfl
          go_wp2_with fail
          refine Calls.mono (push_any (keptL H (i + 1)) (atW tq i i) _ _ _ _ _ _ _ hN E4 (hR.below hgg)) ?_
          rw [HQ.out.1]
          rintro e W6 ⟨rfl, hb⟩
          replace E1 := E1.below hb
          replace B1 := B1.below hb
          replace E4 := E4.below hb
          replace B4 := B4.below hb
          replace hN := hN.below hb
          obtain ⟨hgg, hs⟩ := below_c (w := w) hb hgg
          clear hb c0 c1'
          obtain ⟨b, off, rfl, px⟩ := same_at hN HQ.out.2
          obtain ⟨x0, xa, xn, xc, x1, hE⟩ := px
          have hnn : (keptL H (i + 1)).length = nn := by rw [kept_len]; exact HLN.out.symm
          rw [hnn] at x0 x1
          have hgrow : kn < nn → (keptL H i).length < (keptL H (i + 1)).length := fun hh => by rw [kept_len, kept_len, ← HLK.out, ← HLN.out]; exact hh
          have HG := Lib.hid hgrow
          obtain ⟨m, rfl⟩ : ∃ m, nn = m + 1 := ⟨nn - 1, by have := HL.out; have := HLN.out; omega⟩
          have hmin : min ((kn : Int) + 1) 40 = (m : Int) + 1 := by have := HL.out; have := HLN.out; have := HLK.out; omega
          have hk40 : kn ≤ 40 := by have := HL.out; have := HLN.out; have := HLK.out; omega
          have hm40 : m + 1 ≤ 40 := by have := HL.out; have := HLN.out; have := HLK.out; omega
          rw [Nat.add_sub_cancel] at x0 x1
          replace x0 := cell_regrown x0
          replace x1 := cell_regrown x1
          have c0 := cell_regrown (B4.cell (v := .int .i64 tq) 0 rfl)
          have c1' := cell_regrown (B4.cell (v := .slice ya yn yc) 1 rfl)
          have e1 : IntKind.i64.wrap (m : Int) = (m : Int) := by rw [IntKind.wrap_i64]; omega
          have e3 : IntKind.i64.wrap ((kn : Int) + 1) = (kn : Int) + 1 := by rw [IntKind.wrap_i64]; omega
          have e2 : (m : Int) < m + 1 := by omega
          have e5 : (0 : Int) ≤ (m : Int) := by omega
          clear hgrow hnn
          go_wp2
          refine wp_region_low2 noPosts 25 (by kernel_rfl) (by kernel_rfl) ?_
          simp only [List.take, List.drop]
          iterate 12 (refine low2_step (fun K hK => ?_); go_simp; first | (refine hK _ ?_; clear hK K) | (apply Exists.intro; refine ⟨fun p => ?_, hK _ ?_⟩; clear hK K))
          refine low2_min _ _ _ (by rfl) rfl .i64 ((kn : Int) + 1) 40 rfl rfl ?_
          rw [hmin]
          iterate 10 (refine low2_step (fun K hK => ?_); go_simp; first | (refine hK _ ?_; clear hK K) | (apply Exists.intro; refine ⟨fun p => ?_, hK _ ?_⟩; clear hK K))
          refine low2_reads 13 #[Wv tq xa xn xc, Wv tq ya yn yc] (.bool true) (by rfl) (fun w => by go_simp; try rfl) rfl (by kernel_rfl) (fun V1 hV hG => same_any tq _ _ _ _ _ _ _ V1 (hE.below hV) (E4.below hV)) ?_
          iterate 1 (refine low2_step (fun K hK => ?_); go_simp; first | (refine hK _ ?_; clear hK K) | (apply Exists.intro; refine ⟨fun p => ?_, hK _ ?_⟩; clear hK K))
          refine low2_nil ?_
          intro W7 hC
          have hb := hC.1
          replace E1 := E1.below hb
          replace B1 := B1.below hb
          replace hN := hN.below hb
          obtain ⟨hgg, hs⟩ := below_c (w := w) hb hgg
          clear hC hb x0 x1 c0 c1' hE E4 B4 hmin e1 e3 e2 e5
          go_wp2_with fail
          refine Calls.mono (shown_res (keptL H (i + 1)) t p _ _ _ _ (hR.below hgg) hN) ?_
          have hsh : z = 0 → kn < m + 1 → rW (shownM (keptL H (i + 1)) t p) = S ∧ rZ (shownM (keptL H (i + 1)) t p) = 0 := fun h0 hh => by
            have h1 := HS.out.2
            rw [h0] at h1
            rw [kept_shows EA.out (show i < 60 by omega) TB.out.1 TB.out.2 h1 (HG.out hh)]
            exact ⟨HS.out.1, h1⟩
          have hsp : spanM (keptL H (i + 1)) = (((keptL H (i + 1)).map Wld.t).getD 0 0, ((keptL H (i + 1)).map Wld.t).getD ((keptL H (i + 1)).length - 1) 0, 0) := by
            unfold spanM
            rw [if_pos (kept_valid EA.out (show i + 1 ≤ 60 by omega)), if_neg (by rw [kept_len]; omega)]
          obtain ⟨S1, hS1⟩ : ∃ S1, rW (shownM (keptL H (i + 1)) t p) = S1 := ⟨_, rfl⟩
          obtain ⟨z1, hz1⟩ : ∃ z1, rZ (shownM (keptL H (i + 1)) t p) = z1 := ⟨_, rfl⟩
          obtain ⟨lo, hlo⟩ : ∃ lo, ((keptL H (i + 1)).map Wld.t).getD 0 0 = lo := ⟨_, rfl⟩
          obtain ⟨hi', hhi⟩ : ∃ hi', ((keptL H (i + 1)).map Wld.t).getD ((keptL H (i + 1)).length - 1) 0 = hi' := ⟨_, rfl⟩
          rw [hlo, hhi] at hsp
          rw [hS1, hz1] at hsh ⊢
          have HSH := Lib.hid hsh
          clear hlo hhi hS1 hz1 hsh
          rintro e W8 ⟨a2, n2, c2, rfl, E2, hb⟩
          replace E1 := E1.below hb
          replace B1 := B1.below hb
          replace hN := hN.below hb
          obtain ⟨hgg, hs⟩ := below_c (w := w) hb hgg
          have hd := (Below.refl W8.heap.size W8).alloc (Nat.le_refl _) (.cells #[.int .i64 S1.t, .slice a2 n2 c2] 27)
          replace E1 := E1.below hd
          replace B1 := B1.below hd
          replace E2 := E2.below hd
          replace hN := hN.below hd
          obtain ⟨hgg, hs⟩ := below_c (w := w) hd hgg
          have B2 : Bk (W8.alloc (.cells #[.int .i64 S1.t, .slice a2 n2 c2] 27)) W8.heap.size #[.int .i64 S1.t, .slice a2 n2 c2] 27 := Bk.made _ _ _
          clear hb hd
          go_wp2_with fail
          refine Calls.mono (span_any (keptL H (i + 1)) _ _ _ _ hN (hR.below hgg)) ?_
          rw [hsp]
          simp only
          clear hsp
          rintro e W9 ⟨rfl, hb⟩
          replace E1 := E1.below hb
          replace B1 := B1.below hb
          replace E2 := E2.below hb
          replace B2 := B2.below hb
          replace hN := hN.below hb
          obtain ⟨hgg, hs⟩ := below_c (w := w) hb hgg
          clear hb
          have FIN := Lib.hid (And.intro hN (And.intro E1 (And.intro B1 hgg)))
          by_cases hz : z = 0
          · by_cases hlo : lo ≤ t
            · by_cases hg : kn < m + 1
              · obtain ⟨h1, h2⟩ := HSH.out hz hg
                subst h1 h2 hz
                have g1 : (kn : Int) < (m : Int) + 1 := by omega
                have d0 := B1.cell (v := .int .i64 S1.t) 0 rfl
                have d1 := B1.cell (v := .slice a1 n1 c1) 1 rfl
                have d2 := B2.cell (v := .int .i64 S1.t) 0 rfl
                have d3 := B2.cell (v := .slice a2 n2 c2) 1 rfl
                clear hN B1 B2
                go_wp2_with fail
                refine Calls.mono (same_any S1.t S1.es _ _ _ _ _ _ _ E2 E1) ?_
                rintro e WA ⟨rfl, hb⟩
                have hN := FIN.out.1.below hb
                have E1 := FIN.out.2.1.below hb
                have B1 := FIN.out.2.2.1.below hb
                obtain ⟨hgg, hs⟩ := below_c (w := w) hb hgg
                clear hb d0 d1 d2 d3 E2
                go_wp2_with fail
                go_roundw
                case rel => exact ⟨i + 1, _, _, _, by omega, rfl, by go_num, hN, E1, B1, hgg⟩
                case measure => simp [intOf]; omega
              · have g1 : ¬ (kn : Int) < (m : Int) + 1 := by omega
                subst hz
                clear hN E1 E2 B1 B2
                go_wp2_with fail
                go_roundw
                case rel => exact ⟨i + 1, _, _, _, by omega, rfl, by go_num, FIN.out.1, FIN.out.2.1, FIN.out.2.2.1, FIN.out.2.2.2⟩
                case measure => simp [intOf]; omega
            · subst hz
              clear hN E1 E2 B1 B2
              go_wp2_with fail
              go_roundw
              case rel => exact ⟨i + 1, _, _, _, by omega, rfl, by go_num, FIN.out.1, FIN.out.2.1, FIN.out.2.2.1, FIN.out.2.2.2⟩
              case measure => simp [intOf]; omega
          · have hzb : (z == 0) = false := by simpa using hz
            clear hN E1 E2 B1 B2
            go_wp2_with fail
            go_roundw
            case rel => exact ⟨i + 1, _, _, _, by omega, rfl, by go_num, FIN.out.1, FIN.out.2.1, FIN.out.2.2.1, FIN.out.2.2.2⟩
            case measure => simp [intOf]; omega
        · go_wp2_with fail
          refine Calls.mono (awake_any _ (hR.below hgg)) ?_
          rintro e W9 ⟨rfl, hb⟩
          obtain ⟨hgg, hs⟩ := below_c (w := w) hb hgg
          clear hb
          go_wp2
          go_returns
          exact ⟨rfl, hgg⟩
end Go.Proofs.YtjjodmkblpdnhaaDoor
