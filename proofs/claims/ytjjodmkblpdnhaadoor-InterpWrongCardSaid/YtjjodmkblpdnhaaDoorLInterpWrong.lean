/- InterpWrong: the walk. -/
import Derived.Test.YtjjodmkblpdnhaaDoorWrongPlain
import Derived.Test.YtjjodmkblpdnhaaDoorMinMax
set_option linter.unusedVariables false
set_option linter.unusedSimpArgs false
namespace Go.Proofs.YtjjodmkblpdnhaaDoor
open Go Go.RowKit Go.Sort
set_option maxRecDepth 100000
attribute [local go_sem] opLow opUpon opLow2 opUpon2

set_option maxHeartbeats 16000000 in
theorem iwrong_any (l : List Int) (a : Option Addr) (n c : Nat) (way x : Int) (hway : 0 ≤ way ∧ way ≤ 255) (hx : -9223372036854775808 ≤ x ∧ x ≤ 9223372036854775807) (w : World) (hR : RG w) (h : NumsAt w (.slice a n c) l) :
    Calls Tryd.prog 5 #[.slice a n c, .int .u8 way, .int .i64 x] w fun e w' => e = .returned (.bool true) ∧ Below w.heap.size w w' := by
  have hVH := built_valid (nums_nat h)
  have hlen : (built l (bnum l)).length ≤ 12 := by rw [built_len]; exact bnum_le l
  have hent := fun (i : Nat) (x : Wld) (hx : (built l (bnum l))[i]? = some x) => built_ent hx
  obtain ⟨H, hH⟩ : ∃ H, built l (bnum l) = H := ⟨_, rfl⟩
  have HX := Lib.hid hH
  rw [hH] at hVH hlen hent
  obtain ⟨wy0, wy1⟩ := hway
  obtain ⟨x0, x1⟩ := hx
  have HV := Lib.hid (And.intro hVH hent)
  clear hH hVH hent
  go_enter Tryd.func5, Tryd.ntmps5
  go_wp2_with fail
  refine Calls.mono (built_any l a n c _ (by first | exact h | exact h.below (by go_grown))) ?_
  rw [HX.out]
  rintro e W1 ⟨ha, hn, hc, sh, rfl, hF, hb1⟩
  have hH := hF.hist
  obtain ⟨hgg, hs1⟩ := below_c (w := w) hb1 (by go_grown)
  clear hF hb1 h
  have hln := hH.len
  have HL := Lib.hid hln
  have hn12 : hn ≤ 12 := by omega
  clear hln hlen
  by_cases h2 : hn < 2
  · have h2' : (hn : Int) < 2 := by omega
    go_wp2_with fail
    refine Calls.mono (awake_any _ (hR.below hgg)) ?_
    rintro e W9 ⟨rfl, hb⟩
    obtain ⟨hgg, hs⟩ := below_c (w := w) hb hgg
    clear hb
    go_wp2
    go_returns
    exact ⟨rfl, hgg⟩
  · obtain ⟨m, rfl⟩ : ∃ m, hn = m + 2 := ⟨hn - 2, by omega⟩
    obtain ⟨A, hA⟩ := at_lt (l := H) (i := 0) (by rw [← HL.out]; omega)
    obtain ⟨B, hB⟩ := at_lt (l := H) (i := 1) (by rw [← HL.out]; omega)
    have hAB := tick_lt HV.out.1.1.2 (by decide : 0 < 1) hA hB
    have VA := HV.out.1.1.1 A (List.mem_iff_getElem?.2 ⟨_, hA⟩)
    have VB := HV.out.1.1.1 B (List.mem_iff_getElem?.2 ⟨_, hB⟩)
    have ta0 := VA.1.1
    have ta1 := VA.1.2
    have HAB := Lib.hid (And.intro hA hB)
    have HGG := Lib.hid hgg
    clear hgg
    obtain ⟨b, off, rfl, pA⟩ := same_at hH hA
    obtain ⟨b', off', he, pB⟩ := same_at hH hB
    cases he
    obtain ⟨a0, aa, an, ac, a1, EA⟩ := pA
    obtain ⟨b0, ba, bn, bc, b1, EB⟩ := pB
    have hgg := HGG.out
    rw [Nat.zero_mul, Nat.add_zero] at a0 a1
    rw [Nat.one_mul] at b0 b1
    have lm0 : (0 : Int) < (m : Int) + 2 := by omega
    have lm1 : (1 : Int) < (m : Int) + 2 := by omega
    clear h2 hA hB VA VB HGG
    go_wp2_with (first | refine wpList_min2 _ rfl _ _ _ rfl _ _ _ rfl rfl ?_ | refine wpList_max2 _ rfl _ _ _ rfl _ _ _ rfl rfl ?_)
    have hno : ¬ okS H (min x (-1)) 0 := fun hk => by have := hk.2; omega
    have hsn := shown_no hno
    clear hno
    refine Calls.mono (shown_any H (min x (-1)) 0 _ _ _ _ (hR.below hgg) hH) ?_
    rw [hsn]
    clear hsn
    rintro e W2 ⟨rfl, hb⟩
    replace hH := hH.below hb
    replace EA := EA.below hb
    replace EB := EB.below hb
    replace a0 := cell_later hb a0
    replace a1 := cell_later hb a1
    replace b0 := cell_later hb b0
    replace b1 := cell_later hb b1
    obtain ⟨hgg, hs⟩ := below_c (w := w) hb hgg
    clear hb
    have hd := (Below.refl W2.heap.size W2).alloc (Nat.le_refl _) (.cells #[.int .i64 0, .slice none 0 0] 27)
    replace hH := hH.below hd
    replace EA := EA.below hd
    replace EB := EB.below hd
    replace a0 := cell_later hd a0
    replace a1 := cell_later hd a1
    replace b0 := cell_later hd b0
    replace b1 := cell_later hd b1
    obtain ⟨hgg, hs⟩ := below_c (w := w) hd hgg
    clear hd
    go_wp2_with (first | refine wpList_min2 _ rfl _ _ _ rfl _ _ _ rfl rfl ?_ | refine wpList_max2 _ rfl _ _ _ rfl _ _ _ rfl rfl ?_)
    have hno : ¬ okS H (max x 1073741825) 0 := fun hk => by have := hk.2; omega
    have hsn := shown_no hno
    clear hno
    refine Calls.mono (shown_any H (max x 1073741825) 0 _ _ _ _ (hR.below hgg) hH) ?_
    rw [hsn]
    clear hsn
    rintro e W3 ⟨rfl, hb⟩
    replace hH := hH.below hb
    replace EA := EA.below hb
    replace EB := EB.below hb
    replace a0 := cell_later hb a0
    replace a1 := cell_later hb a1
    replace b0 := cell_later hb b0
    replace b1 := cell_later hb b1
    obtain ⟨hgg, hs⟩ := below_c (w := w) hb hgg
    clear hb
    have hd := (Below.refl W3.heap.size W3).alloc (Nat.le_refl _) (.cells #[.int .i64 0, .slice none 0 0] 27)
    replace hH := hH.below hd
    replace EA := EA.below hd
    replace EB := EB.below hd
    replace a0 := cell_later hd a0
    replace a1 := cell_later hd a1
    replace b0 := cell_later hd b0
    replace b1 := cell_later hd b1
    obtain ⟨hgg, hs⟩ := below_c (w := w) hd hgg
    clear hd
    go_wp2_with (first | refine wpList_min2 _ rfl _ _ _ rfl _ _ _ rfl rfl ?_ | refine wpList_max2 _ rfl _ _ _ rfl _ _ _ rfl rfl ?_)
    have hno : ¬ okS H A.t (min x (-1)) := fun hk => by have := hk.2; omega
    have hsn := shown_no hno
    clear hno
    refine Calls.mono (shown_any H A.t (min x (-1)) _ _ _ _ (hR.below hgg) hH) ?_
    rw [hsn]
    clear hsn
    rintro e W4 ⟨rfl, hb⟩
    replace hH := hH.below hb
    replace EA := EA.below hb
    replace EB := EB.below hb
    replace a0 := cell_later hb a0
    replace a1 := cell_later hb a1
    replace b0 := cell_later hb b0
    replace b1 := cell_later hb b1
    obtain ⟨hgg, hs⟩ := below_c (w := w) hb hgg
    clear hb
    have hd := (Below.refl W4.heap.size W4).alloc (Nat.le_refl _) (.cells #[.int .i64 0, .slice none 0 0] 27)
    replace hH := hH.below hd
    replace EA := EA.below hd
    replace EB := EB.below hd
    replace a0 := cell_later hd a0
    replace a1 := cell_later hd a1
    replace b0 := cell_later hd b0
    replace b1 := cell_later hd b1
    obtain ⟨hgg, hs⟩ := below_c (w := w) hd hgg
    clear hd
    go_wp2_with (first | refine wpList_min2 _ rfl _ _ _ rfl _ _ _ rfl rfl ?_ | refine wpList_max2 _ rfl _ _ _ rfl _ _ _ rfl rfl ?_)
    have hno : ¬ okS H A.t (max x 16) := fun hk => by have := hk.2; omega
    have hsn := shown_no hno
    clear hno
    refine Calls.mono (shown_any H A.t (max x 16) _ _ _ _ (hR.below hgg) hH) ?_
    rw [hsn]
    clear hsn
    rintro e W5 ⟨rfl, hb⟩
    replace hH := hH.below hb
    replace EA := EA.below hb
    replace EB := EB.below hb
    replace a0 := cell_later hb a0
    replace a1 := cell_later hb a1
    replace b0 := cell_later hb b0
    replace b1 := cell_later hb b1
    obtain ⟨hgg, hs⟩ := below_c (w := w) hb hgg
    clear hb
    have hd := (Below.refl W5.heap.size W5).alloc (Nat.le_refl _) (.cells #[.int .i64 0, .slice none 0 0] 27)
    replace hH := hH.below hd
    replace EA := EA.below hd
    replace EB := EB.below hd
    replace a0 := cell_later hd a0
    replace a1 := cell_later hd a1
    replace b0 := cell_later hd b0
    replace b1 := cell_later hd b1
    obtain ⟨hgg, hs⟩ := below_c (w := w) hd hgg
    clear hd
    have hwk : True := trivial
    go_wp2_with fail
    have hno : ¬ okB A B (min x (-1)) 5 := fun hk => by have h1 := hk.2.2.1; have h2 := hk.2.2.2.1; have h3 := hk.2.2.2.2; omega
    have c0 := cell_regrown a0
    have c1 := cell_regrown a1
    have c2 := cell_regrown b0
    have c3 := cell_regrown b1
    refine wp_region_low2 noPosts 14 (by kernel_rfl) (by kernel_rfl) ?_
    simp only [List.take, List.drop]
    iterate 7 (refine low2_step (fun K hK => ?_); go_simp; first | (refine hK _ ?_; clear hK K) | (apply Exists.intro; refine ⟨fun p => ?_, hK _ ?_⟩; clear hK K))
    refine low2_min _ _ _ (by rfl) rfl .i64 x (-1) rfl rfl ?_
    refine low2_reads 17 #[Wv A.t aa an ac, Wv B.t ba bn bc, .int .i64 (min x (-1)), .int .i64 5] (.tuple #[Wv 0 none 0 0, .int .i64 2]) (by rfl) (fun w => by go_simp; try rfl) rfl (by kernel_rfl) (fun V1 hV hG => ?_) ?_
    · exact between_bad A B (min x (-1)) 5 _ _ _ _ _ _ V1 ((hR.below hgg).below hV) (EA.below hV) (EB.below hV) hno
    iterate 3 (refine low2_step (fun K hK => ?_); go_simp; first | (refine hK _ ?_; clear hK K) | (apply Exists.intro; refine ⟨fun p => ?_, hK _ ?_⟩; clear hK K))
    refine low2_new (.cells #[.int .i64 0, .slice none 0 0] 27) (by rfl) (fun w => by go_simp; try rfl) ?_
    intro gz
    refine low2_again 12 gz #[.int .i64 0, .slice none 0 0] 27 (by rfl) ⟨⟨12, .data⟩, by simp, rfl, rfl⟩ rfl (fun W B => by
        have c_0 := B.cell (v := .int .i64 0) 0 rfl
        have f_0 := B.free 0
        have c_1 := B.cell (v := .slice none 0 0) 1 rfl
        have f_1 := B.free 1
        have lt := B.lt
        go_simp
        first | exact ⟨by rw [setCell_again B rfl, setCell_again B rfl], rfl⟩ | exact ⟨by rw [setCell_again B rfl, setCell_again B rfl]; rfl, rfl⟩ | trace_state) ?_
    refine low2_nil ?_
    intro V0 hC
    have hb := hC.1
    clear hC c0 c1 c2 c3 hno
    replace hH := hH.below hb
    replace EA := EA.below hb
    replace EB := EB.below hb
    replace a0 := cell_later hb a0
    replace a1 := cell_later hb a1
    replace b0 := cell_later hb b0
    replace b1 := cell_later hb b1
    obtain ⟨hgg, hs⟩ := below_c (w := w) hb hgg
    clear hb
    go_wp2_with fail
    have hno : ¬ okB A B 6 5 := fun hk => by have h1 := hk.2.2.1; have h2 := hk.2.2.2.1; have h3 := hk.2.2.2.2; omega
    have c0 := cell_regrown a0
    have c1 := cell_regrown a1
    have c2 := cell_regrown b0
    have c3 := cell_regrown b1
    refine wp_region_low2 noPosts 12 (by kernel_rfl) (by kernel_rfl) ?_
    simp only [List.take, List.drop]
    iterate 6 (refine low2_step (fun K hK => ?_); go_simp; first | (refine hK _ ?_; clear hK K) | (apply Exists.intro; refine ⟨fun p => ?_, hK _ ?_⟩; clear hK K))
    refine low2_reads 17 #[Wv A.t aa an ac, Wv B.t ba bn bc, .int .i64 6, .int .i64 5] (.tuple #[Wv 0 none 0 0, .int .i64 2]) (by rfl) (fun w => by go_simp; try rfl) rfl (by kernel_rfl) (fun V1 hV hG => ?_) ?_
    · exact between_bad A B 6 5 _ _ _ _ _ _ V1 ((hR.below hgg).below hV) (EA.below hV) (EB.below hV) hno
    iterate 3 (refine low2_step (fun K hK => ?_); go_simp; first | (refine hK _ ?_; clear hK K) | (apply Exists.intro; refine ⟨fun p => ?_, hK _ ?_⟩; clear hK K))
    refine low2_new (.cells #[.int .i64 0, .slice none 0 0] 27) (by rfl) (fun w => by go_simp; try rfl) ?_
    intro gz
    refine low2_again 10 gz #[.int .i64 0, .slice none 0 0] 27 (by rfl) ⟨⟨10, .data⟩, by simp, rfl, rfl⟩ rfl (fun W B => by
        have c_0 := B.cell (v := .int .i64 0) 0 rfl
        have f_0 := B.free 0
        have c_1 := B.cell (v := .slice none 0 0) 1 rfl
        have f_1 := B.free 1
        have lt := B.lt
        go_simp
        first | exact ⟨by rw [setCell_again B rfl, setCell_again B rfl], rfl⟩ | exact ⟨by rw [setCell_again B rfl, setCell_again B rfl]; rfl, rfl⟩ | trace_state) ?_
    refine low2_nil ?_
    intro V1 hC
    have hb := hC.1
    clear hC c0 c1 c2 c3 hno
    replace hH := hH.below hb
    replace EA := EA.below hb
    replace EB := EB.below hb
    replace a0 := cell_later hb a0
    replace a1 := cell_later hb a1
    replace b0 := cell_later hb b0
    replace b1 := cell_later hb b1
    obtain ⟨hgg, hs⟩ := below_c (w := w) hb hgg
    clear hb
    go_wp2_with fail
    have hno : ¬ okB A B 0 (min x 0) := fun hk => by have h1 := hk.2.2.1; have h2 := hk.2.2.2.1; have h3 := hk.2.2.2.2; omega
    have c0 := cell_regrown a0
    have c1 := cell_regrown a1
    have c2 := cell_regrown b0
    have c3 := cell_regrown b1
    refine wp_region_low2 noPosts 14 (by kernel_rfl) (by kernel_rfl) ?_
    simp only [List.take, List.drop]
    iterate 7 (refine low2_step (fun K hK => ?_); go_simp; first | (refine hK _ ?_; clear hK K) | (apply Exists.intro; refine ⟨fun p => ?_, hK _ ?_⟩; clear hK K))
    refine low2_min _ _ _ (by rfl) rfl .i64 x 0 rfl rfl ?_
    refine low2_reads 17 #[Wv A.t aa an ac, Wv B.t ba bn bc, .int .i64 0, .int .i64 (min x 0)] (.tuple #[Wv 0 none 0 0, .int .i64 2]) (by rfl) (fun w => by go_simp; try rfl) rfl (by kernel_rfl) (fun V1 hV hG => ?_) ?_
    · exact between_bad A B 0 (min x 0) _ _ _ _ _ _ V1 ((hR.below hgg).below hV) (EA.below hV) (EB.below hV) hno
    iterate 3 (refine low2_step (fun K hK => ?_); go_simp; first | (refine hK _ ?_; clear hK K) | (apply Exists.intro; refine ⟨fun p => ?_, hK _ ?_⟩; clear hK K))
    refine low2_new (.cells #[.int .i64 0, .slice none 0 0] 27) (by rfl) (fun w => by go_simp; try rfl) ?_
    intro gz
    refine low2_again 12 gz #[.int .i64 0, .slice none 0 0] 27 (by rfl) ⟨⟨12, .data⟩, by simp, rfl, rfl⟩ rfl (fun W B => by
        have c_0 := B.cell (v := .int .i64 0) 0 rfl
        have f_0 := B.free 0
        have c_1 := B.cell (v := .slice none 0 0) 1 rfl
        have f_1 := B.free 1
        have lt := B.lt
        go_simp
        first | exact ⟨by rw [setCell_again B rfl, setCell_again B rfl], rfl⟩ | exact ⟨by rw [setCell_again B rfl, setCell_again B rfl]; rfl, rfl⟩ | trace_state) ?_
    refine low2_nil ?_
    intro V2 hC
    have hb := hC.1
    clear hC c0 c1 c2 c3 hno
    replace hH := hH.below hb
    replace EA := EA.below hb
    replace EB := EB.below hb
    replace a0 := cell_later hb a0
    replace a1 := cell_later hb a1
    replace b0 := cell_later hb b0
    replace b1 := cell_later hb b1
    obtain ⟨hgg, hs⟩ := below_c (w := w) hb hgg
    clear hb
    go_wp2_with fail
    have hno : ¬ okB B A 0 1 := fun hk => by have h1 := hk.2.2.1; have h2 := hk.2.2.2.1; have h3 := hk.2.2.2.2; omega
    have c0 := cell_regrown a0
    have c1 := cell_regrown a1
    have c2 := cell_regrown b0
    have c3 := cell_regrown b1
    refine wp_region_low2 noPosts 12 (by kernel_rfl) (by kernel_rfl) ?_
    simp only [List.take, List.drop]
    iterate 6 (refine low2_step (fun K hK => ?_); go_simp; first | (refine hK _ ?_; clear hK K) | (apply Exists.intro; refine ⟨fun p => ?_, hK _ ?_⟩; clear hK K))
    refine low2_reads 17 #[Wv B.t ba bn bc, Wv A.t aa an ac, .int .i64 0, .int .i64 1] (.tuple #[Wv 0 none 0 0, .int .i64 2]) (by rfl) (fun w => by go_simp; try rfl) rfl (by kernel_rfl) (fun V1 hV hG => ?_) ?_
    · exact between_bad B A 0 1 _ _ _ _ _ _ V1 ((hR.below hgg).below hV) (EB.below hV) (EA.below hV) hno
    iterate 3 (refine low2_step (fun K hK => ?_); go_simp; first | (refine hK _ ?_; clear hK K) | (apply Exists.intro; refine ⟨fun p => ?_, hK _ ?_⟩; clear hK K))
    refine low2_new (.cells #[.int .i64 0, .slice none 0 0] 27) (by rfl) (fun w => by go_simp; try rfl) ?_
    intro gz
    refine low2_again 10 gz #[.int .i64 0, .slice none 0 0] 27 (by rfl) ⟨⟨10, .data⟩, by simp, rfl, rfl⟩ rfl (fun W B => by
        have c_0 := B.cell (v := .int .i64 0) 0 rfl
        have f_0 := B.free 0
        have c_1 := B.cell (v := .slice none 0 0) 1 rfl
        have f_1 := B.free 1
        have lt := B.lt
        go_simp
        first | exact ⟨by rw [setCell_again B rfl, setCell_again B rfl], rfl⟩ | exact ⟨by rw [setCell_again B rfl, setCell_again B rfl]; rfl, rfl⟩ | trace_state) ?_
    refine low2_nil ?_
    intro V3 hC
    have hb := hC.1
    clear hC c0 c1 c2 c3 hno
    replace hH := hH.below hb
    replace EA := EA.below hb
    replace EB := EB.below hb
    replace a0 := cell_later hb a0
    replace a1 := cell_later hb a1
    replace b0 := cell_later hb b0
    replace b1 := cell_later hb b1
    obtain ⟨hgg, hs⟩ := below_c (w := w) hb hgg
    clear hb
    go_wp2_with fail
    have hno : ¬ okB A A 0 1 := fun hk => by have h1 := hk.2.2.1; have h2 := hk.2.2.2.1; have h3 := hk.2.2.2.2; omega
    have c0 := cell_regrown a0
    have c1 := cell_regrown a1
    have c2 := cell_regrown b0
    have c3 := cell_regrown b1
    refine wp_region_low2 noPosts 12 (by kernel_rfl) (by kernel_rfl) ?_
    simp only [List.take, List.drop]
    iterate 6 (refine low2_step (fun K hK => ?_); go_simp; first | (refine hK _ ?_; clear hK K) | (apply Exists.intro; refine ⟨fun p => ?_, hK _ ?_⟩; clear hK K))
    refine low2_reads 17 #[Wv A.t aa an ac, Wv A.t aa an ac, .int .i64 0, .int .i64 1] (.tuple #[Wv 0 none 0 0, .int .i64 2]) (by rfl) (fun w => by go_simp; try rfl) rfl (by kernel_rfl) (fun V1 hV hG => ?_) ?_
    · exact between_bad A A 0 1 _ _ _ _ _ _ V1 ((hR.below hgg).below hV) (EA.below hV) (EA.below hV) hno
    iterate 3 (refine low2_step (fun K hK => ?_); go_simp; first | (refine hK _ ?_; clear hK K) | (apply Exists.intro; refine ⟨fun p => ?_, hK _ ?_⟩; clear hK K))
    refine low2_new (.cells #[.int .i64 0, .slice none 0 0] 27) (by rfl) (fun w => by go_simp; try rfl) ?_
    intro gz
    refine low2_again 10 gz #[.int .i64 0, .slice none 0 0] 27 (by rfl) ⟨⟨10, .data⟩, by simp, rfl, rfl⟩ rfl (fun W B => by
        have c_0 := B.cell (v := .int .i64 0) 0 rfl
        have f_0 := B.free 0
        have c_1 := B.cell (v := .slice none 0 0) 1 rfl
        have f_1 := B.free 1
        have lt := B.lt
        go_simp
        first | exact ⟨by rw [setCell_again B rfl, setCell_again B rfl], rfl⟩ | exact ⟨by rw [setCell_again B rfl, setCell_again B rfl]; rfl, rfl⟩ | trace_state) ?_
    refine low2_nil ?_
    intro V4 hC
    have hb := hC.1
    clear hC c0 c1 c2 c3 hno
    replace hH := hH.below hb
    replace EA := EA.below hb
    replace EB := EB.below hb
    replace a0 := cell_later hb a0
    replace a1 := cell_later hb a1
    replace b0 := cell_later hb b0
    replace b1 := cell_later hb b1
    obtain ⟨hgg, hs⟩ := below_c (w := w) hb hgg
    clear hb
    go_wp2_with fail
    clear a0 a1 b0 b1 EA EB
    have hd := (Below.refl V4.heap.size V4).alloc (Nat.le_refl _) (.cells #[.int .i64 2, .int .i64 2, .int .i64 2, .int .i64 2, .int .i64 2, .int .i64 2, .int .i64 2, .int .i64 2, .int .i64 2] 28)
    replace hH := hH.below hd
    obtain ⟨hgg, hs⟩ := below_c (w := w) hd hgg
    have B9 : Bk (V4.alloc (.cells #[.int .i64 2, .int .i64 2, .int .i64 2, .int .i64 2, .int .i64 2, .int .i64 2, .int .i64 2, .int .i64 2, .int .i64 2] 28)) V4.heap.size #[.int .i64 2, .int .i64 2, .int .i64 2, .int .i64 2, .int .i64 2, .int .i64 2, .int .i64 2, .int .i64 2, .int .i64 2] 28 := Bk.made _ _ _
    clear hd
    have nine : ∀ j : Nat, j < 9 → (#[.int .i64 2, .int .i64 2, .int .i64 2, .int .i64 2, .int .i64 2, .int .i64 2, .int .i64 2, .int .i64 2, .int .i64 2] : Array Value)[j]? = some (.int .i64 2) := fun j hj => by
      match j, hj with
      | 0, _ => rfl
      | 1, _ => rfl
      | 2, _ => rfl
      | 3, _ => rfl
      | 4, _ => rfl
      | 5, _ => rfl
      | 6, _ => rfl
      | 7, _ => rfl
      | 8, _ => rfl
    have N9 := Lib.hid nine
    clear nine
    go_loopw [135] (fun v135 wr => ∃ j : Nat, j ≤ 9 ∧ v135 = .int .i64 j ∧ Bk wr V4.heap.size #[.int .i64 2, .int .i64 2, .int .i64 2, .int .i64 2, .int .i64 2, .int .i64 2, .int .i64 2, .int .i64 2, .int .i64 2] 28 ∧ HistAt wr (.slice (some ⟨b, off, none⟩) (m + 2) hc) H ∧ Below w.heap.size w wr) (fun v135 _ => 9 - (intOf v135).toNat)
    case atStart => exact ⟨0, by omega, rfl, B9, hH, hgg⟩
    case round =>
      clear B9 hH hgg hs
      obtain ⟨j, hj, rfl, B9, hH, hgg⟩ := hrel
      by_cases hlt : j < 9
      · have cj := B9.cell (v := .int .i64 2) j (N9.out j hlt)
        have ej : (j : Int) < 9 := by omega
        go_wp2_with fail
        go_roundw
        case rel => exact ⟨j + 1, by omega, by go_num, B9, hH, hgg⟩
        case measure => simp [intOf]; omega
      · obtain rfl : j = 9 := by omega
        clear B9
        go_wp2_with fail
        refine Calls.mono (copied_any H _ _ _ wr hH) ?_
        rintro e Vc ⟨sa, sn, sc, ss, rfl, hS, hb⟩
        have hcap := hS.e.cap
        obtain ⟨g, cap, cur, pa, pn, pc, hv, hgb, hBg, hs0, k0, k1, hFA⟩ := hS.cells HAB.out.1
        injection hv with v1 v2 v3
        subst v1 v3
        rw [← HL.out] at v2
        subst v2
        obtain ⟨g', cap', cur', qa, qn, qc, hv', -, -, hs1, k2, k3, hFB⟩ := hS.cells HAB.out.2
        injection hv' with v1 v2 v3
        injection v1 with v1
        injection v1 with v1
        subst v1
        clear v2 v3
        have hbw := hb
        have HSZ2 : w.heap.size ≤ wr.heap.size := hgg.size
        obtain ⟨hgg, hs⟩ := below_c (w := w) hb hgg
        simp only [Nat.zero_mul, Nat.add_zero, Nat.one_mul, Nat.zero_add] at k0 k1 k2 k3
        have fg0 := hBg.free 0
        have fg2 := hBg.free 2
        have ltg := hBg.lt
        have HS := Lib.hid (And.intro hS (And.intro hs1 (And.intro hFB (And.intro hH (And.intro hbw (And.intro hgb hgg))))))
        clear hS hs0 hs1 hFA hFB hH hb hbw hgb hBg
        obtain ⟨r, hr⟩ : ∃ r, way % 3 = r := ⟨_, rfl⟩
        have tr : Int.tmod way 3 = r := by rw [Int.tmod_eq_emod_of_nonneg wy0]; exact hr
        have hr3 : r = 0 ∨ r = 1 ∨ r = 2 := by omega
        rcases hr3 with rfl | rfl | rfl
        · have HB := Lib.hid (And.intro (HistE.tick HS.out.1.e HAB.out.2 A.t) (And.intro (bad_tick HAB.out.1 HAB.out.2 (Int.le_refl _)) (And.intro (HS.out.2.2.2.1.below (HS.out.2.2.2.2.1.setCell (p := ⟨g, 2, none⟩) (HS.out.2.2.2.2.2.1) (.int .i64 A.t))) (HS.out.2.2.2.2.2.2.setCell (p := ⟨g, 2, none⟩) (Nat.le_trans HSZ2 (HS.out.2.2.2.2.2.1)) (.int .i64 A.t)))))
          have HB0 := Lib.hid (And.intro (show (H.set 1 ⟨A.t, B.es⟩)[0]? = some A by rw [List.getElem?_set_ne (by decide)]; exact HAB.out.1) (show (A : Wld).t ≤ A.t by exact Int.le_refl _))
          have hgg := HB.out.2.2.2
          have hSp := HB.out.1
          have hH := HB.out.2.2.1
          have hbad := HB.out.2.1
          have hno : ¬ okS (H.set 1 ⟨A.t, B.es⟩) A.t 0 := fun hk => hbad hk.1
          go_wp2_with fail
          refine Calls.mono (shown_any (H.set 1 ⟨A.t, B.es⟩) A.t 0 _ _ _ _ (hR.below hgg) hSp.hist) ?_
          rw [shown_no hno]
          rintro e U1 ⟨rfl, hb⟩
          clear k0 k1 k2 k3 fg0 fg2
          replace hSp := hSp.below hb
          replace hH := hH.below hb
          obtain ⟨hgg, hs⟩ := below_c (w := w) hb hgg
          clear hb hno
          go_wp2_with fail
          refine Calls.mono (span_any (H.set 1 ⟨A.t, B.es⟩) _ _ _ _ hSp.hist (hR.below hgg)) ?_
          rw [span_bad hbad]
          simp only
          rintro e U2 ⟨rfl, hb⟩
          replace hSp := hSp.below hb
          replace hH := hH.below hb
          obtain ⟨hgg, hs⟩ := below_c (w := w) hb hgg
          clear hb
          go_wp2_with fail
          refine Calls.mono (since_any (H.set 1 ⟨A.t, B.es⟩) 0 _ _ _ _ hSp.hist hcap (hR.below hgg)) ?_
          rintro e U3 ⟨hsin, hb⟩
          rw [if_neg hbad] at hsin
          subst hsin
          replace hSp := hSp.below hb
          replace hH := hH.below hb
          obtain ⟨hgg, hs⟩ := below_c (w := w) hb hgg
          clear hb
          go_wp2_with fail
          refine Calls.mono (at_any 500 0 0 _) ?_
          rintro e U4 ⟨ya, yn, yc, rfl, hF, hb⟩
          have E4 : EntsAt U4 (.slice ya yn yc) (atW 500 0 0).es := hF.ents
          replace hSp := hSp.below hb
          replace hH := hH.below hb
          obtain ⟨hgg, hs⟩ := below_c (w := w) hb hgg
          clear hb hF
          go_wp2_with fail
          refine Calls.mono (push_any (H.set 1 ⟨A.t, B.es⟩) (atW 500 0 0) _ _ _ _ _ _ _ hSp.hist E4 (hR.below hgg)) ?_
          rw [push_bad hbad]
          rintro e U5 ⟨rfl, hb⟩
          replace hSp := hSp.below hb
          replace hH := hH.below hb
          obtain ⟨hgg, hs⟩ := below_c (w := w) hb hgg
          clear hb E4
          obtain ⟨g2, cap2, cur2, za, zn, zc, hv2, -, -, -, z0, z1, hFZ⟩ := hSp.cells (i := 0) (W := A) HB0.out.1
          injection hv2 with v1 v2 v3
          injection v1 with v1
          injection v1 with v1
          subst v1
          clear v2 v3
          simp only [Nat.zero_mul, Nat.add_zero, Nat.zero_add] at z0 z1
          go_wp2_with fail
          refine Calls.mono (push_any H (A) _ _ _ _ _ _ _ hH hFZ.ents (hR.below hgg)) ?_
          rw [push_old HV.out.1 HAB.out.1 HB0.out.2]
          rintro e U6 ⟨rfl, hb⟩
          replace hSp := hSp.below hb
          obtain ⟨hgg, hs⟩ := below_c (w := w) hb hgg
          clear hb z0 z1 hFZ hH
          go_wp2_with fail
          refine Calls.mono (validH_any (H.set 1 ⟨A.t, B.es⟩) _ _ _ _ hSp.hist (hR.below hgg)) ?_
          rw [decide_eq_false hbad]
          rintro e U7 ⟨rfl, hb⟩
          obtain ⟨hgg, hs⟩ := below_c (w := w) hb hgg
          clear hb hSp
          go_wp2_with fail
          refine Calls.mono (awake_any _ (hR.below hgg)) ?_
          rintro e U8 ⟨rfl, hb⟩
          obtain ⟨hgg, hs⟩ := below_c (w := w) hb hgg
          clear hb
          go_wp2
          go_returns
          exact ⟨rfl, hgg⟩
        · obtain ⟨ee, hee⟩ := HV.out.2 1 B HAB.out.2
          obtain ⟨es', hES⟩ := HS.out.2.2.1.open
          obtain ⟨ge, capE, ea, en, ec, hv, -, m0, -⟩ := hES.ent hee
          injection hv with v1 v2 v3
          subst v1 v3
          simp only [Nat.zero_mul, Nat.add_zero] at m0
          obtain ⟨curE, hBE⟩ : ∃ curE, Bk Vc ge curE 47 := by
            rcases hES.2.2.1.2 with ⟨hv, -⟩ | ⟨g', cap', cur, hv, -, hh, -⟩
            · cases hv
            · cases hv; exact ⟨cur, hh⟩
          have fe0 := hBE.free 0
          have hqn : (0 : Int) < qn := by have := (List.getElem?_eq_some_iff.1 hee).1; omega
          have hqn2 : 0 < qn := by omega
          have HEE := Lib.hid hee
          have hge := (Fresh.lt HS.out.2.2.1 (b := ge) rfl).1
          have HGE := Lib.hid hge
          clear hES v2 hee hge
          have HB := Lib.hid (And.intro (HS.out.1.id0 HAB.out.2 HS.out.2.1 HEE.out) (And.intro (bad_id HAB.out.2 HEE.out) (And.intro (HS.out.2.2.2.1.below (HS.out.2.2.2.2.1.setCell (p := ⟨ge, 0, none⟩) (HGE.out) (.int .i64 0))) (HS.out.2.2.2.2.2.2.setCell (p := ⟨ge, 0, none⟩) (Nat.le_trans HSZ2 (HGE.out)) (.int .i64 0)))))
          have HB0 := Lib.hid (And.intro (show (H.set 1 ⟨B.t, B.es.set 0 ⟨0, ee.cs⟩⟩)[0]? = some A by rw [List.getElem?_set_ne (by decide)]; exact HAB.out.1) (show (A : Wld).t ≤ A.t by exact Int.le_refl _))
          have hgg := HB.out.2.2.2
          have hSp := HB.out.1
          have hH := HB.out.2.2.1
          have hbad := HB.out.2.1
          have hno : ¬ okS (H.set 1 ⟨B.t, B.es.set 0 ⟨0, ee.cs⟩⟩) A.t 0 := fun hk => hbad hk.1
          go_wp2_with fail
          refine Calls.mono (shown_any (H.set 1 ⟨B.t, B.es.set 0 ⟨0, ee.cs⟩⟩) A.t 0 _ _ _ _ (hR.below hgg) hSp.hist) ?_
          rw [shown_no hno]
          rintro e U1 ⟨rfl, hb⟩
          clear k0 k1 k2 k3 fg0 fg2 m0 fe0
          replace hSp := hSp.below hb
          replace hH := hH.below hb
          obtain ⟨hgg, hs⟩ := below_c (w := w) hb hgg
          clear hb hno
          go_wp2_with fail
          refine Calls.mono (span_any (H.set 1 ⟨B.t, B.es.set 0 ⟨0, ee.cs⟩⟩) _ _ _ _ hSp.hist (hR.below hgg)) ?_
          rw [span_bad hbad]
          simp only
          rintro e U2 ⟨rfl, hb⟩
          replace hSp := hSp.below hb
          replace hH := hH.below hb
          obtain ⟨hgg, hs⟩ := below_c (w := w) hb hgg
          clear hb
          go_wp2_with fail
          refine Calls.mono (since_any (H.set 1 ⟨B.t, B.es.set 0 ⟨0, ee.cs⟩⟩) 0 _ _ _ _ hSp.hist hcap (hR.below hgg)) ?_
          rintro e U3 ⟨hsin, hb⟩
          rw [if_neg hbad] at hsin
          subst hsin
          replace hSp := hSp.below hb
          replace hH := hH.below hb
          obtain ⟨hgg, hs⟩ := below_c (w := w) hb hgg
          clear hb
          go_wp2_with fail
          refine Calls.mono (at_any 500 0 0 _) ?_
          rintro e U4 ⟨ya, yn, yc, rfl, hF, hb⟩
          have E4 : EntsAt U4 (.slice ya yn yc) (atW 500 0 0).es := hF.ents
          replace hSp := hSp.below hb
          replace hH := hH.below hb
          obtain ⟨hgg, hs⟩ := below_c (w := w) hb hgg
          clear hb hF
          go_wp2_with fail
          refine Calls.mono (push_any (H.set 1 ⟨B.t, B.es.set 0 ⟨0, ee.cs⟩⟩) (atW 500 0 0) _ _ _ _ _ _ _ hSp.hist E4 (hR.below hgg)) ?_
          rw [push_bad hbad]
          rintro e U5 ⟨rfl, hb⟩
          replace hSp := hSp.below hb
          replace hH := hH.below hb
          obtain ⟨hgg, hs⟩ := below_c (w := w) hb hgg
          clear hb E4
          obtain ⟨g2, cap2, cur2, za, zn, zc, hv2, -, -, -, z0, z1, hFZ⟩ := hSp.cells (i := 0) (W := A) HB0.out.1
          injection hv2 with v1 v2 v3
          injection v1 with v1
          injection v1 with v1
          subst v1
          clear v2 v3
          simp only [Nat.zero_mul, Nat.add_zero, Nat.zero_add] at z0 z1
          go_wp2_with fail
          refine Calls.mono (push_any H (A) _ _ _ _ _ _ _ hH hFZ.ents (hR.below hgg)) ?_
          rw [push_old HV.out.1 HAB.out.1 HB0.out.2]
          rintro e U6 ⟨rfl, hb⟩
          replace hSp := hSp.below hb
          obtain ⟨hgg, hs⟩ := below_c (w := w) hb hgg
          clear hb z0 z1 hFZ hH
          go_wp2_with fail
          refine Calls.mono (validH_any (H.set 1 ⟨B.t, B.es.set 0 ⟨0, ee.cs⟩⟩) _ _ _ _ hSp.hist (hR.below hgg)) ?_
          rw [decide_eq_false hbad]
          rintro e U7 ⟨rfl, hb⟩
          obtain ⟨hgg, hs⟩ := below_c (w := w) hb hgg
          clear hb hSp
          go_wp2_with fail
          refine Calls.mono (awake_any _ (hR.below hgg)) ?_
          rintro e U8 ⟨rfl, hb⟩
          obtain ⟨hgg, hs⟩ := below_c (w := w) hb hgg
          clear hb
          go_wp2
          go_returns
          exact ⟨rfl, hgg⟩
        · have HB := Lib.hid (And.intro (HistE.tick HS.out.1.e HAB.out.1 (-1)) (And.intro (bad_neg HAB.out.1) (And.intro (HS.out.2.2.2.1.below (HS.out.2.2.2.2.1.setCell (p := ⟨g, 0, none⟩) (HS.out.2.2.2.2.2.1) (.int .i64 (-1)))) (HS.out.2.2.2.2.2.2.setCell (p := ⟨g, 0, none⟩) (Nat.le_trans HSZ2 (HS.out.2.2.2.2.2.1)) (.int .i64 (-1))))))
          have HB0 := Lib.hid (And.intro (show (H.set 0 ⟨-1, A.es⟩)[0]? = some ⟨-1, A.es⟩ from List.getElem?_set_self (List.getElem?_eq_some_iff.1 HAB.out.1).1) (show (⟨-1, A.es⟩ : Wld).t ≤ A.t by show (-1 : Int) ≤ A.t; omega))
          have hgg := HB.out.2.2.2
          have hSp := HB.out.1
          have hH := HB.out.2.2.1
          have hbad := HB.out.2.1
          have hno : ¬ okS (H.set 0 ⟨-1, A.es⟩) A.t 0 := fun hk => hbad hk.1
          go_wp2_with fail
          refine Calls.mono (shown_any (H.set 0 ⟨-1, A.es⟩) A.t 0 _ _ _ _ (hR.below hgg) hSp.hist) ?_
          rw [shown_no hno]
          rintro e U1 ⟨rfl, hb⟩
          clear k0 k1 k2 k3 fg0 fg2
          replace hSp := hSp.below hb
          replace hH := hH.below hb
          obtain ⟨hgg, hs⟩ := below_c (w := w) hb hgg
          clear hb hno
          go_wp2_with fail
          refine Calls.mono (span_any (H.set 0 ⟨-1, A.es⟩) _ _ _ _ hSp.hist (hR.below hgg)) ?_
          rw [span_bad hbad]
          simp only
          rintro e U2 ⟨rfl, hb⟩
          replace hSp := hSp.below hb
          replace hH := hH.below hb
          obtain ⟨hgg, hs⟩ := below_c (w := w) hb hgg
          clear hb
          go_wp2_with fail
          refine Calls.mono (since_any (H.set 0 ⟨-1, A.es⟩) 0 _ _ _ _ hSp.hist hcap (hR.below hgg)) ?_
          rintro e U3 ⟨hsin, hb⟩
          rw [if_neg hbad] at hsin
          subst hsin
          replace hSp := hSp.below hb
          replace hH := hH.below hb
          obtain ⟨hgg, hs⟩ := below_c (w := w) hb hgg
          clear hb
          go_wp2_with fail
          refine Calls.mono (at_any 500 0 0 _) ?_
          rintro e U4 ⟨ya, yn, yc, rfl, hF, hb⟩
          have E4 : EntsAt U4 (.slice ya yn yc) (atW 500 0 0).es := hF.ents
          replace hSp := hSp.below hb
          replace hH := hH.below hb
          obtain ⟨hgg, hs⟩ := below_c (w := w) hb hgg
          clear hb hF
          go_wp2_with fail
          refine Calls.mono (push_any (H.set 0 ⟨-1, A.es⟩) (atW 500 0 0) _ _ _ _ _ _ _ hSp.hist E4 (hR.below hgg)) ?_
          rw [push_bad hbad]
          rintro e U5 ⟨rfl, hb⟩
          replace hSp := hSp.below hb
          replace hH := hH.below hb
          obtain ⟨hgg, hs⟩ := below_c (w := w) hb hgg
          clear hb E4
          obtain ⟨g2, cap2, cur2, za, zn, zc, hv2, -, -, -, z0, z1, hFZ⟩ := hSp.cells (i := 0) (W := ⟨-1, A.es⟩) HB0.out.1
          injection hv2 with v1 v2 v3
          injection v1 with v1
          injection v1 with v1
          subst v1
          clear v2 v3
          simp only [Nat.zero_mul, Nat.add_zero, Nat.zero_add] at z0 z1
          go_wp2_with fail
          refine Calls.mono (push_any H (⟨-1, A.es⟩) _ _ _ _ _ _ _ hH hFZ.ents (hR.below hgg)) ?_
          rw [push_old HV.out.1 HAB.out.1 HB0.out.2]
          rintro e U6 ⟨rfl, hb⟩
          replace hSp := hSp.below hb
          obtain ⟨hgg, hs⟩ := below_c (w := w) hb hgg
          clear hb z0 z1 hFZ hH
          go_wp2_with fail
          refine Calls.mono (validH_any (H.set 0 ⟨-1, A.es⟩) _ _ _ _ hSp.hist (hR.below hgg)) ?_
          rw [decide_eq_false hbad]
          rintro e U7 ⟨rfl, hb⟩
          obtain ⟨hgg, hs⟩ := below_c (w := w) hb hgg
          clear hb hSp
          go_wp2_with fail
          refine Calls.mono (awake_any _ (hR.below hgg)) ?_
          rintro e U8 ⟨rfl, hb⟩
          obtain ⟨hgg, hs⟩ := below_c (w := w) hb hgg
          clear hb
          go_wp2
          go_returns
          exact ⟨rfl, hgg⟩
end Go.Proofs.YtjjodmkblpdnhaaDoor
