/- marcheslaw28.awake. -/
import Derived.Test.YtjjodmkblpdnhaaDoorInterp6
import Derived.Test.YtjjodmkblpdnhaaDoorInterp9
set_option linter.unusedVariables false
set_option linter.unusedSimpArgs false
namespace Go.Proofs.YtjjodmkblpdnhaaDoor
open Go Go.RowKit Go.Sort
set_option maxRecDepth 100000
attribute [local go_sem] opLow opUpon opLow2 opUpon2

theorem shown_any (H : List Wld) (tick part : Int) (a : Option Addr) (n c : Nat) (w : World) (hR : RG w) (h : HistAt w (.slice a n c) H) :
    Calls Tryd.prog 11 #[.slice a n c, .int .i64 tick, .int .i64 part] w (ShownPost w (shownM H tick part)) := by
  by_cases hok : okS H tick part
  · exact shown_good H tick part a n c w hR h hok
  · exact shown_bad H tick part a n c w hR h hok
/-- the world that at makes -/
def atW (t x y : Int) : Wld := ⟨t, [⟨1, [⟨1, x, y, 0, 0⟩]⟩]⟩
def hEx : List Wld := [atW 10 0 0, atW 12 32 (-5)]
theorem ex1 : shownM hEx 11 0 = .ok (atW 11 16 (-3)) := by kernel_rfl
theorem ex2 : shownM hEx 10 8 = .ok (atW 10 8 (-2)) := by kernel_rfl
theorem ex3 : shownM hEx 12 0 = .ok (atW 12 32 (-5)) := by kernel_rfl
theorem ex4 : shownM hEx 13 0 = .error 6 := by kernel_rfl
theorem ex5 : shownM hEx 9 0 = .error 6 := by kernel_rfl
def aAt (w0 : World) : Array Value → Value → World → World → Prop := fun args v w1 w2 => w0.heap.size ≤ w1.heap.size ∧ ∃ (t x y : Int) (a : Option Addr) (n c : Nat), args = #[.int .i64 t, .int .i64 x, .int .i64 y] ∧ v = Wv t a n c ∧ Fresh w1.heap.size w2 (.slice a n c) (atW t x y).es
theorem hist_two {w : World} {g : Nat} {x y : Wld} {a a' : Option Addr} {n c n' c' : Nat} (h : Bk w g #[.int .i64 x.t, .slice a n c, .int .i64 y.t, .slice a' n' c'] 27) (h1 : EntsAt w (.slice a n c) x.es) (h2 : EntsAt w (.slice a' n' c') y.es) : HistAt w (.slice (some ⟨g, 0, none⟩) 2 2) [x, y] := by
  refine .inr ⟨g, 0, 2, rfl, by simp, fun i z hz => ?_⟩
  match i, hz with
  | 0, hz => cases hz; exact ⟨h.cell 0 rfl, a, n, c, h.cell 1 rfl, h1⟩
  | 1, hz => cases hz; exact ⟨h.cell 2 rfl, a', n', c', h.cell 3 rfl, h2⟩
  | i + 2, hz => simp at hz
set_option maxHeartbeats 8000000 in
theorem awake_any (w : World) (hR : RG w) :
    Calls Tryd.prog 15 #[] w fun e w' => e = .returned (.bool true) ∧ Below w.heap.size w w' := by
  go_enter Tryd.func15, Tryd.ntmps15
  go_wp2_with fail
  refine Calls.mono (at_any 10 0 0 _) ?_
  rintro e W1 ⟨a1, n1, c1, rfl, hF1, hb1⟩
  go_wp2_with fail
  refine Calls.mono (at_any 12 32 (-5) _) ?_
  rintro e W2 ⟨a2, n2, c2, rfl, hF2, hb2⟩
  have E1 : EntsAt W2 (.slice a1 n1 c1) (atW 10 0 0).es := hF1.ents.below hb2
  have E2 : EntsAt W2 (.slice a2 n2 c2) (atW 12 32 (-5)).es := hF2.ents
  obtain ⟨hgg, hs⟩ := below_c (w := w) hb2 hb1
  clear hF1 hF2 hb1 hb2
  go_wp2_with fail
  have hd := (Below.refl W2.heap.size W2).alloc (Nat.le_refl _) (.cells #[.int .i64 10, .slice a1 n1 c1, .int .i64 12, .slice a2 n2 c2] 27)
  have BH : Bk (W2.alloc (.cells #[.int .i64 10, .slice a1 n1 c1, .int .i64 12, .slice a2 n2 c2] 27)) W2.heap.size #[.int .i64 10, .slice a1 n1 c1, .int .i64 12, .slice a2 n2 c2] 27 := Bk.made _ _ _
  have hH : HistAt (W2.alloc (.cells #[.int .i64 10, .slice a1 n1 c1, .int .i64 12, .slice a2 n2 c2] 27)) (.slice (some ⟨W2.heap.size, 0, none⟩) 2 2) hEx := hist_two (x := atW 10 0 0) (y := atW 12 32 (-5)) BH (E1.below hd) (E2.below hd)
  obtain ⟨hgg, hs⟩ := below_c (w := w) hd hgg
  have E2 := E2.below hd
  refine Calls.mono (shown_any hEx 11 0 _ _ _ _ (hR.below hgg) hH) ?_
  rw [ex1]
  rintro e W3 ⟨⟨a3, n3, c3, rfl, hF⟩, hb⟩
  have E3 : EntsAt W3 (.slice a3 n3 c3) (atW 11 16 (-3)).es := hF.ents
  clear hF
  replace BH := BH.below hb
  replace hH := hH.below hb
  replace E2 := E2.below hb
  obtain ⟨hgg, hs⟩ := below_c (w := w) hb hgg
  have hd := (Below.refl W3.heap.size W3).alloc (Nat.le_refl _) (.cells #[.int .i64 11, .slice a3 n3 c3] 27)
  replace BH := BH.below hd
  replace hH := hH.below hd
  replace E2 := E2.below hd
  replace E3 := E3.below hd
  obtain ⟨hgg, hs⟩ := below_c (w := w) hd hgg
  have B3 : Bk (W3.alloc (.cells #[.int .i64 11, .slice a3 n3 c3] 27)) W3.heap.size #[.int .i64 11, .slice a3 n3 c3] 27 := Bk.made _ _ _
  go_wp2_with fail
  refine Calls.mono (shown_any hEx 10 8 _ _ _ _ (hR.below hgg) hH) ?_
  rw [ex2]
  rintro e W4 ⟨⟨a4, n4, c4, rfl, hF⟩, hb⟩
  have E4 : EntsAt W4 (.slice a4 n4 c4) (atW 10 8 (-2)).es := hF.ents
  clear hF
  replace BH := BH.below hb
  replace hH := hH.below hb
  replace E2 := E2.below hb
  replace E3 := E3.below hb
  replace B3 := B3.below hb
  obtain ⟨hgg, hs⟩ := below_c (w := w) hb hgg
  have hd := (Below.refl W4.heap.size W4).alloc (Nat.le_refl _) (.cells #[.int .i64 10, .slice a4 n4 c4] 27)
  replace BH := BH.below hd
  replace hH := hH.below hd
  replace E2 := E2.below hd
  replace E3 := E3.below hd
  replace B3 := B3.below hd
  replace E4 := E4.below hd
  obtain ⟨hgg, hs⟩ := below_c (w := w) hd hgg
  have B4 : Bk (W4.alloc (.cells #[.int .i64 10, .slice a4 n4 c4] 27)) W4.heap.size #[.int .i64 10, .slice a4 n4 c4] 27 := Bk.made _ _ _
  go_wp2_with fail
  refine Calls.mono (shown_any hEx 12 0 _ _ _ _ (hR.below hgg) hH) ?_
  rw [ex3]
  rintro e W5 ⟨⟨a5, n5, c5, rfl, hF⟩, hb⟩
  have E5 : EntsAt W5 (.slice a5 n5 c5) (atW 12 32 (-5)).es := hF.ents
  clear hF
  replace BH := BH.below hb
  replace hH := hH.below hb
  replace E2 := E2.below hb
  replace E3 := E3.below hb
  replace B3 := B3.below hb
  replace E4 := E4.below hb
  replace B4 := B4.below hb
  obtain ⟨hgg, hs⟩ := below_c (w := w) hb hgg
  have hd := (Below.refl W5.heap.size W5).alloc (Nat.le_refl _) (.cells #[.int .i64 12, .slice a5 n5 c5] 27)
  replace BH := BH.below hd
  replace hH := hH.below hd
  replace E2 := E2.below hd
  replace E3 := E3.below hd
  replace B3 := B3.below hd
  replace E4 := E4.below hd
  replace B4 := B4.below hd
  replace E5 := E5.below hd
  obtain ⟨hgg, hs⟩ := below_c (w := w) hd hgg
  have B5 : Bk (W5.alloc (.cells #[.int .i64 12, .slice a5 n5 c5] 27)) W5.heap.size #[.int .i64 12, .slice a5 n5 c5] 27 := Bk.made _ _ _
  go_wp2_with fail
  refine Calls.mono (shown_any hEx 13 0 _ _ _ _ (hR.below hgg) hH) ?_
  rw [ex4]
  rintro e W6 ⟨rfl, hb⟩
  replace BH := BH.below hb
  replace hH := hH.below hb
  replace E2 := E2.below hb
  replace E3 := E3.below hb
  replace B3 := B3.below hb
  replace E4 := E4.below hb
  replace B4 := B4.below hb
  replace E5 := E5.below hb
  replace B5 := B5.below hb
  obtain ⟨hgg, hs⟩ := below_c (w := w) hb hgg
  have hd := (Below.refl W6.heap.size W6).alloc (Nat.le_refl _) (.cells #[.int .i64 0, .slice none 0 0] 27)
  replace BH := BH.below hd
  replace hH := hH.below hd
  replace E2 := E2.below hd
  replace E3 := E3.below hd
  replace B3 := B3.below hd
  replace E4 := E4.below hd
  replace B4 := B4.below hd
  replace E5 := E5.below hd
  replace B5 := B5.below hd
  obtain ⟨hgg, hs⟩ := below_c (w := w) hd hgg
  go_wp2_with fail
  refine Calls.mono (shown_any hEx 9 0 _ _ _ _ (hR.below hgg) hH) ?_
  rw [ex5]
  rintro e W7 ⟨rfl, hb⟩
  replace BH := BH.below hb
  replace hH := hH.below hb
  replace E2 := E2.below hb
  replace E3 := E3.below hb
  replace B3 := B3.below hb
  replace E4 := E4.below hb
  replace B4 := B4.below hb
  replace E5 := E5.below hb
  replace B5 := B5.below hb
  obtain ⟨hgg, hs⟩ := below_c (w := w) hb hgg
  have hd := (Below.refl W7.heap.size W7).alloc (Nat.le_refl _) (.cells #[.int .i64 0, .slice none 0 0] 27)
  replace BH := BH.below hd
  replace hH := hH.below hd
  replace E2 := E2.below hd
  replace E3 := E3.below hd
  replace B3 := B3.below hd
  replace E4 := E4.below hd
  replace B4 := B4.below hd
  replace E5 := E5.below hd
  replace B5 := B5.below hd
  obtain ⟨hgg, hs⟩ := below_c (w := w) hd hgg
  go_wp2
  refine wp_name (fun V => Bk V W2.heap.size #[.int .i64 10, .slice a1 n1 c1, .int .i64 12, .slice a2 n2 c2] 27 ∧ EntsAt V (.slice a2 n2 c2) (atW 12 32 (-5)).es ∧ EntsAt V (.slice a3 n3 c3) (atW 11 16 (-3)).es ∧ EntsAt V (.slice a4 n4 c4) (atW 10 8 (-2)).es ∧ EntsAt V (.slice a5 n5 c5) (atW 12 32 (-5)).es ∧ Bk V W3.heap.size #[.int .i64 11, .slice a3 n3 c3] 27 ∧ Bk V W4.heap.size #[.int .i64 10, .slice a4 n4 c4] 27 ∧ Bk V W5.heap.size #[.int .i64 12, .slice a5 n5 c5] 27 ∧ Below w.heap.size w V) ⟨BH, E2, E3, E4, E5, B3, B4, B5, hgg⟩ ?_
  clear BH E2 E3 E4 E5 B3 B4 B5 hgg hs hH hd hb E1
  rintro V ⟨BH, E2, E3, E4, E5, B3, B4, B5, hgg⟩
  have s0 := cell_regrown (B3.cell (v := .int .i64 11) 0 rfl)
  have s1 := cell_regrown (B3.cell (v := .slice a3 n3 c3) 1 rfl)
  have t0 := cell_regrown (B4.cell (v := .int .i64 10) 0 rfl)
  have t1 := cell_regrown (B4.cell (v := .slice a4 n4 c4) 1 rfl)
  have u0 := cell_regrown (B5.cell (v := .int .i64 12) 0 rfl)
  have u1 := cell_regrown (B5.cell (v := .slice a5 n5 c5) 1 rfl)
  have v0 := cell_regrown (BH.cell (v := .int .i64 12) 2 rfl)
  have v1 := cell_regrown (BH.cell (v := .slice a2 n2 c2) 3 rfl)
  clear BH B3 B4 B5
  refine wp_region_low2 (post1 12 (aAt V)) 35 (by kernel_rfl) (by kernel_rfl) ?_
  simp only [List.take, List.drop]
  iterate 12 (refine low2_step (fun K hK => ?_); go_simp; first | (refine hK _ ?_; clear hK K) | (apply Exists.intro; refine ⟨fun p => ?_, hK _ ?_⟩; clear hK K))
  refine low2_call 12 #[.int .i64 11, .int .i64 16, .int .i64 (-3)] (aAt V) (by rfl) (fun w => by go_simp; try rfl) (post1_same _ _) (fun V1 hV _ => ?_) ?_
  · refine (at_any 11 16 (-3) V1).mono ?_
    rintro e V' ⟨o, on, oc, rfl, h1, h2⟩
    exact ⟨_, rfl, ⟨hV.size, _, _, _, o, on, oc, rfl, rfl, h1⟩, h2⟩
  rintro v ⟨_, _, -, t', x', y', pa, pn, pc, hargs, rfl, -⟩
  cases hargs
  refine low2_reads 13 #[Wv 11 a3 n3 c3, Wv 11 pa pn pc] (.bool true) (by rfl) (fun w => by go_simp; try rfl) (post1_other _ (by decide)) (by kernel_rfl) (fun V1 hV hG => ?_) ?_
  · obtain ⟨u1', u2', ⟨_, t', x', y', oa, on, oc, hargs, hv, hFr⟩, -, hu2⟩ := hG 12 _ ⟨{ on := 12, ground := Ground.data }, by simp, rfl, rfl⟩ rfl
    cases hargs
    have hv2 : Value.slice pa pn pc = .slice oa on oc := by simpa [Wv] using hv
    rw [hv2.symm] at hFr
    exact same_any 11 (atW 11 16 (-3)).es _ _ _ _ _ _ V1 (E3.below hV) (hFr.ents.below hu2)
  iterate 3 (refine low2_step (fun K hK => ?_); go_simp; first | (refine hK _ ?_; clear hK K) | (apply Exists.intro; refine ⟨fun p => ?_, hK _ ?_⟩; clear hK K))
  refine low2_call 12 #[.int .i64 10, .int .i64 8, .int .i64 (-2)] (aAt V) (by rfl) (fun w => by go_simp; try rfl) (post1_same _ _) (fun V1 hV _ => ?_) ?_
  · refine (at_any 10 8 (-2) V1).mono ?_
    rintro e V' ⟨o, on, oc, rfl, h1, h2⟩
    exact ⟨_, rfl, ⟨hV.size, _, _, _, o, on, oc, rfl, rfl, h1⟩, h2⟩
  rintro v ⟨_, _, -, t', x', y', qa, qn, qc, hargs, rfl, -⟩
  cases hargs
  refine low2_reads 13 #[Wv 10 a4 n4 c4, Wv 10 qa qn qc] (.bool true) (by rfl) (fun w => by go_simp; try rfl) (post1_other _ (by decide)) (by kernel_rfl) (fun V1 hV hG => ?_) ?_
  · obtain ⟨u1', u2', ⟨_, t', x', y', oa, on, oc, hargs, hv, hFr⟩, -, hu2⟩ := hG 17 _ ⟨{ on := 17, ground := Ground.data }, by simp, rfl, rfl⟩ rfl
    cases hargs
    have hv2 : Value.slice qa qn qc = .slice oa on oc := by simpa [Wv] using hv
    rw [hv2.symm] at hFr
    exact same_any 10 (atW 10 8 (-2)).es _ _ _ _ _ _ V1 (E4.below hV) (hFr.ents.below hu2)
  iterate 6 (refine low2_step (fun K hK => ?_); go_simp; first | (refine hK _ ?_; clear hK K) | (apply Exists.intro; refine ⟨fun p => ?_, hK _ ?_⟩; clear hK K))
  refine low2_reads 13 #[Wv 12 a5 n5 c5, Wv 12 a2 n2 c2] (.bool true) (by rfl) (fun w => by go_simp; try rfl) (post1_other _ (by decide)) (by kernel_rfl) (fun V1 hV hG => same_any 12 (atW 12 32 (-5)).es _ _ _ _ _ _ V1 (E5.below hV) (E2.below hV)) ?_
  iterate 9 (refine low2_step (fun K hK => ?_); go_simp; first | (refine hK _ ?_; clear hK K) | (apply Exists.intro; refine ⟨fun p => ?_, hK _ ?_⟩; clear hK K))
  refine low2_nil ?_
  intro V2 hC
  have hb := hC.1
  obtain ⟨hgg, hs⟩ := below_c (w := w) hb hgg
  clear hC hb s0 s1 t0 t1 u0 u1 v0 v1
  go_wp2
  go_returns
  exact ⟨rfl, hgg⟩
end Go.Proofs.YtjjodmkblpdnhaaDoor
