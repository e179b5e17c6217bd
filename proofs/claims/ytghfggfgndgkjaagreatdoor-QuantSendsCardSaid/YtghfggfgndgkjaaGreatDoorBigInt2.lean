/- math/big: Int.Mul for numbers that are not negative. -/
import Derived.Test.YtghfggfgndgkjaaGreatDoorBigInt
import Derived.LaidEqlPtr
set_option linter.unusedVariables false
set_option linter.unusedSimpArgs false
namespace Go.Proofs.YtghfggfgndgkjaaGreatDoor
open Go.RowKit
set_option maxRecDepth 100000
attribute [local go_sem] opLow opUpon opLow2 opUpon2 opLow3

theorem ptr_ne (w : World) {gx gy : Nat} {cx cy : Array Value} (h : gx ≠ gy) (hx : Bk w gx cx 146) (hy : Bk w gy cy 146) : (binOp .eql 142 (.pointer (some ⟨gx, 0, none⟩)) (.pointer (some ⟨gy, 0, none⟩))).run Tryz.prog w = .ok (.bool false) w := by
  have hs : (Tryz.prog.info? 146).map (fun i => i.size) = some 2 := by kernel_rfl
  obtain ⟨j, hj, hjs⟩ := Option.map_eq_some_iff.1 hs
  exact run_eql_ptr_other w (tp := 142) (te := 146) (by kernel_rfl) hj (by rw [hjs]; decide) (fun e => h (by injection e)) hx hy
theorem S2.form {base : Nat} {V : World} {v : Value} {P : Nat} (h : S2 base V v P) : ∃ a n c, v = .slice a n c := by
  rcases h with ⟨_, h⟩ | ⟨_, b, _, h, _⟩
  · exact ⟨_, _, _, h⟩
  · exact ⟨_, _, _, h⟩
theorem S2.at {base : Nat} {w1 w2 V : World} {v : Value} {P : Nat} (h : S2 w1.heap.size w2 v P) (hp : ∀ b, w1.heap.size ≤ b → b < w2.heap.size → V.heap[b]? = w2.heap[b]?) (hb : base ≤ w1.heap.size) : S2 base V v P := by
  rcases h with h | ⟨h0, b, h1, h2, h3⟩
  · exact .inl h
  · refine .inr ⟨h0, b, by omega, h2, ?_⟩
    have := hp b h1 h3.lt
    unfold Bk at h3 ⊢
    rw [this]; exact h3
theorem Bk.same {V w2 : World} {b : Nat} {cs : Array Value} {t : TypeId} (h : Bk w2 b cs t) (hp : V.heap[b]? = w2.heap[b]?) : Bk V b cs t := by
  unfold Bk at h ⊢
  rw [hp]; exact h
theorem S2.set {base : Nat} {w : World} {v : Value} {P g i : Nat} {cs : Array Value} {u : Value} {t : TypeId} (h : S2 base w v P) (hg : Bk w g cs t) (ht : t ≠ 171) : S2 base (w.setCell ⟨g, i, none⟩ u) v P := by
  rcases h with h | ⟨h0, b, h1, h2, h3⟩
  · exact .inl h
  · refine .inr ⟨h0, b, h1, h2, h3.far (p := ⟨g, i, none⟩) (fun e => ?_) u⟩
    subst e
    unfold Bk at hg h3
    rw [h3] at hg
    injection hg with hg
    injection hg with h4 h5
    exact ht h5.symm
theorem word_ne_int {w : World} {g b : Nat} {cg cb : Array Value} (hg : Bk w g cg 146) (hb : Bk w b cb 171) : ¬ g = b := by
  rintro rfl
  unfold Bk at hg hb
  rw [hb] at hg
  injection hg with hg
  injection hg with h1 h2
  exact absurd h2 (by decide)
theorem one_ne_six {w : World} {g b x c0 c1 c2 c3 c4 c5 : Nat} (hg : Bk w g #[.int .u64 x] 171) (hb : Bk w b (W6 c0 c1 c2 c3 c4 c5) 171) : ¬ g = b := by
  rintro rfl
  unfold Bk at hg hb
  rw [hb] at hg
  injection hg with hg
  injection hg with h1 h2
  have := congrArg Array.size h1
  simp at this
theorem S1.mut {w V : World} {v : Value} {y b c0 c1 c2 c3 c4 c5 : Nat} (h : S1 w v y) (hb : Bk w b (W6 c0 c1 c2 c3 c4 c5) 171) (hm : Mut (fun k => k = b) w V) : S1 V v y := by
  rcases h with h | ⟨h0, c, h1, h2⟩
  · exact .inl h
  · exact .inr ⟨h0, c, h1, h2.mut hm (one_ne_six h2 hb)⟩
theorem S1.form {V : World} {v : Value} {x : Nat} (h : S1 V v x) : ∃ a n c, v = .slice a n c := by
  rcases h with ⟨_, h⟩ | ⟨_, b, h, _⟩
  · exact ⟨_, _, _, h⟩
  · exact ⟨_, _, _, h⟩
set_option maxHeartbeats 4000000 in
theorem imul_new (gz gx gy a b : Nat) (va vb : Value) (ha : a < 18446744073709551616) (hb : b < 18446744073709551616) (hxy : gx ≠ gy) (hzx : gz ≠ gx) (hzy : gz ≠ gy) (w : World) (hz : Bk w gz #[.bool false, .slice none 0 0] 146) (hx : Bk w gx #[.bool false, va] 146) (hy : Bk w gy #[.bool false, vb] 146) (hA : S1 w va a) (hB : S1 w vb b) :
    Calls Tryz.prog 126 #[.pointer (some ⟨gz, 0, none⟩), .pointer none, .pointer (some ⟨gx, 0, none⟩), .pointer (some ⟨gy, 0, none⟩)] w fun e w' => ∃ v, e = .returned (.tuple #[]) ∧ Bk w' gz #[.bool false, v] 146 ∧ S2 w.heap.size w' v (a * b) ∧ Mut (fun k => k = gz) w w' := by
  have NM := Lib.hid (fun V hA hB => nmul_new va vb a b ha hb V hA hB)
  have HH := Lib.hid (And.intro hA (And.intro hB (And.intro hz (And.intro hx hy))))
  have k1 := hz.cell (v := .slice none 0 0) 1 rfl
  have kl := hz.lt
  have j1 := hx.cell (v := va) 1 rfl
  have jl := hx.lt
  have i1 := hy.cell (v := vb) 1 rfl
  have il := hy.lt
  have k1m := fun p : Mutd (fun _ : Nat => False) w => cell_mutd k1 (fun e => e) p
  have j1m := fun p : Mutd (fun _ : Nat => False) w => cell_mutd j1 (fun e => e) p
  have i1m := fun p : Mutd (fun _ : Nat => False) w => cell_mutd i1 (fun e => e) p
  have hpe := ptr_ne w hxy hx hy
  clear hA hB hz hx hy ha hb
  go_enter Tryz.func126, Tryz.ntmps126
  go_wp2
  refine wp_region_low3 (post1 143 (fun _ v w1 w2 => S2 w1.heap.size w2 v (a * b))) (fun _ => False) [14] noSto 15 (by kernel_rfl) (fun b hb => hb.elim) noSto_inj (by kernel_rfl) ?_
  simp only [List.take, List.drop]
  iterate 14 (refine low3_step noSto_no (fun K hK => ?_); go_simp; first | (refine hK _ ?_; clear hK K) | (apply Exists.intro; refine ⟨fun p => ?_, hK _ ?_⟩; clear hK K))
  refine low3_call 143 #[.slice none 0 0, .pointer none, va, vb] (fun _ v w1 w2 => S2 w1.heap.size w2 v (a * b)) noSto_no (by decide) (by rfl) (fun w => by go_simp) (post1_same _ _) (fun V hV => ?_) ?_
  · have hbV : Below w.heap.size w V := hV.1.below (Nat.le_refl _) (fun _ _ e => e)
    exact (NM.out V (HH.out.1.below hbV) (HH.out.2.1.below hbV)).mono fun e w' ⟨v, he, h2, hb⟩ => ⟨v, he, h2, Mut.of_below hb⟩
  rintro vd w1 w2 hV1 h2 hmut
  have hs1 := hV1.1.size
  obtain ⟨ad, nd, cd, rfl⟩ := h2.form
  refine low3_nil ?_
  intro V8 hC
  have hfr : Below w.heap.size w V8 := hC.fr.below (Nat.le_refl _) (fun _ _ e => e)
  have hS := S2.at (base := w.heap.size) (V := V8) h2 (fun b h1 h3 => hC.phi b (.inr (.inr ⟨h1, h3⟩))) hs1
  have hz8 := HH.out.2.2.1.below hfr
  have q1 := hz8.cell (v := .slice none 0 0) 1 rfl
  have ql := hz8.lt
  have qf := hz8.free 1
  have HX := Lib.hid (show Bk (V8.setCell ⟨gz, 1, none⟩ (.slice ad nd cd)) gz #[.bool false, .slice ad nd cd] 146 ∧ S2 w.heap.size (V8.setCell ⟨gz, 1, none⟩ (.slice ad nd cd)) (.slice ad nd cd) (a * b) ∧ Mut (fun k => k = gz) w (V8.setCell ⟨gz, 1, none⟩ (.slice ad nd cd)) ∧ Bk (V8.setCell ⟨gz, 1, none⟩ (.slice ad nd cd)) gx #[.bool false, va] 146 ∧ Bk (V8.setCell ⟨gz, 1, none⟩ (.slice ad nd cd)) gy #[.bool false, vb] 146 from ⟨hz8.put 1 (.slice ad nd cd), S2.set hS hz8 (by decide), (Mut.of_below (U := fun k => k = gz) hfr).put (p := ⟨gz, 1, none⟩) (.inl rfl) (.slice ad nd cd), (HH.out.2.2.2.1.below hfr).far (p := ⟨gz, 1, none⟩) (Ne.symm hzx) (.slice ad nd cd), (HH.out.2.2.2.2.below hfr).far (p := ⟨gz, 1, none⟩) (Ne.symm hzy) (.slice ad nd cd)⟩)
  clear hC hfr hS hz8 hV1 h2 hmut NM HH k1 kl j1 jl i1 il k1m j1m i1m hs1
  go_upto_region 4 with fail
  refine wp_name (fun X => Bk X gz #[.bool false, .slice ad nd cd] 146 ∧ S2 w.heap.size X (.slice ad nd cd) (a * b) ∧ Mut (fun k => k = gz) w X ∧ Bk X gx #[.bool false, va] 146 ∧ Bk X gy #[.bool false, vb] 146) HX.out ?_
  clear HX q1 ql qf
  rintro V9 ⟨hz, hS, hm, hx, hy⟩
  have HS := Lib.hid (And.intro hz (And.intro hS hm))
  have k0 := cell_regrown (hz.cell (v := .bool false) 0 rfl)
  have k1 := cell_regrown (hz.cell (v := (.slice ad nd cd)) 1 rfl)
  have j0 := cell_regrown (hx.cell (v := .bool false) 0 rfl)
  have i0 := cell_regrown (hy.cell (v := .bool false) 0 rfl)
  rcases hS with ⟨hp0, hve⟩ | ⟨hp0, bd, hbd, hve, hBd⟩
  · injection hve with v1 v2 v3
    subst v1 v2 v3
    clear hx hy hz hm
    refine wp_region_low2 noPosts 18 (by kernel_rfl) (by kernel_rfl) ?_
    simp only [List.take, List.drop]
    iterate 18 (refine low2_step (fun K hK => ?_); go_simp; first | (refine hK _ ?_; clear hK K) | (apply Exists.intro; refine ⟨fun p => ?_, hK _ ?_⟩; clear hK K))
    refine low2_nil ?_
    intro W2 hC
    have hb2 := hC.1
    have hz2 := HS.out.1.below hb2
    have hX2 := HS.out.2.1.below hb2
    have hm2 := HS.out.2.2.trans (Mut.of_below (U := fun k => k = gz) hb2) (fun _ _ h => h)
    have q0 := hz2.cell (v := .bool false) 0 rfl
    have ql := hz2.lt
    have qf := hz2.free 0
    have HX := Lib.hid (show Bk (W2.setCell ⟨gz, 0, none⟩ (.bool false)) gz #[.bool false, .slice none 0 0] 146 ∧ S2 w.heap.size (W2.setCell ⟨gz, 0, none⟩ (.bool false)) _ (a * b) ∧ Mut (fun k => k = gz) w (W2.setCell ⟨gz, 0, none⟩ (.bool false)) from ⟨hz2.put 0 (.bool false), S2.set hX2 hz2 (by decide), hm2.put (p := ⟨gz, 0, none⟩) (.inl rfl) (.bool false)⟩)
    clear hC hb2 hz2 hX2 hm2 HS k0 k1 j0 i0
    go_wp2
    go_returns
    exact ⟨_, rfl, HX.out.1, HX.out.2.1, HX.out.2.2⟩
  · injection hve with v1 v2 v3
    have hl := lenN_pos hp0
    obtain ⟨n, hn⟩ : ∃ n, lenN (a * b) = n := ⟨_, rfl⟩
    rw [hn] at hl v2
    subst v1 v2 v3
    clear hx hy hz hm hn hBd
    have e1 : decide ((0 : Int) < (nd : Int)) = true := decide_eq_true (by omega)
    have e2 : decide (0 < nd) = true := decide_eq_true (by omega)
    have e3 : 0 < nd := by omega
    clear hl
    refine wp_region_low2 noPosts 18 (by kernel_rfl) (by kernel_rfl) ?_
    simp only [List.take, List.drop]
    iterate 18 (refine low2_step (fun K hK => ?_); go_simp; first | (refine hK _ ?_; clear hK K) | (apply Exists.intro; refine ⟨fun p => ?_, hK _ ?_⟩; clear hK K))
    refine low2_nil ?_
    intro W2 hC
    have hb2 := hC.1
    have hz2 := HS.out.1.below hb2
    have hX2 := HS.out.2.1.below hb2
    have hm2 := HS.out.2.2.trans (Mut.of_below (U := fun k => k = gz) hb2) (fun _ _ h => h)
    have q0 := hz2.cell (v := .bool false) 0 rfl
    have ql := hz2.lt
    have qf := hz2.free 0
    have HX := Lib.hid (show Bk (W2.setCell ⟨gz, 0, none⟩ (.bool false)) gz #[.bool false, .slice (some ⟨bd, 0, none⟩) nd 6] 146 ∧ S2 w.heap.size (W2.setCell ⟨gz, 0, none⟩ (.bool false)) _ (a * b) ∧ Mut (fun k => k = gz) w (W2.setCell ⟨gz, 0, none⟩ (.bool false)) from ⟨hz2.put 0 (.bool false), S2.set hX2 hz2 (by decide), hm2.put (p := ⟨gz, 0, none⟩) (.inl rfl) (.bool false)⟩)
    clear hC hb2 hz2 hX2 hm2 HS k0 k1 j0 i0
    go_wp2
    go_returns
    exact ⟨_, rfl, HX.out.1, HX.out.2.1, HX.out.2.2⟩
set_option maxHeartbeats 4000000 in
theorem imul_re (g gy b P y : Nat) (vb : Value) (hP : 0 < P) (hP2 : P < 18446744073709551616 * 18446744073709551616) (hy0 : 0 < y) (hyB : y < 18446744073709551616) (hPy : P * y < 18446744073709551616 * 18446744073709551616) (hgy : g ≠ gy) (w : World) (hg : Bk w g #[.bool false, .slice (some ⟨b, 0, none⟩) (lenN P) 6] 146) (hb : Bk w b (W6 (P % 18446744073709551616) (P / 18446744073709551616) 0 0 0 0) 171) (hy : Bk w gy #[.bool false, vb] 146) (hB : S1 w vb y) :
    Calls Tryz.prog 126 #[.pointer (some ⟨g, 0, none⟩), .pointer none, .pointer (some ⟨g, 0, none⟩), .pointer (some ⟨gy, 0, none⟩)] w fun e w' => e = .returned (.tuple #[]) ∧ Bk w' g #[.bool false, .slice (some ⟨b, 0, none⟩) (lenN (P * y)) 6] 146 ∧ Bk w' b (W6 (P * y % 18446744073709551616) (P * y / 18446744073709551616) 0 0 0 0) 171 ∧ Mut (fun k => k = g ∨ k = b) w w' := by
  have NM := Lib.hid (fun V hz hB => nmul_re b P y vb hP hP2 hy0 hyB hPy V hz hB)
  have hpe := ptr_ne w hgy hg hy
  have hgb := word_ne_int hg hb
  have hyb := word_ne_int hy hb
  have hl := lenN_pos hP
  have hl2 := lenN_pos (P := P * y) (Nat.mul_pos hP hy0)
  have hblt := hb.lt
  have HH := Lib.hid (And.intro hg (And.intro hb (And.intro hy hB)))
  obtain ⟨n, hn⟩ : ∃ n, lenN P = n := ⟨_, rfl⟩
  obtain ⟨n2, hn2⟩ : ∃ n, lenN (P * y) = n := ⟨_, rfl⟩
  obtain ⟨H, hH⟩ : ∃ k, P * y / 18446744073709551616 = k := ⟨_, rfl⟩
  obtain ⟨L, hL⟩ : ∃ k, P * y % 18446744073709551616 = k := ⟨_, rfl⟩
  obtain ⟨H0, hH0⟩ : ∃ k, P / 18446744073709551616 = k := ⟨_, rfl⟩
  obtain ⟨L0, hL0⟩ : ∃ k, P % 18446744073709551616 = k := ⟨_, rfl⟩
  rw [hn, hn2, hH, hL, hH0, hL0] at NM
  rw [hn, hH0, hL0] at HH
  rw [hn] at hl
  rw [hn2] at hl2
  rw [hn] at hg
  rw [hn2, hH, hL]
  have k1 := hg.cell (v := .slice (some ⟨b, 0, none⟩) n 6) 1 rfl
  have kl := hg.lt
  have i1 := hy.cell (v := vb) 1 rfl
  have il := hy.lt
  have k1m := fun p : Mutd (fun k : Nat => k = b) w => cell_mutd k1 (fun e => hgb e) p
  have i1m := fun p : Mutd (fun k : Nat => k = b) w => cell_mutd i1 (fun e => hyb e) p
  clear hn hn2 hH hL hH0 hL0 hB hg hb hy hP hP2 hPy hyB hy0
  go_enter Tryz.func126, Tryz.ntmps126
  go_wp2
  refine wp_region_low3 (post1 143 (fun _ v w1 w2 => v = .slice (some ⟨b, 0, none⟩) n2 6 ∧ Bk w2 b (W6 L H 0 0 0 0) 171)) (fun k => k = b) [14] noSto 15 (by kernel_rfl) (fun k hk => by rw [hk]; exact hblt) noSto_inj (by kernel_rfl) ?_
  simp only [List.take, List.drop]
  iterate 14 (refine low3_step noSto_no (fun K hK => ?_); go_simp; first | (refine hK _ ?_; clear hK K) | (apply Exists.intro; refine ⟨fun p => ?_, hK _ ?_⟩; clear hK K))
  refine low3_call 143 #[.slice (some ⟨b, 0, none⟩) n 6, .pointer none, .slice (some ⟨b, 0, none⟩) n 6, vb] (fun _ v w1 w2 => v = .slice (some ⟨b, 0, none⟩) n2 6 ∧ Bk w2 b (W6 L H 0 0 0 0) 171) noSto_no (by decide) (by rfl) (fun w => by go_simp) (post1_same _ _) (fun V hV => ?_) ?_
  · have hbV := HH.out.2.1.same ((hV.2.2 (by decide)).1 b rfl)
    exact (NM.out V hbV (HH.out.2.2.2.mut HH.out.2.1 hV.1)).mono fun e w' ⟨he, h2, hm⟩ => ⟨_, he, ⟨rfl, h2⟩, hm.mono (fun x _ h => .inl h)⟩
  rintro vd w1 w2 hV1 ⟨rfl, h2⟩ hmut
  refine low3_nil ?_
  intro V8 hC
  have hfr := hC.fr
  have hb8 := h2.same (hC.phi b (.inl rfl))
  have hg8 := HH.out.1.mut hfr (fun e => hgb e)
  have hy8 := HH.out.2.2.1.mut hfr (fun e => hyb e)
  have q1 := hg8.cell (v := .slice (some ⟨b, 0, none⟩) n 6) 1 rfl
  have ql := hg8.lt
  have qf := hg8.free 1
  have HX := Lib.hid (show Bk (V8.setCell ⟨g, 1, none⟩ (.slice (some ⟨b, 0, none⟩) n2 6)) g #[.bool false, .slice (some ⟨b, 0, none⟩) n2 6] 146 ∧ Bk (V8.setCell ⟨g, 1, none⟩ (.slice (some ⟨b, 0, none⟩) n2 6)) b (W6 L H 0 0 0 0) 171 ∧ Mut (fun k => k = g ∨ k = b) w (V8.setCell ⟨g, 1, none⟩ (.slice (some ⟨b, 0, none⟩) n2 6)) ∧ Bk (V8.setCell ⟨g, 1, none⟩ (.slice (some ⟨b, 0, none⟩) n2 6)) gy #[.bool false, vb] 146 from ⟨hg8.put 1 (.slice (some ⟨b, 0, none⟩) n2 6), hb8.far (p := ⟨g, 1, none⟩) (fun e => hgb e.symm) _, (hfr.mono (V := fun k => k = g ∨ k = b) (fun x _ h => .inr h)).put (p := ⟨g, 1, none⟩) (.inl (.inl rfl)) _, hy8.far (p := ⟨g, 1, none⟩) (Ne.symm hgy) _⟩)
  clear hC hfr hb8 hg8 hy8 hV1 h2 hmut NM HH k1 kl i1 il k1m i1m hpe hblt
  go_upto_region 4 with fail
  refine wp_name (fun X => Bk X g #[.bool false, .slice (some ⟨b, 0, none⟩) n2 6] 146 ∧ Bk X b (W6 L H 0 0 0 0) 171 ∧ Mut (fun k => k = g ∨ k = b) w X ∧ Bk X gy #[.bool false, vb] 146) HX.out ?_
  clear HX q1 ql qf
  rintro V9 ⟨hz, hS, hm, hy⟩
  have HS := Lib.hid (And.intro hz (And.intro hS hm))
  have k0 := cell_regrown (hz.cell (v := .bool false) 0 rfl)
  have k1 := cell_regrown (hz.cell (v := .slice (some ⟨b, 0, none⟩) n2 6) 1 rfl)
  have i0 := cell_regrown (hy.cell (v := .bool false) 0 rfl)
  clear hy hz hm hS
  have e1 : decide ((0 : Int) < (n2 : Int)) = true := decide_eq_true (by omega)
  have e2 : decide (0 < n2) = true := decide_eq_true (by omega)
  have e3 : 0 < n2 := by omega
  clear hl hl2
  refine wp_region_low2 noPosts 18 (by kernel_rfl) (by kernel_rfl) ?_
  simp only [List.take, List.drop]
  iterate 18 (refine low2_step (fun K hK => ?_); go_simp; first | (refine hK _ ?_; clear hK K) | (apply Exists.intro; refine ⟨fun p => ?_, hK _ ?_⟩; clear hK K))
  refine low2_nil ?_
  intro W2 hC
  have hb2 := hC.1
  have hz2 := HS.out.1.below hb2
  have hX2 := HS.out.2.1.below hb2
  have hm2 := HS.out.2.2.trans (Mut.of_below (U := fun k => k = g ∨ k = b) hb2) (fun _ _ h => h)
  have q0 := hz2.cell (v := .bool false) 0 rfl
  have ql := hz2.lt
  have qf := hz2.free 0
  have HX := Lib.hid (show Bk (W2.setCell ⟨g, 0, none⟩ (.bool false)) g #[.bool false, .slice (some ⟨b, 0, none⟩) n2 6] 146 ∧ Bk (W2.setCell ⟨g, 0, none⟩ (.bool false)) b (W6 L H 0 0 0 0) 171 ∧ Mut (fun k => k = g ∨ k = b) w (W2.setCell ⟨g, 0, none⟩ (.bool false)) from ⟨hz2.put 0 (.bool false), hX2.far (p := ⟨g, 0, none⟩) (fun e => hgb e.symm) _, hm2.put (p := ⟨g, 0, none⟩) (.inl (.inl rfl)) (.bool false)⟩)
  clear hC hb2 hz2 hX2 hm2 HS k0 k1 i0
  go_wp2
  go_returns
  exact ⟨rfl, HX.out.1, HX.out.2.1, HX.out.2.2⟩
set_option maxHeartbeats 4000000 in
theorem imul_zero (g gy y : Nat) (vb : Value) (hyB : y < 18446744073709551616) (hgy : g ≠ gy) (w : World) (hg : Bk w g #[.bool false, .slice none 0 0] 146) (hy : Bk w gy #[.bool false, vb] 146) (hB : S1 w vb y) :
    Calls Tryz.prog 126 #[.pointer (some ⟨g, 0, none⟩), .pointer none, .pointer (some ⟨g, 0, none⟩), .pointer (some ⟨gy, 0, none⟩)] w fun e w' => e = .returned (.tuple #[]) ∧ Bk w' g #[.bool false, .slice none 0 0] 146 ∧ Mut (fun k => k = g) w w' := by
  have NM := Lib.hid (fun V hB => nmul_new (.slice none 0 0) vb 0 y (by omega) hyB V (.inl ⟨rfl, rfl⟩) hB)
  have hpe := ptr_ne w hgy hg hy
  have HH := Lib.hid (And.intro hg (And.intro hy hB))
  have k1 := hg.cell (v := .slice none 0 0) 1 rfl
  have kl := hg.lt
  have i1 := hy.cell (v := vb) 1 rfl
  have il := hy.lt
  have k1m := fun p : Mutd (fun _ : Nat => False) w => cell_mutd k1 (fun e => e) p
  have i1m := fun p : Mutd (fun _ : Nat => False) w => cell_mutd i1 (fun e => e) p
  clear hB hg hy hyB
  go_enter Tryz.func126, Tryz.ntmps126
  go_wp2
  refine wp_region_low3 (post1 143 (fun _ v w1 w2 => v = .slice none 0 0)) (fun _ => False) [14] noSto 15 (by kernel_rfl) (fun b hb => hb.elim) noSto_inj (by kernel_rfl) ?_
  simp only [List.take, List.drop]
  iterate 14 (refine low3_step noSto_no (fun K hK => ?_); go_simp; first | (refine hK _ ?_; clear hK K) | (apply Exists.intro; refine ⟨fun p => ?_, hK _ ?_⟩; clear hK K))
  refine low3_call 143 #[.slice none 0 0, .pointer none, .slice none 0 0, vb] (fun _ v w1 w2 => v = .slice none 0 0) noSto_no (by decide) (by rfl) (fun w => by go_simp) (post1_same _ _) (fun V hV => ?_) ?_
  · have hbV : Below w.heap.size w V := hV.1.below (Nat.le_refl _) (fun _ _ e => e)
    refine (NM.out V (HH.out.2.2.below hbV)).mono fun e w' ⟨v, he, h2, hb⟩ => ⟨v, he, ?_, Mut.of_below hb⟩
    rcases h2 with ⟨_, h⟩ | ⟨h, _⟩
    · exact h
    · rw [Nat.zero_mul] at h
      omega
  rintro vd w1 w2 hV1 rfl hmut
  refine low3_nil ?_
  intro V8 hC
  have hfr : Below w.heap.size w V8 := hC.fr.below (Nat.le_refl _) (fun _ _ e => e)
  have hz8 := HH.out.1.below hfr
  have q1 := hz8.cell (v := .slice none 0 0) 1 rfl
  have ql := hz8.lt
  have qf := hz8.free 1
  have HX := Lib.hid (show Bk (V8.setCell ⟨g, 1, none⟩ (.slice none 0 0)) g #[.bool false, .slice none 0 0] 146 ∧ Mut (fun k => k = g) w (V8.setCell ⟨g, 1, none⟩ (.slice none 0 0)) from ⟨hz8.put 1 (.slice none 0 0), (Mut.of_below (U := fun k => k = g) hfr).put (p := ⟨g, 1, none⟩) (.inl rfl) (.slice none 0 0)⟩)
  clear hC hfr hz8 hV1 hmut NM HH k1 kl i1 il k1m i1m hpe
  go_upto_region 4 with fail
  refine wp_name (fun X => Bk X g #[.bool false, .slice none 0 0] 146 ∧ Mut (fun k => k = g) w X) HX.out ?_
  clear HX q1 ql qf
  rintro V9 ⟨hz, hm⟩
  have HS := Lib.hid (And.intro hz hm)
  have k0 := cell_regrown (hz.cell (v := .bool false) 0 rfl)
  have k1 := cell_regrown (hz.cell (v := .slice none 0 0) 1 rfl)
  clear hz hm
  refine wp_region_low2 noPosts 18 (by kernel_rfl) (by kernel_rfl) ?_
  simp only [List.take, List.drop]
  iterate 18 (refine low2_step (fun K hK => ?_); go_simp; first | (refine hK _ ?_; clear hK K) | (apply Exists.intro; refine ⟨fun p => ?_, hK _ ?_⟩; clear hK K))
  refine low2_nil ?_
  intro W2 hC
  have hb2 := hC.1
  have hz2 := HS.out.1.below hb2
  have hm2 := HS.out.2.trans (Mut.of_below (U := fun k => k = g) hb2) (fun _ _ h => h)
  have q0 := hz2.cell (v := .bool false) 0 rfl
  have ql := hz2.lt
  have qf := hz2.free 0
  have HX := Lib.hid (show Bk (W2.setCell ⟨g, 0, none⟩ (.bool false)) g #[.bool false, .slice none 0 0] 146 ∧ Mut (fun k => k = g) w (W2.setCell ⟨g, 0, none⟩ (.bool false)) from ⟨hz2.put 0 (.bool false), hm2.put (p := ⟨g, 0, none⟩) (.inl rfl) (.bool false)⟩)
  clear hC hb2 hz2 hm2 HS k0 k1
  go_wp2
  go_returns
  exact ⟨rfl, HX.out.1, HX.out.2⟩
theorem iMul_new (gz gx gy a b : Nat) (va vb : Value) (ha : a < 18446744073709551616) (hb : b < 18446744073709551616) (hxy : gx ≠ gy) (hzx : gz ≠ gx) (hzy : gz ≠ gy) (w : World) (hz : Bk w gz #[.bool false, .slice none 0 0] 146) (hx : Bk w gx #[.bool false, va] 146) (hy : Bk w gy #[.bool false, vb] 146) (hA : S1 w va a) (hB : S1 w vb b) :
    Calls Tryz.prog 93 #[.pointer (some ⟨gz, 0, none⟩), .pointer (some ⟨gx, 0, none⟩), .pointer (some ⟨gy, 0, none⟩)] w fun e w' => ∃ v, e = .returned (.pointer (some ⟨gz, 0, none⟩)) ∧ Bk w' gz #[.bool false, v] 146 ∧ S2 w.heap.size w' v (a * b) ∧ Mut (fun k => k = gz) w w' := by
  have HM := Lib.hid (imul_new gz gx gy a b va vb ha hb hxy hzx hzy w hz hx hy hA hB)
  clear hA hB hx hy hz ha hb
  go_enter Tryz.func93, Tryz.ntmps93
  go_wp2_with fail
  refine HM.out.mono ?_
  rintro e V1 ⟨v, rfl, h1, h2, h3⟩
  have HX := Lib.hid (And.intro h1 (And.intro h2 h3))
  clear h1 h2 h3 HM
  go_wp2
  go_returns
  exact ⟨v, rfl, HX.out⟩
theorem iMul_zero (g gy y : Nat) (vb : Value) (hyB : y < 18446744073709551616) (hgy : g ≠ gy) (w : World) (hg : Bk w g #[.bool false, .slice none 0 0] 146) (hy : Bk w gy #[.bool false, vb] 146) (hB : S1 w vb y) :
    Calls Tryz.prog 93 #[.pointer (some ⟨g, 0, none⟩), .pointer (some ⟨g, 0, none⟩), .pointer (some ⟨gy, 0, none⟩)] w fun e w' => e = .returned (.pointer (some ⟨g, 0, none⟩)) ∧ Bk w' g #[.bool false, .slice none 0 0] 146 ∧ Mut (fun k => k = g) w w' := by
  have HM := Lib.hid (imul_zero g gy y vb hyB hgy w hg hy hB)
  clear hB hg hy hyB
  go_enter Tryz.func93, Tryz.ntmps93
  go_wp2_with fail
  refine HM.out.mono ?_
  rintro e V1 ⟨rfl, h1⟩
  have HX := Lib.hid h1
  clear h1 HM
  go_wp2
  go_returns
  exact ⟨rfl, HX.out⟩
theorem iMul_re (g gy b P y : Nat) (vb : Value) (hP : 0 < P) (hP2 : P < 18446744073709551616 * 18446744073709551616) (hy0 : 0 < y) (hyB : y < 18446744073709551616) (hPy : P * y < 18446744073709551616 * 18446744073709551616) (hgy : g ≠ gy) (w : World) (hg : Bk w g #[.bool false, .slice (some ⟨b, 0, none⟩) (lenN P) 6] 146) (hb : Bk w b (W6 (P % 18446744073709551616) (P / 18446744073709551616) 0 0 0 0) 171) (hy : Bk w gy #[.bool false, vb] 146) (hB : S1 w vb y) :
    Calls Tryz.prog 93 #[.pointer (some ⟨g, 0, none⟩), .pointer (some ⟨g, 0, none⟩), .pointer (some ⟨gy, 0, none⟩)] w fun e w' => e = .returned (.pointer (some ⟨g, 0, none⟩)) ∧ Bk w' g #[.bool false, .slice (some ⟨b, 0, none⟩) (lenN (P * y)) 6] 146 ∧ Bk w' b (W6 (P * y % 18446744073709551616) (P * y / 18446744073709551616) 0 0 0 0) 171 ∧ Mut (fun k => k = g ∨ k = b) w w' := by
  have HM := Lib.hid (imul_re g gy b P y vb hP hP2 hy0 hyB hPy hgy w hg hb hy hB)
  clear hB hg hb hy hP hP2 hy0 hyB hPy
  go_enter Tryz.func93, Tryz.ntmps93
  go_wp2_with fail
  refine HM.out.mono ?_
  rintro e V1 ⟨rfl, h1⟩
  have HX := Lib.hid h1
  clear h1 HM
  go_wp2
  go_returns
  exact ⟨rfl, HX.out⟩
end Go.Proofs.YtghfggfgndgkjaaGreatDoor
