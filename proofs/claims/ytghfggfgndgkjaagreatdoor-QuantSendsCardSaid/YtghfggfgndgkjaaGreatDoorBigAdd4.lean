/- math/big: Int.Add for numbers that are not negative. -/
import Derived.Test.YtghfggfgndgkjaaGreatDoorBigAdd3
set_option linter.unusedVariables false
set_option linter.unusedSimpArgs false
namespace Go.Proofs.YtghfggfgndgkjaaGreatDoor
open Go.RowKit
set_option maxRecDepth 100000
attribute [local go_sem] opLow opUpon opLow2 opUpon2 opLow3

/-- a number of one or two words, to be read -/
def RN (V : World) (v : Value) (S : Nat) : Prop := 0 < S ∧ ∃ b cap cs, v = .slice (some ⟨b, 0, none⟩) (lenN S) cap ∧ Bk V b cs 171 ∧ cs[0]? = some (.int .u64 (S % 18446744073709551616 : Nat)) ∧ (18446744073709551616 ≤ S → cs[1]? = some (.int .u64 (S / 18446744073709551616 : Nat)))
set_option maxHeartbeats 4000000 in
theorem iAdd_re (g gy b by_ Q c : Nat) (hQ0 : 0 < Q) (hc : c < 18446744073709551616) (hQc : Q < 18446744073709551616 * 18446744073709551615) (hgy : g ≠ gy) (w : World) (hg : Bk w g #[.bool false, .slice (some ⟨b, 0, none⟩) (lenN Q) 6] 146) (hb : Bk w b (W6 (Q % 18446744073709551616) (Q / 18446744073709551616) 0 0 0 0) 171) (hy : Bk w gy #[.bool false, .slice (some ⟨by_, 0, none⟩) 1 1] 146) (hby : Bk w by_ #[.int .u64 c] 171) :
    Calls Tryz.prog 95 #[.pointer (some ⟨g, 0, none⟩), .pointer (some ⟨g, 0, none⟩), .pointer (some ⟨gy, 0, none⟩)] w fun e w' => e = .returned (.pointer (some ⟨g, 0, none⟩)) ∧ Bk w' g #[.bool false, .slice (some ⟨b, 0, none⟩) (lenN (Q + c)) 6] 146 ∧ Bk w' b (W6 ((Q + c) % 18446744073709551616) ((Q + c) / 18446744073709551616) 0 0 0 0) 171 ∧ Mut (fun k => k = g ∨ k = b) w w' := by
  have NM := Lib.hid (fun V hz hy => nadd_re b Q c by_ hQ0 hc hQc V hz hy)
  have hgb := word_ne_int hg hb
  have hyb := word_ne_int hy hb
  have hbb := one_ne_six hby hb
  have hl := lenN_pos hQ0
  have hl2 := lenN_pos (P := Q + c) (by omega)
  have hblt := hb.lt
  obtain ⟨n, hn⟩ : ∃ n, lenN Q = n := ⟨_, rfl⟩
  obtain ⟨n2, hn2⟩ : ∃ n, lenN (Q + c) = n := ⟨_, rfl⟩
  obtain ⟨H, hH⟩ : ∃ k, (Q + c) / 18446744073709551616 = k := ⟨_, rfl⟩
  obtain ⟨L, hL⟩ : ∃ k, (Q + c) % 18446744073709551616 = k := ⟨_, rfl⟩
  obtain ⟨H0, hH0⟩ : ∃ k, Q / 18446744073709551616 = k := ⟨_, rfl⟩
  obtain ⟨L0, hL0⟩ : ∃ k, Q % 18446744073709551616 = k := ⟨_, rfl⟩
  rw [hn, hn2, hH, hL, hH0, hL0] at NM
  rw [hn] at hl
  rw [hn2] at hl2
  rw [hn] at hg
  rw [hH0, hL0] at hb
  rw [hn2, hH, hL]
  have HH := Lib.hid (And.intro hg (And.intro hb (And.intro hy hby)))
  clear hn hn2 hH hL hH0 hL0 hQ0 hc hQc
  have k0 := hg.cell (v := .bool false) 0 rfl
  have k1 := hg.cell (v := .slice (some ⟨b, 0, none⟩) n 6) 1 rfl
  have kl := hg.lt
  have i0 := hy.cell (v := .bool false) 0 rfl
  have i1 := hy.cell (v := .slice (some ⟨by_, 0, none⟩) 1 1) 1 rfl
  have il := hy.lt
  clear hg hy hby hb
  go_enter Tryz.func95, Tryz.ntmps95
  go_upto_region 2 with fail
  clear k1 i1
  replace k0 := cell_regrown k0
  replace i0 := cell_regrown i0
  refine wp_region_low2 noPosts 8 (by kernel_rfl) (by kernel_rfl) ?_
  simp only [List.take, List.drop]
  iterate 8 (refine low2_step (fun K hK => ?_); go_simp; first | (refine hK _ ?_; clear hK K) | (apply Exists.intro; refine ⟨fun p => ?_, hK _ ?_⟩; clear hK K))
  refine low2_nil ?_
  intro V hC
  have hbV := hC.1
  have HV := Lib.hid (And.intro (HH.out.1.below hbV) (And.intro (HH.out.2.1.below hbV) (And.intro (HH.out.2.2.1.below hbV) (HH.out.2.2.2.below hbV))))
  have HM := Lib.hid (Mut.of_below (U := (fun k => k = g ∨ k = b)) hbV)
  clear hC hbV HH k0 i0 kl il
  go_upto_region 3 with fail
  have k1 := HV.out.1.cell (v := .slice (some ⟨b, 0, none⟩) n 6) 1 rfl
  have i1 := HV.out.2.2.1.cell (v := .slice (some ⟨by_, 0, none⟩) 1 1) 1 rfl
  have kl := HV.out.1.lt
  have il := HV.out.2.2.1.lt
  have k1m := fun p : Mutd (fun k => k = b) V => cell_mutd k1 (fun e => hgb e) p
  have i1m := fun p : Mutd (fun k => k = b) V => cell_mutd i1 (fun e => hyb e) p
  have hblt := HV.out.2.1.lt
  refine wp_region_low3 (post1 120 (fun _ v w1 w2 => v = .slice (some ⟨b, 0, none⟩) n2 6 ∧ Bk w2 b (W6 L H 0 0 0 0) 171)) (fun k => k = b) [13] noSto 14 (by kernel_rfl) (fun k hk => by rw [hk]; exact hblt) noSto_inj (by kernel_rfl) ?_
  simp only [List.take, List.drop]
  iterate 13 (refine low3_step noSto_no (fun K hK => ?_); go_simp; first | (refine hK _ ?_; clear hK K) | (apply Exists.intro; refine ⟨fun p => ?_, hK _ ?_⟩; clear hK K))
  refine low3_call 120 #[.slice (some ⟨b, 0, none⟩) n 6, .slice (some ⟨b, 0, none⟩) n 6, .slice (some ⟨by_, 0, none⟩) 1 1] (fun _ v w1 w2 => v = .slice (some ⟨b, 0, none⟩) n2 6 ∧ Bk w2 b (W6 L H 0 0 0 0) 171) noSto_no (by decide) (by rfl) (fun w => by go_simp) (post1_same _ _) (fun V' hV => ?_) ?_
  · have hbV := HV.out.2.1.same ((hV.2.2 (by decide)).1 b rfl)
    exact (NM.out V' hbV (HV.out.2.2.2.mut hV.1 (fun e => hbb e))).mono fun e w' ⟨he, h2, hm⟩ => ⟨_, he, ⟨rfl, h2⟩, hm.mono (fun x _ h => .inl h)⟩
  rintro vd w1 w2 hV1 ⟨rfl, h2⟩ hmut
  refine low3_nil ?_
  intro V8 hC
  have hfr := hC.fr
  have hb8 := h2.same (hC.phi b (.inl rfl))
  have hg8 := HV.out.1.mut hfr (fun e => hgb e)
  have hgb8 := word_ne_int hg8 hb8
  have q1 := hg8.cell (v := .slice (some ⟨b, 0, none⟩) n 6) 1 rfl
  have ql := hg8.lt
  have qf := hg8.free 1
  have HX := Lib.hid (show Bk (V8.setCell ⟨g, 1, none⟩ (.slice (some ⟨b, 0, none⟩) n2 6)) g #[.bool false, .slice (some ⟨b, 0, none⟩) n2 6] 146 ∧ Bk (V8.setCell ⟨g, 1, none⟩ (.slice (some ⟨b, 0, none⟩) n2 6)) b (W6 L H 0 0 0 0) 171 ∧ Mut (fun k => k = g ∨ k = b) w (V8.setCell ⟨g, 1, none⟩ (.slice (some ⟨b, 0, none⟩) n2 6)) from ⟨hg8.put 1 (.slice (some ⟨b, 0, none⟩) n2 6), hb8.far (p := ⟨g, 1, none⟩) (fun e => hgb8 e.symm) _, (HM.out.trans hfr (fun x _ h => .inr h)).put (p := ⟨g, 1, none⟩) (.inl (.inl rfl)) _⟩)
  clear hC hfr hb8 hg8 hV1 h2 hmut NM HV HM k1 kl i1 il k1m i1m hblt hgb hyb hbb
  go_upto_region 8 with fail
  refine wp_name (fun X => Bk X g #[.bool false, .slice (some ⟨b, 0, none⟩) n2 6] 146 ∧ Bk X b (W6 L H 0 0 0 0) 171 ∧ Mut (fun k => k = g ∨ k = b) w X) HX.out ?_
  clear HX q1 ql qf
  rintro V9 ⟨hz, hS, hm⟩
  have k0 := hz.cell (v := .bool false) 0 rfl
  have k1 := hz.cell (v := .slice (some ⟨b, 0, none⟩) n2 6) 1 rfl
  have kl := hz.lt
  have kf := hz.free 0
  have e1 : decide ((0 : Int) < (n2 : Int)) = true := decide_eq_true (by omega)
  have e2 : decide (0 < n2) = true := decide_eq_true (by omega)
  have e3 : 0 < n2 := by omega
  clear hl hl2
  have HX := Lib.hid (show Bk (V9.setCell ⟨g, 0, none⟩ (.bool false)) g #[.bool false, .slice (some ⟨b, 0, none⟩) n2 6] 146 ∧ Bk (V9.setCell ⟨g, 0, none⟩ (.bool false)) b (W6 L H 0 0 0 0) 171 ∧ Mut (fun k => k = g ∨ k = b) w (V9.setCell ⟨g, 0, none⟩ (.bool false)) from ⟨hz.put 0 (.bool false), hS.far (p := ⟨g, 0, none⟩) (fun e => hgb8 e.symm) _, hm.put (p := ⟨g, 0, none⟩) (.inl (.inl rfl)) (.bool false)⟩)
  clear hz hS hm hgb8
  go_wp2
  go_returns
  exact ⟨rfl, HX.out.1, HX.out.2.1, HX.out.2.2⟩
set_option maxHeartbeats 4000000 in
theorem iAdd_zero (g gy by_ c : Nat) (hgy : g ≠ gy) (w : World) (hg : Bk w g #[.bool false, .slice none 0 0] 146) (hy : Bk w gy #[.bool false, .slice (some ⟨by_, 0, none⟩) 1 1] 146) (hby : Bk w by_ #[.int .u64 c] 171) :
    Calls Tryz.prog 95 #[.pointer (some ⟨g, 0, none⟩), .pointer (some ⟨g, 0, none⟩), .pointer (some ⟨gy, 0, none⟩)] w fun e w' => ∃ b2, e = .returned (.pointer (some ⟨g, 0, none⟩)) ∧ Bk w' g #[.bool false, .slice (some ⟨b2, 0, none⟩) 1 1] 146 ∧ Bk w' b2 #[.int .u64 c] 171 ∧ Mut (fun k => k = g) w w' := by
  have NM := Lib.hid (fun V hy => nadd_z2 by_ c V hy)
  have HH := Lib.hid (And.intro hg (And.intro hg (And.intro hy hby)))
  have k0 := hg.cell (v := .bool false) 0 rfl
  have k1 := hg.cell (v := .slice none 0 0) 1 rfl
  have kl := hg.lt
  have i0 := hy.cell (v := .bool false) 0 rfl
  have i1 := hy.cell (v := .slice (some ⟨by_, 0, none⟩) 1 1) 1 rfl
  have il := hy.lt
  clear hg hy hby
  go_enter Tryz.func95, Tryz.ntmps95
  go_upto_region 2 with fail
  clear k1 i1
  replace k0 := cell_regrown k0
  replace i0 := cell_regrown i0
  refine wp_region_low2 noPosts 8 (by kernel_rfl) (by kernel_rfl) ?_
  simp only [List.take, List.drop]
  iterate 8 (refine low2_step (fun K hK => ?_); go_simp; first | (refine hK _ ?_; clear hK K) | (apply Exists.intro; refine ⟨fun p => ?_, hK _ ?_⟩; clear hK K))
  refine low2_nil ?_
  intro V hC
  have hbV := hC.1
  have HV := Lib.hid (And.intro (HH.out.1.below hbV) (And.intro (HH.out.2.1.below hbV) (And.intro (HH.out.2.2.1.below hbV) (HH.out.2.2.2.below hbV))))
  have HM := Lib.hid (Mut.of_below (U := (fun k => k = g)) hbV)
  clear hC hbV HH k0 i0 kl il
  go_upto_region 3 with fail
  have k1 := HV.out.1.cell (v := .slice none 0 0) 1 rfl
  have i1 := HV.out.2.2.1.cell (v := .slice (some ⟨by_, 0, none⟩) 1 1) 1 rfl
  have kl := HV.out.1.lt
  have il := HV.out.2.2.1.lt
  have k1m := fun p : Mutd (fun _ => False) V => cell_mutd k1 (fun e => e) p
  have i1m := fun p : Mutd (fun _ => False) V => cell_mutd i1 (fun e => e) p
  refine wp_region_low3 (post1 120 (fun _ v w1 w2 => v = .slice (some ⟨w1.heap.size, 0, none⟩) 1 1 ∧ Bk w2 w1.heap.size #[.int .u64 c] 171)) (fun _ => False) [13] noSto 14 (by kernel_rfl) (fun k hk => by exact hk.elim) noSto_inj (by kernel_rfl) ?_
  simp only [List.take, List.drop]
  iterate 13 (refine low3_step noSto_no (fun K hK => ?_); go_simp; first | (refine hK _ ?_; clear hK K) | (apply Exists.intro; refine ⟨fun p => ?_, hK _ ?_⟩; clear hK K))
  refine low3_call 120 #[.slice none 0 0, .slice none 0 0, .slice (some ⟨by_, 0, none⟩) 1 1] (fun _ v w1 w2 => v = .slice (some ⟨w1.heap.size, 0, none⟩) 1 1 ∧ Bk w2 w1.heap.size #[.int .u64 c] 171) noSto_no (by decide) (by rfl) (fun w => by go_simp) (post1_same _ _) (fun V' hV => ?_) ?_
  · have hbV : Below V.heap.size V V' := hV.1.below (Nat.le_refl _) (fun _ _ e => e)
    exact (NM.out V' (HV.out.2.2.2.below hbV)).mono fun e w' ⟨he, h2, hb⟩ => ⟨_, he, ⟨rfl, h2⟩, Mut.of_below hb⟩
  rintro vd w1 w2 hV1 ⟨rfl, h2⟩ hmut
  obtain ⟨b2, hb2⟩ : ∃ k, w1.heap.size = k := ⟨_, rfl⟩
  rw [hb2] at h2 ⊢
  refine low3_nil ?_
  intro V8 hC
  have hfr := hC.fr
  have hb8 := h2.same (hC.phi b2 (.inr (.inr ⟨Nat.le_of_eq hb2, h2.lt⟩)))
  have hg8 := HV.out.1.mut hfr (fun e => e)
  have hgb8 := word_ne_int hg8 hb8
  have q1 := hg8.cell (v := .slice none 0 0) 1 rfl
  have ql := hg8.lt
  have qf := hg8.free 1
  have HX := Lib.hid (show Bk (V8.setCell ⟨g, 1, none⟩ (.slice (some ⟨b2, 0, none⟩) 1 1)) g #[.bool false, .slice (some ⟨b2, 0, none⟩) 1 1] 146 ∧ Bk (V8.setCell ⟨g, 1, none⟩ (.slice (some ⟨b2, 0, none⟩) 1 1)) b2 #[.int .u64 c] 171 ∧ Mut (fun k => k = g) w (V8.setCell ⟨g, 1, none⟩ (.slice (some ⟨b2, 0, none⟩) 1 1)) from ⟨hg8.put 1 (.slice (some ⟨b2, 0, none⟩) 1 1), hb8.far (p := ⟨g, 1, none⟩) (fun e => hgb8 e.symm) _, (HM.out.trans hfr (fun x _ h => h.elim)).put (p := ⟨g, 1, none⟩) (.inl rfl) _⟩)
  clear hC hfr hb8 hg8 hV1 h2 hmut NM HV HM k1 kl i1 il k1m i1m hb2
  go_upto_region 8 with fail
  refine wp_name (fun X => Bk X g #[.bool false, .slice (some ⟨b2, 0, none⟩) 1 1] 146 ∧ Bk X b2 #[.int .u64 c] 171 ∧ Mut (fun k => k = g) w X) HX.out ?_
  clear HX q1 ql qf
  rintro V9 ⟨hz, hS, hm⟩
  have k0 := hz.cell (v := .bool false) 0 rfl
  have k1 := hz.cell (v := .slice (some ⟨b2, 0, none⟩) 1 1) 1 rfl
  have kl := hz.lt
  have kf := hz.free 0
  have HX := Lib.hid (show Bk (V9.setCell ⟨g, 0, none⟩ (.bool false)) g #[.bool false, .slice (some ⟨b2, 0, none⟩) 1 1] 146 ∧ Bk (V9.setCell ⟨g, 0, none⟩ (.bool false)) b2 #[.int .u64 c] 171 ∧ Mut (fun k => k = g) w (V9.setCell ⟨g, 0, none⟩ (.bool false)) from ⟨hz.put 0 (.bool false), hS.far (p := ⟨g, 0, none⟩) (fun e => hgb8 e.symm) _, hm.put (p := ⟨g, 0, none⟩) (.inl rfl) (.bool false)⟩)
  clear hz hS hm hgb8
  go_wp2
  go_returns
  exact ⟨b2, rfl, HX.out.1, HX.out.2.1, HX.out.2.2⟩
end Go.Proofs.YtghfggfgndgkjaaGreatDoor
