/- math/big: nat.add, nat.set. -/
import Derived.Test.YtghfggfgndgkjaaGreatDoorBigAdd
set_option linter.unusedVariables false
set_option linter.unusedSimpArgs false
namespace Go.Proofs.YtghfggfgndgkjaaGreatDoor
open Go.RowKit
set_option maxRecDepth 100000
attribute [local go_sem] opLow opUpon opLow2 opUpon2 opLow3

set_option maxHeartbeats 8000000 in
theorem nadd_one (b Q c gy : Nat) (hQ0 : 0 < Q) (hQ : Q < 18446744073709551616) (hc : c < 18446744073709551616) (w : World) (hz : Bk w b (W6 Q 0 0 0 0 0) 171) (hy : Bk w gy #[.int .u64 c] 171) :
    Calls Tryz.prog 120 #[.slice (some ⟨b, 0, none⟩) 1 6, .slice (some ⟨b, 0, none⟩) 1 6, .slice (some ⟨gy, 0, none⟩) 1 1] w fun e' w' => e' = .returned (.slice (some ⟨b, 0, none⟩) (lenN (Q + c)) 6) ∧ Bk w' b (W6 ((Q + c) % 18446744073709551616) ((Q + c) / 18446744073709551616) 0 0 0 0) 171 ∧ Mut (fun k => k = b) w w' := by
  have hyb := one_ne_six hy hz
  have hn := (at6_nrm (a := (Q + c) % 18446744073709551616) (b := (Q + c) / 18446744073709551616) (Nat.mod_lt _ (by omega))).1
  rw [words_of] at hn
  have VV := Lib.hid (fun V hz hx hy => addvv1 b b gy 6 1 Q c Q 0 0 0 0 0 V hz hx hy)
  obtain ⟨H, hH⟩ : ∃ k, (Q + c) / 18446744073709551616 = k := ⟨_, rfl⟩
  obtain ⟨L, hL⟩ : ∃ k, (Q + c) % 18446744073709551616 = k := ⟨_, rfl⟩
  obtain ⟨n, hne⟩ : ∃ k, lenN (Q + c) = k := ⟨_, rfl⟩
  rw [hH, hL] at VV hn ⊢
  rw [hne] at hn ⊢
  have HN := Lib.hid hn
  have MK := Lib.hid (fun V => make_re b 1 2 6 (by omega) (by omega) V)
  have HZ := Lib.hid (And.intro hz hy)
  clear hn hH hL hne hQ0 hQ hc hz hy
  go_enter Tryz.func120, Tryz.ntmps120
  go_wp2_with fail
  refine (MK.out _).mono ?_
  rintro e' V1 ⟨rfl, hb1⟩
  have HZ1 := Lib.hid (And.intro (HZ.out.1.below hb1) (HZ.out.2.below hb1))
  have HM1 := Lib.hid (Mut.of_below (U := fun k => k = b) hb1)
  have hblt := (HZ.out.1.below hb1).lt
  clear hb1 HZ MK
  go_wp2
  refine wp_region_low3 (post1 114 (fun _ v w1 w2 => v = .int .u64 H ∧ Bk w2 b (W6 L 0 0 0 0 0) 171)) (fun k => k = b) [9] noSto 10 (by kernel_rfl) (fun k hk => by rw [hk]; exact hblt) noSto_inj (by kernel_rfl) ?_
  simp only [List.take, List.drop]
  iterate 9 (refine low3_step noSto_no (fun K hK => ?_); go_simp; first | (refine hK _ ?_; clear hK K) | (apply Exists.intro; refine ⟨fun p => ?_, hK _ ?_⟩; clear hK K))
  refine low3_call 114 #[.slice (some ⟨b, 0, none⟩) 1 6, .slice (some ⟨b, 0, none⟩) 1 6, .slice (some ⟨gy, 0, none⟩) 1 1] (fun _ v w1 w2 => v = .int .u64 H ∧ Bk w2 b (W6 L 0 0 0 0 0) 171) noSto_no (by decide) (by rfl) (fun w => by go_simp) (post1_same _ _) (fun V hV => ?_) ?_
  · have hbV := HZ1.out.1.same ((hV.2.2 (by decide)).1 b rfl)
    have hyV := HZ1.out.2.mut hV.1 (fun e => hyb e)
    exact (VV.out V hbV (hbV.cell (v := .int .u64 Q) 0 rfl) (hyV.cell (v := .int .u64 c) 0 rfl)).mono fun e w' ⟨he, h2, hm⟩ => ⟨_, he, ⟨rfl, h2⟩, hm.mono (fun x _ h => .inl h)⟩
  rintro vd w1 w2 hV1 ⟨rfl, h2⟩ hmut
  refine low3_nil ?_
  intro V8 hC
  have hb8 := h2.same (hC.phi b (.inl rfl))
  have HB2 := Lib.hid (And.intro hb8 (HM1.out.trans hC.fr (fun _ _ h => h)))
  clear hC hV1 h2 hmut hb8 HM1 HZ1 VV
  go_upto_region 13 with fail
  have kl := HB2.out.1.lt
  have kf := HB2.out.1.free 1
  have k1 := HB2.out.1.cell (v := .int .u64 0) 1 rfl
  have HX := Lib.hid (And.intro (W6.put1 HB2.out.1 H) (HB2.out.2.trans (mut_set V8 b 1 (.int .u64 H)) (fun _ _ h => h)))
  clear HB2
  go_upto_region 14 with fail
  refine wp_name (fun X => Bk X b (W6 L H 0 0 0 0) 171 ∧ Mut (fun k => k = b) w X) HX.out ?_
  clear HX kl kf k1 hblt
  rintro V3 ⟨hB, hm⟩
  have NR := Lib.hid (norm_any b 2 6 (at6 L H 0) (by omega) (by omega) V3 (at6_cell hB 2 (by omega)))
  rw [HN.out] at NR
  have HB := Lib.hid (And.intro hB hm)
  clear hB hm HN
  go_wp2_with fail
  refine NR.out.mono ?_
  rintro e' V4 ⟨rfl, hb2⟩
  have HC := Lib.hid (And.intro (HB.out.1.below hb2) (HB.out.2.trans (Mut.of_below (U := fun k => k = b) hb2) (fun _ _ h => h)))
  clear hb2 NR HB
  go_wp2
  go_returns
  exact ⟨rfl, HC.out.1, HC.out.2⟩
set_option maxHeartbeats 8000000 in
theorem nadd_two (b lo hi c gy : Nat) (hlo : lo < 18446744073709551616) (hc : c < 18446744073709551616) (hhi : hi + 1 < 18446744073709551616) (hh : 0 < hi) (w : World) (hz : Bk w b (W6 lo hi 0 0 0 0) 171) (hy : Bk w gy #[.int .u64 c] 171) :
    Calls Tryz.prog 120 #[.slice (some ⟨b, 0, none⟩) 2 6, .slice (some ⟨b, 0, none⟩) 2 6, .slice (some ⟨gy, 0, none⟩) 1 1] w fun e' w' => e' = .returned (.slice (some ⟨b, 0, none⟩) 2 6) ∧ Bk w' b (W6 ((lo + c) % 18446744073709551616) (hi + (lo + c) / 18446744073709551616) 0 0 0 0) 171 ∧ Mut (fun k => k = b) w w' := by
  have hyb := one_ne_six hy hz
  have hk : (lo + c) / 18446744073709551616 ≤ 1 := by omega
  have VV := Lib.hid (fun V hz hx hy => addvv1 b b gy 6 1 lo c lo hi 0 0 0 0 V hz hx hy)
  have hn : nrm (at6 ((lo + c) % 18446744073709551616) (hi + (lo + c) / 18446744073709551616) 0) 3 = 2 := by
    rw [(at6_nrm (Nat.mod_lt _ (by omega))).2]
    unfold lenN
    rw [if_neg (by omega)]
  obtain ⟨kc, hK⟩ : ∃ k, (lo + c) / 18446744073709551616 = k := ⟨_, rfl⟩
  obtain ⟨L, hL⟩ : ∃ k, (lo + c) % 18446744073709551616 = k := ⟨_, rfl⟩
  rw [hK, hL] at VV hn ⊢
  rw [hK] at hk
  have VW := Lib.hid (fun V hz => addvw1 b L hi kc 0 0 0 0 (by omega) V hz)
  obtain ⟨H, hH⟩ : ∃ k, hi + kc = k := ⟨_, rfl⟩
  rw [hH] at VW hn ⊢
  have HN := Lib.hid hn
  have MK := Lib.hid (fun V => make_re b 2 3 6 (by omega) (by omega) V)
  have HZ := Lib.hid (And.intro hz hy)
  clear hn hH hK hL hlo hc hhi hh hk hz hy
  go_enter Tryz.func120, Tryz.ntmps120
  go_wp2_with fail
  refine (MK.out _).mono ?_
  rintro e' V1 ⟨rfl, hb1⟩
  have HZ1 := Lib.hid (And.intro (HZ.out.1.below hb1) (HZ.out.2.below hb1))
  have HM1 := Lib.hid (Mut.of_below (U := fun k => k = b) hb1)
  have hblt := (HZ.out.1.below hb1).lt
  clear hb1 HZ MK
  go_wp2
  refine wp_region_low3 (post1 114 (fun _ v w1 w2 => v = .int .u64 kc ∧ Bk w2 b (W6 L hi 0 0 0 0) 171)) (fun k => k = b) [9] noSto 10 (by kernel_rfl) (fun k hk => by rw [hk]; exact hblt) noSto_inj (by kernel_rfl) ?_
  simp only [List.take, List.drop]
  iterate 9 (refine low3_step noSto_no (fun K hK => ?_); go_simp; first | (refine hK _ ?_; clear hK K) | (apply Exists.intro; refine ⟨fun p => ?_, hK _ ?_⟩; clear hK K))
  refine low3_call 114 #[.slice (some ⟨b, 0, none⟩) 1 6, .slice (some ⟨b, 0, none⟩) 1 6, .slice (some ⟨gy, 0, none⟩) 1 1] (fun _ v w1 w2 => v = .int .u64 kc ∧ Bk w2 b (W6 L hi 0 0 0 0) 171) noSto_no (by decide) (by rfl) (fun w => by go_simp) (post1_same _ _) (fun V hV => ?_) ?_
  · have hbV := HZ1.out.1.same ((hV.2.2 (by decide)).1 b rfl)
    have hyV := HZ1.out.2.mut hV.1 (fun e => hyb e)
    exact (VV.out V hbV (hbV.cell (v := .int .u64 lo) 0 rfl) (hyV.cell (v := .int .u64 c) 0 rfl)).mono fun e w' ⟨he, h2, hm⟩ => ⟨_, he, ⟨rfl, h2⟩, hm.mono (fun x _ h => .inl h)⟩
  rintro vd w1 w2 hV1 ⟨rfl, h2⟩ hmut
  refine low3_nil ?_
  intro V8 hC
  have hb8 := h2.same (hC.phi b (.inl rfl))
  have hblt := hb8.lt
  have HB2 := Lib.hid (And.intro hb8 (HM1.out.trans hC.fr (fun _ _ h => h)))
  clear hC hV1 h2 hmut hb8 HM1 HZ1 VV
  go_wp2
  refine wp_region_low3 (post1 134 (fun _ v w1 w2 => v = .int .u64 0 ∧ Bk w2 b (W6 L H 0 0 0 0) 171)) (fun k => k = b) [8] noSto 9 (by kernel_rfl) (fun k hk => by rw [hk]; exact hblt) noSto_inj (by kernel_rfl) ?_
  simp only [List.take, List.drop]
  iterate 8 (refine low3_step noSto_no (fun K hK => ?_); go_simp; first | (refine hK _ ?_; clear hK K) | (apply Exists.intro; refine ⟨fun p => ?_, hK _ ?_⟩; clear hK K))
  refine low3_call 134 #[.slice (some ⟨b, 1, none⟩) 1 5, .slice (some ⟨b, 1, none⟩) 1 5, .int .u64 kc] (fun _ v w1 w2 => v = .int .u64 0 ∧ Bk w2 b (W6 L H 0 0 0 0) 171) noSto_no (by decide) (by rfl) (fun w => by go_simp) (post1_same _ _) (fun V hV => ?_) ?_
  · have hbV := HB2.out.1.same ((hV.2.2 (by decide)).1 b rfl)
    exact (VW.out V hbV).mono fun e w' ⟨he, h2, hm⟩ => ⟨_, he, ⟨rfl, h2⟩, hm.mono (fun x _ h => .inl h)⟩
  rintro vd w1' w2' hV1 ⟨rfl, h2⟩ hmut
  refine low3_nil ?_
  intro V9 hC
  have hb9 := h2.same (hC.phi b (.inl rfl))
  have HB3 := Lib.hid (And.intro hb9 (HB2.out.2.trans hC.fr (fun _ _ h => h)))
  clear hC hV1 h2 hmut hb9 HB2 VW hblt
  go_upto_region 13 with fail
  have kl := HB3.out.1.lt
  have kf := HB3.out.1.free 2
  have k1 := HB3.out.1.cell (v := .int .u64 0) 2 rfl
  have HX := Lib.hid (And.intro (W6.put2 HB3.out.1 0) (HB3.out.2.trans (mut_set V9 b 2 (.int .u64 0)) (fun _ _ h => h)))
  rw [show ((0 : Nat) : Int) = 0 from rfl] at HX
  clear HB3
  go_upto_region 14 with fail
  refine wp_name (fun X => Bk X b (W6 L H 0 0 0 0) 171 ∧ Mut (fun k => k = b) w X) HX.out ?_
  clear HX kl kf k1
  rintro V3 ⟨hB, hm⟩
  have NR := Lib.hid (norm_any b 3 6 (at6 L H 0) (by omega) (by omega) V3 (at6_cell hB 3 (by omega)))
  rw [HN.out] at NR
  have HB := Lib.hid (And.intro hB hm)
  clear hB hm HN
  go_wp2_with fail
  refine NR.out.mono ?_
  rintro e' V4 ⟨rfl, hb2⟩
  have HC := Lib.hid (And.intro (HB.out.1.below hb2) (HB.out.2.trans (Mut.of_below (U := fun k => k = b) hb2) (fun _ _ h => h)))
  clear hb2 NR HB
  go_wp2
  go_returns
  exact ⟨rfl, HC.out.1, HC.out.2⟩
end Go.Proofs.YtghfggfgndgkjaaGreatDoor
