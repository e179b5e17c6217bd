/- QuantSends: the walk where a grid is not valid. -/
import Derived.Test.YtghfggfgndgkjaaGreatDoorSendsBase
set_option linter.unusedVariables false
set_option linter.unusedSimpArgs false
namespace Go.Proofs.YtghfggfgndgkjaaGreatDoor
open Go Go.RowKit Go.Sort
set_option maxRecDepth 100000
attribute [local go_sem] opLow opUpon opLow2 opUpon2 opLow3
set_option maxHeartbeats 8000000 in
theorem sends_bad1 (L1 R1 B1 L2 R2 B2 x y ahead cut : Int) (ha : 0 ≤ ahead ∧ ahead ≤ 255) (hc : 0 ≤ cut ∧ cut ≤ 255) (hg : ¬ GV L1 R1 B1) (w : World) :
    Calls Tryz.prog 5 #[G L1 R1 B1, G L2 R2 B2, .agg #[.int .i64 x, .int .i64 y], .int .u8 ahead, .int .u8 cut] w fun e w' => e = .returned (.bool true) ∧ Below w.heap.size w w' := by
  obtain ⟨n, hn⟩ : ∃ n : Nat, ahead % 70 = n := ⟨(ahead % 70).toNat, by omega⟩
  have HA := Lib.hid (show n < 70 ∧ ahead % 70 = n from ⟨by omega, hn⟩)
  have hn7 : n < 70 := HA.out.1
  have hn70 : ahead.tmod 70 = n := by rw [Int.tmod_eq_emod_of_nonneg ha.1]; exact hn
  clear hn
  obtain ⟨l1, hl1⟩ : ∃ l, ones n = l := ⟨_, rfl⟩
  obtain ⟨l2, hl2⟩ : ∃ l, l1 = l := ⟨_, rfl⟩
  have HG := Lib.hid hg
  have HP := Lib.hid (show PutG L1 R1 B1 x (ones n) 2 l1 ∧ PutP L1 R1 B1 L2 R2 B2 x y l1 2 l2 ∧ l1.length ≤ n + 32 from ⟨.inr ⟨hg, rfl, hl1.symm⟩, .inr ⟨fun h => hg h.1, rfl, hl2.symm⟩, by rw [← hl1, ones_length]; omega⟩)
  have HN := Lib.hid (show l2.length = n from by rw [← hl2, ← hl1, ones_length])
  have HM := Lib.hid (show ¬ (GV L1 R1 B1 ∧ GV L2 R2 B2) from fun h => hg h.1)
  clear hl1 hl2 hg
  go_enter Tryz.func5, Tryz.ntmps5
  go_upto_region 4 with fail
  refine wp_name (fun V => Old w V L1 R1 B1 L2 R2 B2 x y ∧ Bk V (w.heap.size + 1 + 1 + 1) #[.slice none 0 0, .int .i64 0] 61) ⟨⟨by simp, by go_grown, by (repeat (first | with_reducible assumption | ((with_reducible refine Bk.at_ ?_); first | rfl | (simp; done)) | with_reducible apply Bk.alloc)), by (repeat (first | with_reducible assumption | ((with_reducible refine Bk.at_ ?_); first | rfl | (simp; done)) | with_reducible apply Bk.alloc)), by (repeat (first | with_reducible assumption | ((with_reducible refine Bk.at_ ?_); first | rfl | (simp; done)) | with_reducible apply Bk.alloc))⟩, by (repeat (first | with_reducible assumption | ((with_reducible refine Bk.at_ ?_); first | rfl | (simp; done)) | with_reducible apply Bk.alloc))⟩ ?_
  rintro V0 ⟨HO, BW⟩
  have HW := Lib.hid (show WrAt (w.heap.size + 1 + 1 + 1 + 1) V0 (w.heap.size + 1 + 1 + 1) (.slice none 0 0) (ones 0) from ⟨BW, World.ownsRow_nil _ _ _ _, isBits_nil⟩)
  replace HO := Lib.hid HO
  clear BW
  go_loopw [40] (fun v40 wr => ∃ (i : Nat) (s : Value), i ≤ n ∧ v40 = .int .i64 i ∧ WrAt (w.heap.size + 1 + 1 + 1 + 1) wr (w.heap.size + 1 + 1 + 1) s (ones i) ∧ Below (w.heap.size + 1 + 1 + 1) V0 wr) (fun v40 _ => n - (intOf v40).toNat)
  case atStart => exact ⟨0, _, Nat.zero_le _, rfl, HW.out, Below.refl _ _⟩
  case round =>
    clear HW
    obtain ⟨i, s, hin, rfl, hW, hB⟩ := hrel
    by_cases hlt : i < n
    · have hsz : w.heap.size + 1 + 1 + 1 + 1 ≤ wr.heap.size := hW.1.lt
      go_wp2_with fail
      with_reducible refine (put_one (w.heap.size + 1 + 1 + 1 + 1) (w.heap.size + 1 + 1 + 1) s i _ hW (by have := HA.out.1; omega) hsz).mono ?_
      rintro e w1 ⟨rfl, hw⟩
      have hB1 := hB.trans (wrote_under hW hw (Nat.le_refl _) (Nat.le_add_right _ 1))
      obtain ⟨s1, h1, -⟩ := hw
      have HR := Lib.hid (And.intro h1 hB1)
      clear h1 hB1 hW hB
      go_wp2
      go_roundw
      case rel => exact ⟨i + 1, s1, by omega, by go_num, HR.out.1, HR.out.2⟩
      case measure => simp [intOf]; omega
    · obtain rfl : n = i := by omega
      clear hin
      have hsz : w.heap.size + 1 + 1 + 1 + 1 ≤ wr.heap.size := hW.1.lt
      have hS0 : ∀ b, s.ownBlock = some b → w.heap.size + 1 + 1 + 1 + 1 ≤ b ∧ b < wr.heap.size := fun b hb => hW.2.1.lt b hb
      have HS0 := Lib.hid hS0
      have O1 := Lib.hid (HO.out.under hB)
      have HWr := Lib.hid (And.intro hW hB)
      clear hS0 hW hB
      have kx0 := O1.out.x.cell (v := .int .i64 L1) 0 rfl
      have kx1 := O1.out.x.cell (v := .int .i64 R1) 1 rfl
      have kx2 := O1.out.x.cell (v := .int .i64 B1) 2 rfl
      have kxl := O1.out.x.lt
      have ky0 := O1.out.y.cell (v := .int .i64 L2) 0 rfl
      have ky1 := O1.out.y.cell (v := .int .i64 R2) 1 rfl
      have ky2 := O1.out.y.cell (v := .int .i64 B2) 2 rfl
      have kyl := O1.out.y.lt
      go_upto_region 9 with fail
      refine wp_name (fun V => (Below (w.heap.size + 1 + 1 + 1) V0 V ∧ wr.heap.size < V.heap.size) ∧ WrAt (w.heap.size + 1 + 1 + 1 + 1) V (w.heap.size + 1 + 1 + 1) s (ones n) ∧ Bk V wr.heap.size #[.int .i64 L1, .int .i64 R1, .int .i64 B1, .int .i64 L2, .int .i64 R2, .int .i64 B2] 65) ⟨⟨HWr.out.2.trans (by go_grown), by simp⟩, HWr.out.1.below (by go_grown), by (repeat (first | with_reducible assumption | ((with_reducible refine Bk.at_ ?_); first | rfl | (simp; done)) | with_reducible apply Bk.alloc))⟩ ?_
      rintro V2 ⟨⟨hB2, hz2⟩, hW2, BP⟩
      clear kx0 kx1 kx2 kxl ky0 ky1 ky2 kyl
      clear O1 HWr
      have O2 := Lib.hid (HO.out.under hB2)
      obtain ⟨gp, hgp⟩ : ∃ gp, wr.heap.size = gp := ⟨_, rfl⟩
      rw [hgp] at BP ⊢
      have HR2 := Lib.hid (And.intro hB2 (And.intro hW2 BP))
      clear hB2 hW2 BP
      have kx0 := fun p : Mutd (fun _ : Nat => False) V2 => cell_mutd (O2.out.x.cell (v := .int .i64 L1) 0 rfl) (fun e => e) p
      have kx1 := fun p : Mutd (fun _ : Nat => False) V2 => cell_mutd (O2.out.x.cell (v := .int .i64 R1) 1 rfl) (fun e => e) p
      have kx2 := fun p : Mutd (fun _ : Nat => False) V2 => cell_mutd (O2.out.x.cell (v := .int .i64 B1) 2 rfl) (fun e => e) p
      have ky0 := fun p : Mutd (fun _ : Nat => False) V2 => cell_mutd (O2.out.y.cell (v := .int .i64 L2) 0 rfl) (fun e => e) p
      have ky1 := fun p : Mutd (fun _ : Nat => False) V2 => cell_mutd (O2.out.y.cell (v := .int .i64 R2) 1 rfl) (fun e => e) p
      have ky2 := fun p : Mutd (fun _ : Nat => False) V2 => cell_mutd (O2.out.y.cell (v := .int .i64 B2) 2 rfl) (fun e => e) p
      refine wp_region_low3 noPosts (fun _ : Nat => False) [] (sto1 2 4) 5 (by kernel_rfl) (fun b hb => hb.elim) (sto1_inj 2 4) (by kernel_rfl) ?_
      simp only [List.take, List.drop]
      iterate 2 (refine low3_step (sto1_no (by decide)) (fun K hK => ?_); go_simp; first | (refine hK _ ?_; clear hK K) | (apply Exists.intro; refine ⟨fun p => ?_, hK _ ?_⟩; clear hK K))
      refine low3_new (.cells #[.int .i64 0, .int .i64 0, .int .i64 0] 27) (sto1_no (by decide)) (by rfl) (fun w => by go_simp; try rfl) ?_
      intro ga
      refine low3_new (.cells #[.int .i64 0, .int .i64 0, .int .i64 0] 27) (sto1_no (by decide)) (by rfl) (fun w => by go_simp; try rfl) ?_
      intro gb
      refine low3_sto 2 ga #[.int .i64 0, .int .i64 0, .int .i64 0] #[.int .i64 L1, .int .i64 R1, .int .i64 B1] 27 rfl (by rfl) ⟨⟨2, .data⟩, by simp, rfl, rfl⟩ rfl (fun w B => by
          have lt := B.lt
          have c_0 := B.cell (v := .int .i64 0) 0 rfl
          have c_1 := B.cell (v := .int .i64 0) 1 rfl
          have c_2 := B.cell (v := .int .i64 0) 2 rfl
          have f_0 := B.free 0
          have f_1 := B.free 1
          have f_2 := B.free 2
          go_simp
          show ((w.setCell ⟨ga, 0, none⟩ (.int .i64 L1)).setCell ⟨ga, 1, none⟩ (.int .i64 R1)).setCell ⟨ga, 2, none⟩ (.int .i64 B1) = putObj w ga (.cells #[.int .i64 L1, .int .i64 R1, .int .i64 B1] 27)
          rw [setCell_put B, setCell_put (putObj_heap B), putObj_twice, setCell_put (putObj_heap B), putObj_twice]; rfl) ?_
      refine low3_nil ?_
      intro V3 hC
      obtain ⟨za, BA⟩ : _ ∧ Bk V3 ga #[.int .i64 L1, .int .i64 R1, .int .i64 B1] 27 := hC.made 2 ga _ rfl
      obtain ⟨zb, BBz⟩ : _ ∧ Bk V3 gb #[.int .i64 0, .int .i64 0, .int .i64 0] 27 := hC.made 3 gb _ rfl
      have hab : ga ≠ gb := fun e => by subst e; exact absurd (hC.apart 2 3 _ _ _ rfl rfl) (by decide)
      have hb3 : Below V2.heap.size V2 V3 := hC.fr.below (Nat.le_refl _) (fun _ _ e => e)
      clear kx0 kx1 kx2 ky0 ky1 ky2
      clear hC O2
      have c0 := BBz.cell (v := .int .i64 0) 0 rfl
      have c1 := BBz.cell (v := .int .i64 0) 1 rfl
      have c2 := BBz.cell (v := .int .i64 0) 2 rfl
      have f0 := BBz.free 0
      have f1 := BBz.free 1
      have f2 := BBz.free 2
      have cl := BBz.lt
      have hbs := ((hb3.setCell (p := ⟨gb, 0, none⟩) zb (.int .i64 L2)).setCell (p := ⟨gb, 1, none⟩) zb (.int .i64 R2)).setCell (p := ⟨gb, 2, none⟩) zb (.int .i64 B2)
      have HR3 := Lib.hid (And.intro za (And.intro zb (And.intro BA (And.intro BBz (And.intro hab hbs)))))
      clear za zb BA BBz hab hb3 hbs
      go_upto_region 10 with fail
      refine wp_name (fun V => (Below V2.heap.size V2 V ∧ Bk V ga #[.int .i64 L1, .int .i64 R1, .int .i64 B1] 27) ∧ Bk V gb #[.int .i64 L2, .int .i64 R2, .int .i64 B2] 27) ⟨⟨HR3.out.2.2.2.2.2, ((HR3.out.2.2.1.far HR3.out.2.2.2.2.1 _).far HR3.out.2.2.2.2.1 _).far HR3.out.2.2.2.2.1 _⟩, ((HR3.out.2.2.2.1.put 0 _).put 1 _).put 2 _⟩ ?_
      rintro V4 ⟨⟨hb4, BA⟩, BB⟩
      clear c0 c1 c2 f0 f1 f2 cl
      have O4 := Lib.hid (HO.out.under (HR2.out.1.trans (hb4.mono (by omega))))
      have HR4 := Lib.hid (show (Below (w.heap.size + 1 + 1 + 1) V0 V4 ∧ WrAt (w.heap.size + 1 + 1 + 1 + 1) V4 (w.heap.size + 1 + 1 + 1) s (ones n) ∧ Bk V4 gp #[.int .i64 L1, .int .i64 R1, .int .i64 B1, .int .i64 L2, .int .i64 R2, .int .i64 B2] 65 ∧ Bk V4 ga #[.int .i64 L1, .int .i64 R1, .int .i64 B1] 27 ∧ Bk V4 gb #[.int .i64 L2, .int .i64 R2, .int .i64 B2] 27) from
        ⟨HR2.out.1.trans (hb4.mono (by omega)), HR2.out.2.1.below hb4, HR2.out.2.2.below hb4, BA, BB⟩)
      have hS : ∀ b, SW (w.heap.size + 1 + 1 + 1) s b → w.heap.size + 1 + 1 + 1 ≤ b ∧ b < gp := fun b hb => by
        rcases hb with rfl | hb
        · omega
        · have := HS0.out b hb
          omega
      have hnp : ¬ SW (w.heap.size + 1 + 1 + 1) s gp := fun h => by have := hS _ h; omega
      have hna : ¬ SW (w.heap.size + 1 + 1 + 1) s ga := fun h => by have := hS _ h; have := HR3.out.1; omega
      have hnb : ¬ SW (w.heap.size + 1 + 1 + 1) s gb := fun h => by have := hS _ h; have := HR3.out.2.1; omega
      have hnx : ¬ SW (w.heap.size + 1 + 1 + 1) s w.heap.size := fun h => by have := hS _ h; omega
      have hnv : ¬ SW (w.heap.size + 1 + 1 + 1) s (w.heap.size + 1 + 1) := fun h => by have := hS _ h; omega
      have hz4 : w.heap.size + 1 + 1 + 1 + 1 ≤ V4.heap.size := HR4.out.2.1.1.lt
      clear hb4 BA BB HR3
      have kx0 := fun p : Mutd (SW (w.heap.size + 1 + 1 + 1) s) V4 => cell_mutd (O4.out.x.cell (v := .int .i64 L1) 0 rfl) hnx p
      have kx1 := fun p : Mutd (SW (w.heap.size + 1 + 1 + 1) s) V4 => cell_mutd (O4.out.x.cell (v := .int .i64 R1) 1 rfl) hnx p
      have kx2 := fun p : Mutd (SW (w.heap.size + 1 + 1 + 1) s) V4 => cell_mutd (O4.out.x.cell (v := .int .i64 B1) 2 rfl) hnx p
      have kv0 := fun p : Mutd (SW (w.heap.size + 1 + 1 + 1) s) V4 => cell_mutd (O4.out.v.cell (v := .int .i64 x) 0 rfl) hnv p
      have kv1 := fun p : Mutd (SW (w.heap.size + 1 + 1 + 1) s) V4 => cell_mutd (O4.out.v.cell (v := .int .i64 y) 1 rfl) hnv p
      have kp0 := fun p : Mutd (SW (w.heap.size + 1 + 1 + 1) s) V4 => cell_mutd (HR4.out.2.2.1.cell (v := .int .i64 L1) 0 rfl) hnp p
      have kp1 := fun p : Mutd (SW (w.heap.size + 1 + 1 + 1) s) V4 => cell_mutd (HR4.out.2.2.1.cell (v := .int .i64 R1) 1 rfl) hnp p
      have kp2 := fun p : Mutd (SW (w.heap.size + 1 + 1 + 1) s) V4 => cell_mutd (HR4.out.2.2.1.cell (v := .int .i64 B1) 2 rfl) hnp p
      have kp3 := fun p : Mutd (SW (w.heap.size + 1 + 1 + 1) s) V4 => cell_mutd (HR4.out.2.2.1.cell (v := .int .i64 L2) 3 rfl) hnp p
      have kp4 := fun p : Mutd (SW (w.heap.size + 1 + 1 + 1) s) V4 => cell_mutd (HR4.out.2.2.1.cell (v := .int .i64 R2) 4 rfl) hnp p
      have kp5 := fun p : Mutd (SW (w.heap.size + 1 + 1 + 1) s) V4 => cell_mutd (HR4.out.2.2.1.cell (v := .int .i64 B2) 5 rfl) hnp p
      refine wp_region_low3 (tPuts (w.heap.size + 1 + 1 + 1 + 1) (w.heap.size + 1 + 1 + 1) s l1 l2 2 2) (SW (w.heap.size + 1 + 1 + 1) s) [3, 6] noSto 7 (by kernel_rfl) (fun b hb => Nat.lt_trans (hS b hb).2 HR4.out.2.2.1.lt) noSto_inj (by kernel_rfl) ?_
      simp only [List.take, List.drop]
      iterate 3 (refine low3_step noSto_no (fun K hK => ?_); go_simp; first | (refine hK _ ?_; clear hK K) | (apply Exists.intro; refine ⟨fun p => ?_, hK _ ?_⟩; clear hK K))
      refine low3_call 29 #[G L1 R1 B1, .pointer (some ⟨w.heap.size + 1 + 1 + 1, 0, none⟩), .int .i64 x] (aPutG (w.heap.size + 1 + 1 + 1 + 1) (w.heap.size + 1 + 1 + 1) s l1 2) noSto_no (by decide) (by rfl) (fun w => by go_simp) (if_pos rfl) (fun V hV => ?_) ?_
      · have hWV : WrAt (w.heap.size + 1 + 1 + 1 + 1) V (w.heap.size + 1 + 1 + 1) s (ones n) := HR4.out.2.1.same ((hV.2.2 (by decide)).1 _ (Or.inl rfl)) (fun b hb => (hV.2.2 (by decide)).1 b (Or.inr hb))
        refine (gput_u _ _ s (ones n) l1 L1 R1 B1 x 2 V hWV (by rw [ones_length]; have := HA.out.1; omega) (Nat.le_trans hz4 hV.1.size) HP.out.1).mono ?_
        rintro o W' ⟨rfl, hw⟩
        exact ⟨_, rfl, ⟨rfl, hw⟩, wrote_mutU hw (.inl (Or.inl rfl)) (fun b hb => .inl (Or.inr hb))⟩
      rintro v V5 V6 hV5 ⟨rfl, hw1⟩ hm1
      iterate 2 (refine low3_step noSto_no (fun K hK => ?_); go_simp; first | (refine hK _ ?_; clear hK K) | (apply Exists.intro; refine ⟨fun p => ?_, hK _ ?_⟩; clear hK K))
      refine low3_call 30 #[PL L1 R1 B1 L2 R2 B2, .pointer (some ⟨w.heap.size + 1 + 1 + 1, 0, none⟩), .agg #[.int .i64 x, .int .i64 y]] (aPutP (w.heap.size + 1 + 1 + 1 + 1) (w.heap.size + 1 + 1 + 1) l1 l2 2) noSto_no (by decide) (by rfl) (fun w => by go_simp) (by unfold tPuts; rw [if_neg (by decide), if_pos rfl]) (fun V hV => ?_) ?_
      · obtain ⟨s1, hs1, ho1⟩ := wrote_open hw1
        have hWV : WrAt (w.heap.size + 1 + 1 + 1 + 1) V (w.heap.size + 1 + 1 + 1) s1 l1 := hs1.same ((hV.2.2 (by decide)).1 _ (.inl (Or.inl rfl))) (fun b hb => (hV.2.2 (by decide)).1 b (by rcases ho1 b hb with h | h; exact .inl (Or.inr h); exact .inr (.inr h)))
        refine (pput_u _ _ s1 l1 l2 L1 R1 B1 L2 R2 B2 x y 2 V hWV (by have := HP.out.2.2; have := HA.out.1; omega) (Nat.le_trans hz4 hV.1.size) HP.out.2.1).mono ?_
        rintro o W' ⟨rfl, hw⟩
        exact ⟨_, rfl, ⟨rfl, s1, hWV, hw⟩, wrote_mutU hw (.inl (Or.inl rfl)) (fun b hb => by rcases ho1 b hb with h | h; exact .inl (Or.inr h); exact .inr (.inr h))⟩
      rintro v V7 V8 hV7 ⟨rfl, s7, hs7, hw2⟩ hm2
      refine low3_nil ?_
      intro V9 hC
      obtain ⟨s2, hs2⟩ : ∃ s2, WrAt (w.heap.size + 1 + 1 + 1 + 1) V9 (w.heap.size + 1 + 1 + 1) s2 l2 := by
        obtain ⟨s1, hs1, ho1⟩ := wrote_open hw1
        have e7 : s7 = s1 := wrAt_inj hs7 (hs1.same ((hV7.2.2 (by decide)).1 _ (.inl (Or.inl rfl))) (fun b hb => (hV7.2.2 (by decide)).1 b (by rcases ho1 b hb with h | h; exact .inl (Or.inr h); exact .inr (.inr h))))
        subst e7
        obtain ⟨s2, hs2, ho2⟩ := wrote_open hw2
        exact ⟨s2, hs2.same (hC.phi _ (.inl (Or.inl rfl))) (fun b hb => hC.phi b (by
          rcases ho2 b hb with h | h
          · rcases ho1 b h with h | h
            · exact .inl (Or.inr h)
            · exact .inr (.inl (.inr h))
          · exact .inr (.inr h)))⟩
      have hu9 : Below (w.heap.size + 1 + 1 + 1) V4 V9 := hC.fr.below (by omega) (fun b hb hu => by have := (hS b hu).1; omega)
      have F := Lib.hid (show Fac w V9 L1 R1 B1 L2 R2 B2 x y gp ga gb s2 l2 from ⟨O4.out.b.trans (hu9.mono (by omega)), O4.out.x.under hu9 (by omega), O4.out.y.under hu9 (by omega), O4.out.v.under hu9 (by omega), HR4.out.2.2.1.mut hC.fr hnp, HR4.out.2.2.2.1.mut hC.fr hna, HR4.out.2.2.2.2.mut hC.fr hnb, hs2⟩)
      clear kx0 kx1 kx2 kv0 kv1 kp0 kp1 kp2 kp3 kp4 kp5
      clear hC hu9 hs2 hw1 hw2 hm1 hm2 hV5 hV7 hs7 hS hnp hna hnb hnx hnv hz4 hz2 HR4 HR2 O4 HS0 hsz hgp
      have ka0 := F.out.a.cell (v := .int .i64 L1) 0 rfl
      have ka1 := F.out.a.cell (v := .int .i64 R1) 1 rfl
      have ka2 := F.out.a.cell (v := .int .i64 B1) 2 rfl
      have kal := F.out.a.lt
      have kb0 := F.out.b.cell (v := .int .i64 L2) 0 rfl
      have kb1 := F.out.b.cell (v := .int .i64 R2) 1 rfl
      have kb2 := F.out.b.cell (v := .int .i64 B2) 2 rfl
      have kbl := F.out.b.lt
      go_wp2_with fail
      with_reducible refine (rvalid_no L1 R1 B1 HG.out _).mono ?_
      rintro e V10 ⟨rfl, hb⟩
      clear ka0 ka1 ka2 kal kb0 kb1 kb2 kbl
      replace F := Lib.hid (F.out.below hb)
      clear hb
      go_upto_region 13 with fail
      have ka0 := cell_regrown (F.out.a.cell (v := .int .i64 L1) 0 rfl)
      have ka1 := cell_regrown (F.out.a.cell (v := .int .i64 R1) 1 rfl)
      have ka2 := cell_regrown (F.out.a.cell (v := .int .i64 B1) 2 rfl)
      have kx0 := cell_regrown (F.out.x.cell (v := .int .i64 L1) 0 rfl)
      have kx1 := cell_regrown (F.out.x.cell (v := .int .i64 R1) 1 rfl)
      have kx2 := cell_regrown (F.out.x.cell (v := .int .i64 B1) 2 rfl)
      have kp0 := cell_regrown (F.out.p.cell (v := .int .i64 L1) 0 rfl)
      have kp1 := cell_regrown (F.out.p.cell (v := .int .i64 R1) 1 rfl)
      have kp2 := cell_regrown (F.out.p.cell (v := .int .i64 B1) 2 rfl)
      have kp3 := cell_regrown (F.out.p.cell (v := .int .i64 L2) 3 rfl)
      have kp4 := cell_regrown (F.out.p.cell (v := .int .i64 R2) 4 rfl)
      have kp5 := cell_regrown (F.out.p.cell (v := .int .i64 B2) 5 rfl)
      have kv0 := cell_regrown (F.out.v.cell (v := .int .i64 x) 0 rfl)
      have kv1 := cell_regrown (F.out.v.cell (v := .int .i64 y) 1 rfl)
      refine wp_region_low2 noPosts 41 (by kernel_rfl) (by kernel_rfl) ?_
      simp only [List.take, List.drop]
      iterate 3 (refine low2_step (fun K hK => ?_); go_simp; first | (refine hK _ ?_; clear hK K) | (apply Exists.intro; refine ⟨fun p => ?_, hK _ ?_⟩; clear hK K))
      refine low2_reads 31 #[G L1 R1 B1] (.bool false) (by rfl) (fun w => by go_simp) rfl (by kernel_rfl) (fun V hV _ => rvalid_no L1 R1 B1 HG.out V) ?_
      iterate 10 (refine low2_step (fun K hK => ?_); go_simp; first | (refine hK _ ?_; clear hK K) | (apply Exists.intro; refine ⟨fun p => ?_, hK _ ?_⟩; clear hK K))
      refine low2_reads 30 #[PL L1 R1 B1 L2 R2 B2, .pointer none, .agg #[.int .i64 x, .int .i64 y]] (.int .i64 2) (by rfl) (fun w => by go_simp) rfl (by kernel_rfl) (fun V hV _ => pput_no L1 R1 B1 L2 R2 B2 x y _ HM.out V) ?_
      iterate 6 (refine low2_step (fun K hK => ?_); go_simp; first | (refine hK _ ?_; clear hK K) | (apply Exists.intro; refine ⟨fun p => ?_, hK _ ?_⟩; clear hK K))
      refine low2_reads 32 #[.pointer (some ⟨w.heap.size + 1 + 1 + 1, 0, none⟩)] (.int .i64 ((n : Int))) (by rfl) (fun w => by go_simp) rfl (by kernel_rfl) (fun V hV _ => len_is ((n : Int)) (F.out.wr.below hV) HN.out rfl) ?_
      iterate 17 (refine low2_step (fun K hK => ?_); go_simp; first | (refine hK _ ?_; clear hK K) | (apply Exists.intro; refine ⟨fun p => ?_, hK _ ?_⟩; clear hK K))
      refine low2_reads 9 #[] (.bool true) (by rfl) (fun w => by go_simp) rfl (by kernel_rfl) (fun V hV _ => awake21 V) ?_
      iterate 1 (refine low2_step (fun K hK => ?_); go_simp; first | (refine hK _ ?_; clear hK K) | (apply Exists.intro; refine ⟨fun p => ?_, hK _ ?_⟩; clear hK K))
      refine low2_nil ?_
      intro V15 hC
      clear ka0 ka1 ka2 kx0 kx1 kx2 kp0 kp1 kp2 kp3 kp4 kp5 kv0 kv1
      have F7 := Lib.hid (F.out.below hC.1)
      clear hC
      go_wp2
      go_returns
      exact ⟨rfl, F7.out.b0⟩
set_option maxHeartbeats 8000000 in
theorem sends_bad2 (L1 R1 B1 L2 R2 B2 x y ahead cut : Int) (ha : 0 ≤ ahead ∧ ahead ≤ 255) (hc : 0 ≤ cut ∧ cut ≤ 255) (hg1 : GV L1 R1 B1) (hg2 : ¬ GV L2 R2 B2) (w : World) :
    Calls Tryz.prog 5 #[G L1 R1 B1, G L2 R2 B2, .agg #[.int .i64 x, .int .i64 y], .int .u8 ahead, .int .u8 cut] w fun e w' => e = .returned (.bool true) ∧ Below w.heap.size w w' := by
  obtain ⟨n, hn⟩ : ∃ n : Nat, ahead % 70 = n := ⟨(ahead % 70).toNat, by omega⟩
  have HA := Lib.hid (show n < 70 ∧ ahead % 70 = n from ⟨by omega, hn⟩)
  have hn7 : n < 70 := HA.out.1
  have hn70 : ahead.tmod 70 = n := by rw [Int.tmod_eq_emod_of_nonneg ha.1]; exact hn
  clear hn
  obtain ⟨i, hi⟩ : ∃ i, qi L1 R1 B1 x = i := ⟨_, rfl⟩
  obtain ⟨c0, c1⟩ := hg1.2.2.2
  obtain ⟨l1, hl1⟩ : ∃ l, ones n ++ bitsOf i B1.toNat = l := ⟨_, rfl⟩
  obtain ⟨l2, hl2⟩ : ∃ l, l1 = l := ⟨_, rfl⟩
  have HG := Lib.hid (And.intro hg1 hg2)
  have hl : l1.length = n + B1.toNat := by rw [← hl1, List.length_append, ones_length, bitsOf_length]
  have HP := Lib.hid (show PutG L1 R1 B1 x (ones n) 0 l1 ∧ PutP L1 R1 B1 L2 R2 B2 x y l1 2 l2 ∧ l1.length ≤ n + 32 from ⟨.inl ⟨hg1, rfl, by rw [hi]; exact hl1.symm⟩, .inr ⟨fun h => hg2 h.2, rfl, hl2.symm⟩, by omega⟩)
  have HN := Lib.hid (show l2.length = n + B1.toNat ∧ 1 ≤ B1 ∧ B1 ≤ 32 from ⟨by rw [← hl2]; exact hl, c0, c1⟩)
  have HM := Lib.hid (show ¬ (GV L1 R1 B1 ∧ GV L2 R2 B2) from fun h => hg2 h.2)
  clear hl hi hl1 hl2 hg1 hg2 c0 c1
  go_enter Tryz.func5, Tryz.ntmps5
  go_upto_region 4 with fail
  refine wp_name (fun V => Old w V L1 R1 B1 L2 R2 B2 x y ∧ Bk V (w.heap.size + 1 + 1 + 1) #[.slice none 0 0, .int .i64 0] 61) ⟨⟨by simp, by go_grown, by (repeat (first | with_reducible assumption | ((with_reducible refine Bk.at_ ?_); first | rfl | (simp; done)) | with_reducible apply Bk.alloc)), by (repeat (first | with_reducible assumption | ((with_reducible refine Bk.at_ ?_); first | rfl | (simp; done)) | with_reducible apply Bk.alloc)), by (repeat (first | with_reducible assumption | ((with_reducible refine Bk.at_ ?_); first | rfl | (simp; done)) | with_reducible apply Bk.alloc))⟩, by (repeat (first | with_reducible assumption | ((with_reducible refine Bk.at_ ?_); first | rfl | (simp; done)) | with_reducible apply Bk.alloc))⟩ ?_
  rintro V0 ⟨HO, BW⟩
  have HW := Lib.hid (show WrAt (w.heap.size + 1 + 1 + 1 + 1) V0 (w.heap.size + 1 + 1 + 1) (.slice none 0 0) (ones 0) from ⟨BW, World.ownsRow_nil _ _ _ _, isBits_nil⟩)
  replace HO := Lib.hid HO
  clear BW
  go_loopw [40] (fun v40 wr => ∃ (i : Nat) (s : Value), i ≤ n ∧ v40 = .int .i64 i ∧ WrAt (w.heap.size + 1 + 1 + 1 + 1) wr (w.heap.size + 1 + 1 + 1) s (ones i) ∧ Below (w.heap.size + 1 + 1 + 1) V0 wr) (fun v40 _ => n - (intOf v40).toNat)
  case atStart => exact ⟨0, _, Nat.zero_le _, rfl, HW.out, Below.refl _ _⟩
  case round =>
    clear HW
    obtain ⟨i, s, hin, rfl, hW, hB⟩ := hrel
    by_cases hlt : i < n
    · have hsz : w.heap.size + 1 + 1 + 1 + 1 ≤ wr.heap.size := hW.1.lt
      go_wp2_with fail
      with_reducible refine (put_one (w.heap.size + 1 + 1 + 1 + 1) (w.heap.size + 1 + 1 + 1) s i _ hW (by have := HA.out.1; omega) hsz).mono ?_
      rintro e w1 ⟨rfl, hw⟩
      have hB1 := hB.trans (wrote_under hW hw (Nat.le_refl _) (Nat.le_add_right _ 1))
      obtain ⟨s1, h1, -⟩ := hw
      have HR := Lib.hid (And.intro h1 hB1)
      clear h1 hB1 hW hB
      go_wp2
      go_roundw
      case rel => exact ⟨i + 1, s1, by omega, by go_num, HR.out.1, HR.out.2⟩
      case measure => simp [intOf]; omega
    · obtain rfl : n = i := by omega
      clear hin
      have hsz : w.heap.size + 1 + 1 + 1 + 1 ≤ wr.heap.size := hW.1.lt
      have hS0 : ∀ b, s.ownBlock = some b → w.heap.size + 1 + 1 + 1 + 1 ≤ b ∧ b < wr.heap.size := fun b hb => hW.2.1.lt b hb
      have HS0 := Lib.hid hS0
      have O1 := Lib.hid (HO.out.under hB)
      have HWr := Lib.hid (And.intro hW hB)
      clear hS0 hW hB
      have kx0 := O1.out.x.cell (v := .int .i64 L1) 0 rfl
      have kx1 := O1.out.x.cell (v := .int .i64 R1) 1 rfl
      have kx2 := O1.out.x.cell (v := .int .i64 B1) 2 rfl
      have kxl := O1.out.x.lt
      have ky0 := O1.out.y.cell (v := .int .i64 L2) 0 rfl
      have ky1 := O1.out.y.cell (v := .int .i64 R2) 1 rfl
      have ky2 := O1.out.y.cell (v := .int .i64 B2) 2 rfl
      have kyl := O1.out.y.lt
      go_upto_region 9 with fail
      refine wp_name (fun V => (Below (w.heap.size + 1 + 1 + 1) V0 V ∧ wr.heap.size < V.heap.size) ∧ WrAt (w.heap.size + 1 + 1 + 1 + 1) V (w.heap.size + 1 + 1 + 1) s (ones n) ∧ Bk V wr.heap.size #[.int .i64 L1, .int .i64 R1, .int .i64 B1, .int .i64 L2, .int .i64 R2, .int .i64 B2] 65) ⟨⟨HWr.out.2.trans (by go_grown), by simp⟩, HWr.out.1.below (by go_grown), by (repeat (first | with_reducible assumption | ((with_reducible refine Bk.at_ ?_); first | rfl | (simp; done)) | with_reducible apply Bk.alloc))⟩ ?_
      rintro V2 ⟨⟨hB2, hz2⟩, hW2, BP⟩
      clear kx0 kx1 kx2 kxl ky0 ky1 ky2 kyl
      clear O1 HWr
      have O2 := Lib.hid (HO.out.under hB2)
      obtain ⟨gp, hgp⟩ : ∃ gp, wr.heap.size = gp := ⟨_, rfl⟩
      rw [hgp] at BP ⊢
      have HR2 := Lib.hid (And.intro hB2 (And.intro hW2 BP))
      clear hB2 hW2 BP
      have kx0 := fun p : Mutd (fun _ : Nat => False) V2 => cell_mutd (O2.out.x.cell (v := .int .i64 L1) 0 rfl) (fun e => e) p
      have kx1 := fun p : Mutd (fun _ : Nat => False) V2 => cell_mutd (O2.out.x.cell (v := .int .i64 R1) 1 rfl) (fun e => e) p
      have kx2 := fun p : Mutd (fun _ : Nat => False) V2 => cell_mutd (O2.out.x.cell (v := .int .i64 B1) 2 rfl) (fun e => e) p
      have ky0 := fun p : Mutd (fun _ : Nat => False) V2 => cell_mutd (O2.out.y.cell (v := .int .i64 L2) 0 rfl) (fun e => e) p
      have ky1 := fun p : Mutd (fun _ : Nat => False) V2 => cell_mutd (O2.out.y.cell (v := .int .i64 R2) 1 rfl) (fun e => e) p
      have ky2 := fun p : Mutd (fun _ : Nat => False) V2 => cell_mutd (O2.out.y.cell (v := .int .i64 B2) 2 rfl) (fun e => e) p
      refine wp_region_low3 noPosts (fun _ : Nat => False) [] (sto1 2 4) 5 (by kernel_rfl) (fun b hb => hb.elim) (sto1_inj 2 4) (by kernel_rfl) ?_
      simp only [List.take, List.drop]
      iterate 2 (refine low3_step (sto1_no (by decide)) (fun K hK => ?_); go_simp; first | (refine hK _ ?_; clear hK K) | (apply Exists.intro; refine ⟨fun p => ?_, hK _ ?_⟩; clear hK K))
      refine low3_new (.cells #[.int .i64 0, .int .i64 0, .int .i64 0] 27) (sto1_no (by decide)) (by rfl) (fun w => by go_simp; try rfl) ?_
      intro ga
      refine low3_new (.cells #[.int .i64 0, .int .i64 0, .int .i64 0] 27) (sto1_no (by decide)) (by rfl) (fun w => by go_simp; try rfl) ?_
      intro gb
      refine low3_sto 2 ga #[.int .i64 0, .int .i64 0, .int .i64 0] #[.int .i64 L1, .int .i64 R1, .int .i64 B1] 27 rfl (by rfl) ⟨⟨2, .data⟩, by simp, rfl, rfl⟩ rfl (fun w B => by
          have lt := B.lt
          have c_0 := B.cell (v := .int .i64 0) 0 rfl
          have c_1 := B.cell (v := .int .i64 0) 1 rfl
          have c_2 := B.cell (v := .int .i64 0) 2 rfl
          have f_0 := B.free 0
          have f_1 := B.free 1
          have f_2 := B.free 2
          go_simp
          show ((w.setCell ⟨ga, 0, none⟩ (.int .i64 L1)).setCell ⟨ga, 1, none⟩ (.int .i64 R1)).setCell ⟨ga, 2, none⟩ (.int .i64 B1) = putObj w ga (.cells #[.int .i64 L1, .int .i64 R1, .int .i64 B1] 27)
          rw [setCell_put B, setCell_put (putObj_heap B), putObj_twice, setCell_put (putObj_heap B), putObj_twice]; rfl) ?_
      refine low3_nil ?_
      intro V3 hC
      obtain ⟨za, BA⟩ : _ ∧ Bk V3 ga #[.int .i64 L1, .int .i64 R1, .int .i64 B1] 27 := hC.made 2 ga _ rfl
      obtain ⟨zb, BBz⟩ : _ ∧ Bk V3 gb #[.int .i64 0, .int .i64 0, .int .i64 0] 27 := hC.made 3 gb _ rfl
      have hab : ga ≠ gb := fun e => by subst e; exact absurd (hC.apart 2 3 _ _ _ rfl rfl) (by decide)
      have hb3 : Below V2.heap.size V2 V3 := hC.fr.below (Nat.le_refl _) (fun _ _ e => e)
      clear kx0 kx1 kx2 ky0 ky1 ky2
      clear hC O2
      have c0 := BBz.cell (v := .int .i64 0) 0 rfl
      have c1 := BBz.cell (v := .int .i64 0) 1 rfl
      have c2 := BBz.cell (v := .int .i64 0) 2 rfl
      have f0 := BBz.free 0
      have f1 := BBz.free 1
      have f2 := BBz.free 2
      have cl := BBz.lt
      have hbs := ((hb3.setCell (p := ⟨gb, 0, none⟩) zb (.int .i64 L2)).setCell (p := ⟨gb, 1, none⟩) zb (.int .i64 R2)).setCell (p := ⟨gb, 2, none⟩) zb (.int .i64 B2)
      have HR3 := Lib.hid (And.intro za (And.intro zb (And.intro BA (And.intro BBz (And.intro hab hbs)))))
      clear za zb BA BBz hab hb3 hbs
      go_upto_region 10 with fail
      refine wp_name (fun V => (Below V2.heap.size V2 V ∧ Bk V ga #[.int .i64 L1, .int .i64 R1, .int .i64 B1] 27) ∧ Bk V gb #[.int .i64 L2, .int .i64 R2, .int .i64 B2] 27) ⟨⟨HR3.out.2.2.2.2.2, ((HR3.out.2.2.1.far HR3.out.2.2.2.2.1 _).far HR3.out.2.2.2.2.1 _).far HR3.out.2.2.2.2.1 _⟩, ((HR3.out.2.2.2.1.put 0 _).put 1 _).put 2 _⟩ ?_
      rintro V4 ⟨⟨hb4, BA⟩, BB⟩
      clear c0 c1 c2 f0 f1 f2 cl
      have O4 := Lib.hid (HO.out.under (HR2.out.1.trans (hb4.mono (by omega))))
      have HR4 := Lib.hid (show (Below (w.heap.size + 1 + 1 + 1) V0 V4 ∧ WrAt (w.heap.size + 1 + 1 + 1 + 1) V4 (w.heap.size + 1 + 1 + 1) s (ones n) ∧ Bk V4 gp #[.int .i64 L1, .int .i64 R1, .int .i64 B1, .int .i64 L2, .int .i64 R2, .int .i64 B2] 65 ∧ Bk V4 ga #[.int .i64 L1, .int .i64 R1, .int .i64 B1] 27 ∧ Bk V4 gb #[.int .i64 L2, .int .i64 R2, .int .i64 B2] 27) from
        ⟨HR2.out.1.trans (hb4.mono (by omega)), HR2.out.2.1.below hb4, HR2.out.2.2.below hb4, BA, BB⟩)
      have hS : ∀ b, SW (w.heap.size + 1 + 1 + 1) s b → w.heap.size + 1 + 1 + 1 ≤ b ∧ b < gp := fun b hb => by
        rcases hb with rfl | hb
        · omega
        · have := HS0.out b hb
          omega
      have hnp : ¬ SW (w.heap.size + 1 + 1 + 1) s gp := fun h => by have := hS _ h; omega
      have hna : ¬ SW (w.heap.size + 1 + 1 + 1) s ga := fun h => by have := hS _ h; have := HR3.out.1; omega
      have hnb : ¬ SW (w.heap.size + 1 + 1 + 1) s gb := fun h => by have := hS _ h; have := HR3.out.2.1; omega
      have hnx : ¬ SW (w.heap.size + 1 + 1 + 1) s w.heap.size := fun h => by have := hS _ h; omega
      have hnv : ¬ SW (w.heap.size + 1 + 1 + 1) s (w.heap.size + 1 + 1) := fun h => by have := hS _ h; omega
      have hz4 : w.heap.size + 1 + 1 + 1 + 1 ≤ V4.heap.size := HR4.out.2.1.1.lt
      clear hb4 BA BB HR3
      have kx0 := fun p : Mutd (SW (w.heap.size + 1 + 1 + 1) s) V4 => cell_mutd (O4.out.x.cell (v := .int .i64 L1) 0 rfl) hnx p
      have kx1 := fun p : Mutd (SW (w.heap.size + 1 + 1 + 1) s) V4 => cell_mutd (O4.out.x.cell (v := .int .i64 R1) 1 rfl) hnx p
      have kx2 := fun p : Mutd (SW (w.heap.size + 1 + 1 + 1) s) V4 => cell_mutd (O4.out.x.cell (v := .int .i64 B1) 2 rfl) hnx p
      have kv0 := fun p : Mutd (SW (w.heap.size + 1 + 1 + 1) s) V4 => cell_mutd (O4.out.v.cell (v := .int .i64 x) 0 rfl) hnv p
      have kv1 := fun p : Mutd (SW (w.heap.size + 1 + 1 + 1) s) V4 => cell_mutd (O4.out.v.cell (v := .int .i64 y) 1 rfl) hnv p
      have kp0 := fun p : Mutd (SW (w.heap.size + 1 + 1 + 1) s) V4 => cell_mutd (HR4.out.2.2.1.cell (v := .int .i64 L1) 0 rfl) hnp p
      have kp1 := fun p : Mutd (SW (w.heap.size + 1 + 1 + 1) s) V4 => cell_mutd (HR4.out.2.2.1.cell (v := .int .i64 R1) 1 rfl) hnp p
      have kp2 := fun p : Mutd (SW (w.heap.size + 1 + 1 + 1) s) V4 => cell_mutd (HR4.out.2.2.1.cell (v := .int .i64 B1) 2 rfl) hnp p
      have kp3 := fun p : Mutd (SW (w.heap.size + 1 + 1 + 1) s) V4 => cell_mutd (HR4.out.2.2.1.cell (v := .int .i64 L2) 3 rfl) hnp p
      have kp4 := fun p : Mutd (SW (w.heap.size + 1 + 1 + 1) s) V4 => cell_mutd (HR4.out.2.2.1.cell (v := .int .i64 R2) 4 rfl) hnp p
      have kp5 := fun p : Mutd (SW (w.heap.size + 1 + 1 + 1) s) V4 => cell_mutd (HR4.out.2.2.1.cell (v := .int .i64 B2) 5 rfl) hnp p
      refine wp_region_low3 (tPuts (w.heap.size + 1 + 1 + 1 + 1) (w.heap.size + 1 + 1 + 1) s l1 l2 0 2) (SW (w.heap.size + 1 + 1 + 1) s) [3, 6] noSto 7 (by kernel_rfl) (fun b hb => Nat.lt_trans (hS b hb).2 HR4.out.2.2.1.lt) noSto_inj (by kernel_rfl) ?_
      simp only [List.take, List.drop]
      iterate 3 (refine low3_step noSto_no (fun K hK => ?_); go_simp; first | (refine hK _ ?_; clear hK K) | (apply Exists.intro; refine ⟨fun p => ?_, hK _ ?_⟩; clear hK K))
      refine low3_call 29 #[G L1 R1 B1, .pointer (some ⟨w.heap.size + 1 + 1 + 1, 0, none⟩), .int .i64 x] (aPutG (w.heap.size + 1 + 1 + 1 + 1) (w.heap.size + 1 + 1 + 1) s l1 0) noSto_no (by decide) (by rfl) (fun w => by go_simp) (if_pos rfl) (fun V hV => ?_) ?_
      · have hWV : WrAt (w.heap.size + 1 + 1 + 1 + 1) V (w.heap.size + 1 + 1 + 1) s (ones n) := HR4.out.2.1.same ((hV.2.2 (by decide)).1 _ (Or.inl rfl)) (fun b hb => (hV.2.2 (by decide)).1 b (Or.inr hb))
        refine (gput_u _ _ s (ones n) l1 L1 R1 B1 x 0 V hWV (by rw [ones_length]; have := HA.out.1; omega) (Nat.le_trans hz4 hV.1.size) HP.out.1).mono ?_
        rintro o W' ⟨rfl, hw⟩
        exact ⟨_, rfl, ⟨rfl, hw⟩, wrote_mutU hw (.inl (Or.inl rfl)) (fun b hb => .inl (Or.inr hb))⟩
      rintro v V5 V6 hV5 ⟨rfl, hw1⟩ hm1
      iterate 2 (refine low3_step noSto_no (fun K hK => ?_); go_simp; first | (refine hK _ ?_; clear hK K) | (apply Exists.intro; refine ⟨fun p => ?_, hK _ ?_⟩; clear hK K))
      refine low3_call 30 #[PL L1 R1 B1 L2 R2 B2, .pointer (some ⟨w.heap.size + 1 + 1 + 1, 0, none⟩), .agg #[.int .i64 x, .int .i64 y]] (aPutP (w.heap.size + 1 + 1 + 1 + 1) (w.heap.size + 1 + 1 + 1) l1 l2 2) noSto_no (by decide) (by rfl) (fun w => by go_simp) (by unfold tPuts; rw [if_neg (by decide), if_pos rfl]) (fun V hV => ?_) ?_
      · obtain ⟨s1, hs1, ho1⟩ := wrote_open hw1
        have hWV : WrAt (w.heap.size + 1 + 1 + 1 + 1) V (w.heap.size + 1 + 1 + 1) s1 l1 := hs1.same ((hV.2.2 (by decide)).1 _ (.inl (Or.inl rfl))) (fun b hb => (hV.2.2 (by decide)).1 b (by rcases ho1 b hb with h | h; exact .inl (Or.inr h); exact .inr (.inr h)))
        refine (pput_u _ _ s1 l1 l2 L1 R1 B1 L2 R2 B2 x y 2 V hWV (by have := HP.out.2.2; have := HA.out.1; omega) (Nat.le_trans hz4 hV.1.size) HP.out.2.1).mono ?_
        rintro o W' ⟨rfl, hw⟩
        exact ⟨_, rfl, ⟨rfl, s1, hWV, hw⟩, wrote_mutU hw (.inl (Or.inl rfl)) (fun b hb => by rcases ho1 b hb with h | h; exact .inl (Or.inr h); exact .inr (.inr h))⟩
      rintro v V7 V8 hV7 ⟨rfl, s7, hs7, hw2⟩ hm2
      refine low3_nil ?_
      intro V9 hC
      obtain ⟨s2, hs2⟩ : ∃ s2, WrAt (w.heap.size + 1 + 1 + 1 + 1) V9 (w.heap.size + 1 + 1 + 1) s2 l2 := by
        obtain ⟨s1, hs1, ho1⟩ := wrote_open hw1
        have e7 : s7 = s1 := wrAt_inj hs7 (hs1.same ((hV7.2.2 (by decide)).1 _ (.inl (Or.inl rfl))) (fun b hb => (hV7.2.2 (by decide)).1 b (by rcases ho1 b hb with h | h; exact .inl (Or.inr h); exact .inr (.inr h))))
        subst e7
        obtain ⟨s2, hs2, ho2⟩ := wrote_open hw2
        exact ⟨s2, hs2.same (hC.phi _ (.inl (Or.inl rfl))) (fun b hb => hC.phi b (by
          rcases ho2 b hb with h | h
          · rcases ho1 b h with h | h
            · exact .inl (Or.inr h)
            · exact .inr (.inl (.inr h))
          · exact .inr (.inr h)))⟩
      have hu9 : Below (w.heap.size + 1 + 1 + 1) V4 V9 := hC.fr.below (by omega) (fun b hb hu => by have := (hS b hu).1; omega)
      have F := Lib.hid (show Fac w V9 L1 R1 B1 L2 R2 B2 x y gp ga gb s2 l2 from ⟨O4.out.b.trans (hu9.mono (by omega)), O4.out.x.under hu9 (by omega), O4.out.y.under hu9 (by omega), O4.out.v.under hu9 (by omega), HR4.out.2.2.1.mut hC.fr hnp, HR4.out.2.2.2.1.mut hC.fr hna, HR4.out.2.2.2.2.mut hC.fr hnb, hs2⟩)
      clear kx0 kx1 kx2 kv0 kv1 kp0 kp1 kp2 kp3 kp4 kp5
      clear hC hu9 hs2 hw1 hw2 hm1 hm2 hV5 hV7 hs7 hS hnp hna hnb hnx hnv hz4 hz2 HR4 HR2 O4 HS0 hsz hgp
      have ka0 := F.out.a.cell (v := .int .i64 L1) 0 rfl
      have ka1 := F.out.a.cell (v := .int .i64 R1) 1 rfl
      have ka2 := F.out.a.cell (v := .int .i64 B1) 2 rfl
      have kal := F.out.a.lt
      have kb0 := F.out.b.cell (v := .int .i64 L2) 0 rfl
      have kb1 := F.out.b.cell (v := .int .i64 R2) 1 rfl
      have kb2 := F.out.b.cell (v := .int .i64 B2) 2 rfl
      have kbl := F.out.b.lt
      go_wp2_with fail
      with_reducible refine (rvalid_yes L1 R1 B1 HG.out.1 _).mono ?_
      rintro e V10 ⟨rfl, hb⟩
      clear ka0 ka1 ka2 kal kb0 kb1 kb2 kbl
      replace F := Lib.hid (F.out.below hb)
      clear hb
      have ka0 := F.out.a.cell (v := .int .i64 L1) 0 rfl
      have ka1 := F.out.a.cell (v := .int .i64 R1) 1 rfl
      have ka2 := F.out.a.cell (v := .int .i64 B1) 2 rfl
      have kal := F.out.a.lt
      have kb0 := F.out.b.cell (v := .int .i64 L2) 0 rfl
      have kb1 := F.out.b.cell (v := .int .i64 R2) 1 rfl
      have kb2 := F.out.b.cell (v := .int .i64 B2) 2 rfl
      have kbl := F.out.b.lt
      go_wp2_with fail
      with_reducible refine (rvalid_no L2 R2 B2 HG.out.2 _).mono ?_
      rintro e V11 ⟨rfl, hb⟩
      clear ka0 ka1 ka2 kal kb0 kb1 kb2 kbl
      replace F := Lib.hid (F.out.below hb)
      clear hb
      go_upto_region 13 with fail
      have ka0 := cell_regrown (F.out.a.cell (v := .int .i64 L1) 0 rfl)
      have ka1 := cell_regrown (F.out.a.cell (v := .int .i64 R1) 1 rfl)
      have ka2 := cell_regrown (F.out.a.cell (v := .int .i64 B1) 2 rfl)
      have kx0 := cell_regrown (F.out.x.cell (v := .int .i64 L1) 0 rfl)
      have kx1 := cell_regrown (F.out.x.cell (v := .int .i64 R1) 1 rfl)
      have kx2 := cell_regrown (F.out.x.cell (v := .int .i64 B1) 2 rfl)
      have kp0 := cell_regrown (F.out.p.cell (v := .int .i64 L1) 0 rfl)
      have kp1 := cell_regrown (F.out.p.cell (v := .int .i64 R1) 1 rfl)
      have kp2 := cell_regrown (F.out.p.cell (v := .int .i64 B1) 2 rfl)
      have kp3 := cell_regrown (F.out.p.cell (v := .int .i64 L2) 3 rfl)
      have kp4 := cell_regrown (F.out.p.cell (v := .int .i64 R2) 4 rfl)
      have kp5 := cell_regrown (F.out.p.cell (v := .int .i64 B2) 5 rfl)
      have kv0 := cell_regrown (F.out.v.cell (v := .int .i64 x) 0 rfl)
      have kv1 := cell_regrown (F.out.v.cell (v := .int .i64 y) 1 rfl)
      have w1 : IntKind.i64.wrap ((n : Int) + B1) = (n : Int) + B1 := by have := HN.out; rw [IntKind.wrap_i64]; omega
      refine wp_region_low2 noPosts 41 (by kernel_rfl) (by kernel_rfl) ?_
      simp only [List.take, List.drop]
      iterate 3 (refine low2_step (fun K hK => ?_); go_simp; first | (refine hK _ ?_; clear hK K) | (apply Exists.intro; refine ⟨fun p => ?_, hK _ ?_⟩; clear hK K))
      refine low2_reads 31 #[G L1 R1 B1] (.bool true) (by rfl) (fun w => by go_simp) rfl (by kernel_rfl) (fun V hV _ => rvalid_yes L1 R1 B1 HG.out.1 V) ?_
      iterate 10 (refine low2_step (fun K hK => ?_); go_simp; first | (refine hK _ ?_; clear hK K) | (apply Exists.intro; refine ⟨fun p => ?_, hK _ ?_⟩; clear hK K))
      refine low2_reads 30 #[PL L1 R1 B1 L2 R2 B2, .pointer none, .agg #[.int .i64 x, .int .i64 y]] (.int .i64 2) (by rfl) (fun w => by go_simp) rfl (by kernel_rfl) (fun V hV _ => pput_no L1 R1 B1 L2 R2 B2 x y _ HM.out V) ?_
      iterate 14 (refine low2_step (fun K hK => ?_); go_simp; first | (refine hK _ ?_; clear hK K) | (apply Exists.intro; refine ⟨fun p => ?_, hK _ ?_⟩; clear hK K))
      refine low2_reads 32 #[.pointer (some ⟨w.heap.size + 1 + 1 + 1, 0, none⟩)] (.int .i64 ((n : Int) + B1)) (by rfl) (fun w => by go_simp) rfl (by kernel_rfl) (fun V hV _ => len_is ((n : Int) + B1) (F.out.wr.below hV) HN.out.1 (by have := HN.out; omega)) ?_
      iterate 9 (refine low2_step (fun K hK => ?_); go_simp; first | (refine hK _ ?_; clear hK K) | (apply Exists.intro; refine ⟨fun p => ?_, hK _ ?_⟩; clear hK K))
      refine low2_reads 9 #[] (.bool true) (by rfl) (fun w => by go_simp) rfl (by kernel_rfl) (fun V hV _ => awake21 V) ?_
      iterate 1 (refine low2_step (fun K hK => ?_); go_simp; first | (refine hK _ ?_; clear hK K) | (apply Exists.intro; refine ⟨fun p => ?_, hK _ ?_⟩; clear hK K))
      refine low2_nil ?_
      intro V15 hC
      clear ka0 ka1 ka2 kx0 kx1 kx2 kp0 kp1 kp2 kp3 kp4 kp5 kv0 kv1
      have F7 := Lib.hid (F.out.below hC.1)
      clear hC
      go_wp2
      go_returns
      exact ⟨rfl, F7.out.b0⟩
end Go.Proofs.YtghfggfgndgkjaaGreatDoor
