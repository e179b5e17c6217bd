/- QuantSends: the walk where both grids are valid. -/
import Derived.Test.YtghfggfgndgkjaaGreatDoorSendsBase
set_option linter.unusedVariables false
set_option linter.unusedSimpArgs false
namespace Go.Proofs.YtghfggfgndgkjaaGreatDoor
open Go Go.RowKit Go.Sort
set_option maxRecDepth 100000
attribute [local go_sem] opLow opUpon opLow2 opUpon2 opLow3
set_option maxHeartbeats 8000000 in
theorem sends_good (L1 R1 B1 L2 R2 B2 x y ahead cut : Int) (ha : 0 ≤ ahead ∧ ahead ≤ 255) (hc : 0 ≤ cut ∧ cut ≤ 255) (hg1 : GV L1 R1 B1) (hg2 : GV L2 R2 B2) (w : World) :
    Calls Tryz.prog 5 #[G L1 R1 B1, G L2 R2 B2, .agg #[.int .i64 x, .int .i64 y], .int .u8 ahead, .int .u8 cut] w fun e w' => e = .returned (.bool true) ∧ Below w.heap.size w w' := by
  obtain ⟨n, hn⟩ : ∃ n : Nat, ahead % 70 = n := ⟨(ahead % 70).toNat, by omega⟩
  have HA := Lib.hid (show n < 70 ∧ ahead % 70 = n from ⟨by omega, hn⟩)
  have hn7 : n < 70 := HA.out.1
  have hn70 : ahead.tmod 70 = n := by rw [Int.tmod_eq_emod_of_nonneg ha.1]; exact hn
  clear hn
  obtain ⟨i, hi⟩ : ∃ i, qi L1 R1 B1 x = i := ⟨_, rfl⟩
  obtain ⟨j, hj⟩ : ∃ j, qi L2 R2 B2 y = j := ⟨_, rfl⟩
  obtain ⟨P0, hP0⟩ : ∃ P, qp L1 R1 B1 i = P := ⟨_, rfl⟩
  obtain ⟨Q0, hQ0⟩ : ∃ P, qp L2 R2 B2 j = P := ⟨_, rfl⟩
  obtain ⟨hi1, hi2⟩ := qi_bd L1 R1 B1 x hg1
  obtain ⟨hj1, hj2⟩ := qi_bd L2 R2 B2 y hg2
  rw [hi] at hi1 hi2
  rw [hj] at hj1 hj2
  obtain ⟨c0, c1⟩ := hg1.2.2.2
  obtain ⟨d0, d1⟩ := hg2.2.2.2
  have gi := (gn_bd B1 c0 c1).2.1
  have gj := (gn_bd B2 d0 d1).2.1
  obtain ⟨l1, hl1⟩ : ∃ l, ones n ++ bitsOf i B1.toNat = l := ⟨_, rfl⟩
  obtain ⟨l2, hl2⟩ : ∃ l, sent n i j B1.toNat B2.toNat = l := ⟨_, rfl⟩
  have HG := Lib.hid (show GV L1 R1 B1 ∧ GV L2 R2 B2 from ⟨hg1, hg2⟩)
  have HP := Lib.hid (show PutG L1 R1 B1 x (ones n) 0 l1 ∧ PutP L1 R1 B1 L2 R2 B2 x y l1 0 l2 ∧ l1.length ≤ n + 32 from by
    refine ⟨.inl ⟨hg1, rfl, ?_⟩, .inl ⟨⟨hg1, hg2⟩, rfl, ?_⟩, ?_⟩
    · rw [hi]; exact hl1.symm
    · rw [hi, hj, ← hl1]; exact hl2.symm
    · rw [← hl1, List.length_append, ones_length, bitsOf_length]; omega)
  have hln : l2.length = n + 2 * B1.toNat + B2.toNat := by rw [← hl2]; exact sent_length _ _ _ _ _
  obtain ⟨Q, hQ⟩ : ∃ Q, (l2.length + 7) / 8 = Q := ⟨_, rfl⟩
  obtain ⟨q, hq⟩ : ∃ q : Nat, cut % ((Q : Int) + 1) = q := ⟨(cut % ((Q : Int) + 1)).toNat, by have := Int.emod_nonneg cut (show (Q : Int) + 1 ≠ 0 by omega); omega⟩
  have hqQ : q ≤ Q := by have := Int.emod_lt_of_pos cut (show 0 < (Q : Int) + 1 by omega); omega
  have HE := Lib.hid (show (qi L1 R1 B1 x = i ∧ qi L2 R2 B2 y = j ∧ sent n i j B1.toNat B2.toNat = l2) ∧ (qp L1 R1 B1 i = P0 ∧ qp L2 R2 B2 j = Q0) ∧ (0 ≤ i ∧ i ≤ gn B1 ∧ i ≤ 4294967295) ∧ (0 ≤ j ∧ j ≤ gn B2 ∧ j ≤ 4294967295) from ⟨⟨hi, hj, hl2⟩, ⟨hP0, hQ0⟩, ⟨hi1, hi2, Int.le_trans hi2 gi⟩, hj1, hj2, Int.le_trans hj2 gj⟩)
  have HN := Lib.hid (show (1 ≤ B1 ∧ B1 ≤ 32) ∧ (1 ≤ B2 ∧ B2 ≤ 32) ∧ l2.length = n + 2 * B1.toNat + B2.toNat ∧ (l2.length + 7) / 8 = Q ∧ Q ≤ 30 ∧ 0 < Q ∧ q ≤ Q ∧ 0 < l2.length ∧ l2.length ≤ 1048576 from ⟨⟨c0, c1⟩, ⟨d0, d1⟩, hln, hQ, by omega, by omega, hqQ, by omega, by omega⟩)
  have hcut : cut.tmod ((Q : Int) + 1) = q := by rw [Int.tmod_eq_emod_of_nonneg hc.1]; exact hq
  clear hi hj hl1 hl2 hg1 hg2 hi1 hi2 hj1 hj2 c0 c1 d0 d1 gi gj hln hQ hq hqQ hP0 hQ0
  go_enter Tryz.func5, Tryz.ntmps5
  go_upto_region 4 with fail
  refine wp_name (fun V => Old w V L1 R1 B1 L2 R2 B2 x y ∧ Bk V (w.heap.size + 1 + 1 + 1) #[.slice none 0 0, .int .i64 0] 61) ⟨⟨by simp, by go_grown, by (repeat (first | with_reducible assumption | ((with_reducible refine Bk.at_ ?_); first | rfl | (simp; done)) | with_reducible apply Bk.alloc)), by (repeat (first | with_reducible assumption | ((with_reducible refine Bk.at_ ?_); first | rfl | (simp; done)) | with_reducible apply Bk.alloc)), by (repeat (first | with_reducible assumption | ((with_reducible refine Bk.at_ ?_); first | rfl | (simp; done)) | with_reducible apply Bk.alloc))⟩, by (repeat (first | with_reducible assumption | ((with_reducible refine Bk.at_ ?_); first | rfl | (simp; done)) | with_reducible apply Bk.alloc))⟩ ?_
  rintro V0 ⟨HO, BW⟩
  have HW := Lib.hid (show WrAt (w.heap.size + 1 + 1 + 1 + 1) V0 (w.heap.size + 1 + 1 + 1) (.slice none 0 0) (ones 0) from ⟨BW, World.ownsRow_nil _ _ _ _, isBits_nil⟩)
  replace HO := Lib.hid HO
  clear BW
  go_loopw [40] (fun v40 wr => ∃ (i : Nat) (s : Value), i ≤ n ∧ v40 = .int .i64 i ∧ WrAt (w.heap.size + 1 + 1 + 1 + 1) wr (w.heap.size + 1 + 1 + 1) s (ones i) ∧ Below (w.heap.size + 1 + 1 + 1) V0 wr) (fun v40 _ => n - (intOf v40).toNat)
  case atStart => exact ⟨0, _, Nat.zero_le _, rfl, HW.out, Below.refl _ _⟩
  case round =>
    clear HW
    obtain ⟨i, s, hin, rfl, hW, hB⟩ := hrel
    by_cases hlt : i < n
    · have hsz : w.heap.size + 1 + 1 + 1 + 1 ≤ wr.heap.size := hW.1.lt
      go_wp2_with fail
      with_reducible refine (put_one (w.heap.size + 1 + 1 + 1 + 1) (w.heap.size + 1 + 1 + 1) s i _ hW (by have := HA.out.1; omega) hsz).mono ?_
      rintro e w1 ⟨rfl, hw⟩
      have hB1 := hB.trans (wrote_under hW hw (Nat.le_refl _) (Nat.le_add_right _ 1))
      obtain ⟨s1, h1, -⟩ := hw
      have HR := Lib.hid (And.intro h1 hB1)
      clear h1 hB1 hW hB
      go_wp2
      go_roundw
      case rel => exact ⟨i + 1, s1, by omega, by go_num, HR.out.1, HR.out.2⟩
      case measure => simp [intOf]; omega
    · obtain rfl : n = i := by omega
      clear hin
      have hsz : w.heap.size + 1 + 1 + 1 + 1 ≤ wr.heap.size := hW.1.lt
      have hS0 : ∀ b, s.ownBlock = some b → w.heap.size + 1 + 1 + 1 + 1 ≤ b ∧ b < wr.heap.size := fun b hb => hW.2.1.lt b hb
      have HS0 := Lib.hid hS0
      have O1 := Lib.hid (HO.out.under hB)
      have HWr := Lib.hid (And.intro hW hB)
      clear hS0 hW hB
      have kx0 := O1.out.x.cell (v := .int .i64 L1) 0 rfl
      have kx1 := O1.out.x.cell (v := .int .i64 R1) 1 rfl
      have kx2 := O1.out.x.cell (v := .int .i64 B1) 2 rfl
      have kxl := O1.out.x.lt
      have ky0 := O1.out.y.cell (v := .int .i64 L2) 0 rfl
      have ky1 := O1.out.y.cell (v := .int .i64 R2) 1 rfl
      have ky2 := O1.out.y.cell (v := .int .i64 B2) 2 rfl
      have kyl := O1.out.y.lt
      go_upto_region 9 with fail
      refine wp_name (fun V => (Below (w.heap.size + 1 + 1 + 1) V0 V ∧ wr.heap.size < V.heap.size) ∧ WrAt (w.heap.size + 1 + 1 + 1 + 1) V (w.heap.size + 1 + 1 + 1) s (ones n) ∧ Bk V wr.heap.size #[.int .i64 L1, .int .i64 R1, .int .i64 B1, .int .i64 L2, .int .i64 R2, .int .i64 B2] 65) ⟨⟨HWr.out.2.trans (by go_grown), by simp⟩, HWr.out.1.below (by go_grown), by (repeat (first | with_reducible assumption | ((with_reducible refine Bk.at_ ?_); first | rfl | (simp; done)) | with_reducible apply Bk.alloc))⟩ ?_
      rintro V2 ⟨⟨hB2, hz2⟩, hW2, BP⟩
      clear kx0 kx1 kx2 kxl ky0 ky1 ky2 kyl
      clear O1 HWr
      have O2 := Lib.hid (HO.out.under hB2)
      obtain ⟨gp, hgp⟩ : ∃ gp, wr.heap.size = gp := ⟨_, rfl⟩
      rw [hgp] at BP ⊢
      have HR2 := Lib.hid (And.intro hB2 (And.intro hW2 BP))
      clear hB2 hW2 BP
      have kx0 := fun p : Mutd (fun _ : Nat => False) V2 => cell_mutd (O2.out.x.cell (v := .int .i64 L1) 0 rfl) (fun e => e) p
      have kx1 := fun p : Mutd (fun _ : Nat => False) V2 => cell_mutd (O2.out.x.cell (v := .int .i64 R1) 1 rfl) (fun e => e) p
      have kx2 := fun p : Mutd (fun _ : Nat => False) V2 => cell_mutd (O2.out.x.cell (v := .int .i64 B1) 2 rfl) (fun e => e) p
      have ky0 := fun p : Mutd (fun _ : Nat => False) V2 => cell_mutd (O2.out.y.cell (v := .int .i64 L2) 0 rfl) (fun e => e) p
      have ky1 := fun p : Mutd (fun _ : Nat => False) V2 => cell_mutd (O2.out.y.cell (v := .int .i64 R2) 1 rfl) (fun e => e) p
      have ky2 := fun p : Mutd (fun _ : Nat => False) V2 => cell_mutd (O2.out.y.cell (v := .int .i64 B2) 2 rfl) (fun e => e) p
      refine wp_region_low3 noPosts (fun _ : Nat => False) [] (sto1 2 4) 5 (by kernel_rfl) (fun b hb => hb.elim) (sto1_inj 2 4) (by kernel_rfl) ?_
      simp only [List.take, List.drop]
      iterate 2 (refine low3_step (sto1_no (by decide)) (fun K hK => ?_); go_simp; first | (refine hK _ ?_; clear hK K) | (apply Exists.intro; refine ⟨fun p => ?_, hK _ ?_⟩; clear hK K))
      refine low3_new (.cells #[.int .i64 0, .int .i64 0, .int .i64 0] 27) (sto1_no (by decide)) (by rfl) (fun w => by go_simp; try rfl) ?_
      intro ga
      refine low3_new (.cells #[.int .i64 0, .int .i64 0, .int .i64 0] 27) (sto1_no (by decide)) (by rfl) (fun w => by go_simp; try rfl) ?_
      intro gb
      refine low3_sto 2 ga #[.int .i64 0, .int .i64 0, .int .i64 0] #[.int .i64 L1, .int .i64 R1, .int .i64 B1] 27 rfl (by rfl) ⟨⟨2, .data⟩, by simp, rfl, rfl⟩ rfl (fun w B => by
          have lt := B.lt
          have c_0 := B.cell (v := .int .i64 0) 0 rfl
          have c_1 := B.cell (v := .int .i64 0) 1 rfl
          have c_2 := B.cell (v := .int .i64 0) 2 rfl
          have f_0 := B.free 0
          have f_1 := B.free 1
          have f_2 := B.free 2
          go_simp
          show ((w.setCell ⟨ga, 0, none⟩ (.int .i64 L1)).setCell ⟨ga, 1, none⟩ (.int .i64 R1)).setCell ⟨ga, 2, none⟩ (.int .i64 B1) = putObj w ga (.cells #[.int .i64 L1, .int .i64 R1, .int .i64 B1] 27)
          rw [setCell_put B, setCell_put (putObj_heap B), putObj_twice, setCell_put (putObj_heap B), putObj_twice]; rfl) ?_
      refine low3_nil ?_
      intro V3 hC
      obtain ⟨za, BA⟩ : _ ∧ Bk V3 ga #[.int .i64 L1, .int .i64 R1, .int .i64 B1] 27 := hC.made 2 ga _ rfl
      obtain ⟨zb, BBz⟩ : _ ∧ Bk V3 gb #[.int .i64 0, .int .i64 0, .int .i64 0] 27 := hC.made 3 gb _ rfl
      have hab : ga ≠ gb := fun e => by subst e; exact absurd (hC.apart 2 3 _ _ _ rfl rfl) (by decide)
      have hb3 : Below V2.heap.size V2 V3 := hC.fr.below (Nat.le_refl _) (fun _ _ e => e)
      clear kx0 kx1 kx2 ky0 ky1 ky2
      clear hC O2
      have c0 := BBz.cell (v := .int .i64 0) 0 rfl
      have c1 := BBz.cell (v := .int .i64 0) 1 rfl
      have c2 := BBz.cell (v := .int .i64 0) 2 rfl
      have f0 := BBz.free 0
      have f1 := BBz.free 1
      have f2 := BBz.free 2
      have cl := BBz.lt
      have hbs := ((hb3.setCell (p := ⟨gb, 0, none⟩) zb (.int .i64 L2)).setCell (p := ⟨gb, 1, none⟩) zb (.int .i64 R2)).setCell (p := ⟨gb, 2, none⟩) zb (.int .i64 B2)
      have HR3 := Lib.hid (And.intro za (And.intro zb (And.intro BA (And.intro BBz (And.intro hab hbs)))))
      clear za zb BA BBz hab hb3 hbs
      go_upto_region 10 with fail
      refine wp_name (fun V => (Below V2.heap.size V2 V ∧ Bk V ga #[.int .i64 L1, .int .i64 R1, .int .i64 B1] 27) ∧ Bk V gb #[.int .i64 L2, .int .i64 R2, .int .i64 B2] 27) ⟨⟨HR3.out.2.2.2.2.2, ((HR3.out.2.2.1.far HR3.out.2.2.2.2.1 _).far HR3.out.2.2.2.2.1 _).far HR3.out.2.2.2.2.1 _⟩, ((HR3.out.2.2.2.1.put 0 _).put 1 _).put 2 _⟩ ?_
      rintro V4 ⟨⟨hb4, BA⟩, BB⟩
      clear c0 c1 c2 f0 f1 f2 cl
      have O4 := Lib.hid (HO.out.under (HR2.out.1.trans (hb4.mono (by omega))))
      have HR4 := Lib.hid (show (Below (w.heap.size + 1 + 1 + 1) V0 V4 ∧ WrAt (w.heap.size + 1 + 1 + 1 + 1) V4 (w.heap.size + 1 + 1 + 1) s (ones n) ∧ Bk V4 gp #[.int .i64 L1, .int .i64 R1, .int .i64 B1, .int .i64 L2, .int .i64 R2, .int .i64 B2] 65 ∧ Bk V4 ga #[.int .i64 L1, .int .i64 R1, .int .i64 B1] 27 ∧ Bk V4 gb #[.int .i64 L2, .int .i64 R2, .int .i64 B2] 27) from
        ⟨HR2.out.1.trans (hb4.mono (by omega)), HR2.out.2.1.below hb4, HR2.out.2.2.below hb4, BA, BB⟩)
      have hS : ∀ b, SW (w.heap.size + 1 + 1 + 1) s b → w.heap.size + 1 + 1 + 1 ≤ b ∧ b < gp := fun b hb => by
        rcases hb with rfl | hb
        · omega
        · have := HS0.out b hb
          omega
      have hnp : ¬ SW (w.heap.size + 1 + 1 + 1) s gp := fun h => by have := hS _ h; omega
      have hna : ¬ SW (w.heap.size + 1 + 1 + 1) s ga := fun h => by have := hS _ h; have := HR3.out.1; omega
      have hnb : ¬ SW (w.heap.size + 1 + 1 + 1) s gb := fun h => by have := hS _ h; have := HR3.out.2.1; omega
      have hnx : ¬ SW (w.heap.size + 1 + 1 + 1) s w.heap.size := fun h => by have := hS _ h; omega
      have hnv : ¬ SW (w.heap.size + 1 + 1 + 1) s (w.heap.size + 1 + 1) := fun h => by have := hS _ h; omega
      have hz4 : w.heap.size + 1 + 1 + 1 + 1 ≤ V4.heap.size := HR4.out.2.1.1.lt
      clear hb4 BA BB HR3
      have kx0 := fun p : Mutd (SW (w.heap.size + 1 + 1 + 1) s) V4 => cell_mutd (O4.out.x.cell (v := .int .i64 L1) 0 rfl) hnx p
      have kx1 := fun p : Mutd (SW (w.heap.size + 1 + 1 + 1) s) V4 => cell_mutd (O4.out.x.cell (v := .int .i64 R1) 1 rfl) hnx p
      have kx2 := fun p : Mutd (SW (w.heap.size + 1 + 1 + 1) s) V4 => cell_mutd (O4.out.x.cell (v := .int .i64 B1) 2 rfl) hnx p
      have kv0 := fun p : Mutd (SW (w.heap.size + 1 + 1 + 1) s) V4 => cell_mutd (O4.out.v.cell (v := .int .i64 x) 0 rfl) hnv p
      have kv1 := fun p : Mutd (SW (w.heap.size + 1 + 1 + 1) s) V4 => cell_mutd (O4.out.v.cell (v := .int .i64 y) 1 rfl) hnv p
      have kp0 := fun p : Mutd (SW (w.heap.size + 1 + 1 + 1) s) V4 => cell_mutd (HR4.out.2.2.1.cell (v := .int .i64 L1) 0 rfl) hnp p
      have kp1 := fun p : Mutd (SW (w.heap.size + 1 + 1 + 1) s) V4 => cell_mutd (HR4.out.2.2.1.cell (v := .int .i64 R1) 1 rfl) hnp p
      have kp2 := fun p : Mutd (SW (w.heap.size + 1 + 1 + 1) s) V4 => cell_mutd (HR4.out.2.2.1.cell (v := .int .i64 B1) 2 rfl) hnp p
      have kp3 := fun p : Mutd (SW (w.heap.size + 1 + 1 + 1) s) V4 => cell_mutd (HR4.out.2.2.1.cell (v := .int .i64 L2) 3 rfl) hnp p
      have kp4 := fun p : Mutd (SW (w.heap.size + 1 + 1 + 1) s) V4 => cell_mutd (HR4.out.2.2.1.cell (v := .int .i64 R2) 4 rfl) hnp p
      have kp5 := fun p : Mutd (SW (w.heap.size + 1 + 1 + 1) s) V4 => cell_mutd (HR4.out.2.2.1.cell (v := .int .i64 B2) 5 rfl) hnp p
      refine wp_region_low3 (tPuts (w.heap.size + 1 + 1 + 1 + 1) (w.heap.size + 1 + 1 + 1) s l1 l2 0 0) (SW (w.heap.size + 1 + 1 + 1) s) [3, 6] noSto 7 (by kernel_rfl) (fun b hb => Nat.lt_trans (hS b hb).2 HR4.out.2.2.1.lt) noSto_inj (by kernel_rfl) ?_
      simp only [List.take, List.drop]
      iterate 3 (refine low3_step noSto_no (fun K hK => ?_); go_simp; first | (refine hK _ ?_; clear hK K) | (apply Exists.intro; refine ⟨fun p => ?_, hK _ ?_⟩; clear hK K))
      refine low3_call 29 #[G L1 R1 B1, .pointer (some ⟨w.heap.size + 1 + 1 + 1, 0, none⟩), .int .i64 x] (aPutG (w.heap.size + 1 + 1 + 1 + 1) (w.heap.size + 1 + 1 + 1) s l1 0) noSto_no (by decide) (by rfl) (fun w => by go_simp) (if_pos rfl) (fun V hV => ?_) ?_
      · have hWV : WrAt (w.heap.size + 1 + 1 + 1 + 1) V (w.heap.size + 1 + 1 + 1) s (ones n) := HR4.out.2.1.same ((hV.2.2 (by decide)).1 _ (Or.inl rfl)) (fun b hb => (hV.2.2 (by decide)).1 b (Or.inr hb))
        refine (gput_u _ _ s (ones n) l1 L1 R1 B1 x 0 V hWV (by rw [ones_length]; have := HA.out.1; omega) (Nat.le_trans hz4 hV.1.size) HP.out.1).mono ?_
        rintro o W' ⟨rfl, hw⟩
        exact ⟨_, rfl, ⟨rfl, hw⟩, wrote_mutU hw (.inl (Or.inl rfl)) (fun b hb => .inl (Or.inr hb))⟩
      rintro v V5 V6 hV5 ⟨rfl, hw1⟩ hm1
      iterate 2 (refine low3_step noSto_no (fun K hK => ?_); go_simp; first | (refine hK _ ?_; clear hK K) | (apply Exists.intro; refine ⟨fun p => ?_, hK _ ?_⟩; clear hK K))
      refine low3_call 30 #[PL L1 R1 B1 L2 R2 B2, .pointer (some ⟨w.heap.size + 1 + 1 + 1, 0, none⟩), .agg #[.int .i64 x, .int .i64 y]] (aPutP (w.heap.size + 1 + 1 + 1 + 1) (w.heap.size + 1 + 1 + 1) l1 l2 0) noSto_no (by decide) (by rfl) (fun w => by go_simp) (by unfold tPuts; rw [if_neg (by decide), if_pos rfl]) (fun V hV => ?_) ?_
      · obtain ⟨s1, hs1, ho1⟩ := wrote_open hw1
        have hWV : WrAt (w.heap.size + 1 + 1 + 1 + 1) V (w.heap.size + 1 + 1 + 1) s1 l1 := hs1.same ((hV.2.2 (by decide)).1 _ (.inl (Or.inl rfl))) (fun b hb => (hV.2.2 (by decide)).1 b (by rcases ho1 b hb with h | h; exact .inl (Or.inr h); exact .inr (.inr h)))
        refine (pput_u _ _ s1 l1 l2 L1 R1 B1 L2 R2 B2 x y 0 V hWV (by have := HP.out.2.2; have := HA.out.1; omega) (Nat.le_trans hz4 hV.1.size) HP.out.2.1).mono ?_
        rintro o W' ⟨rfl, hw⟩
        exact ⟨_, rfl, ⟨rfl, s1, hWV, hw⟩, wrote_mutU hw (.inl (Or.inl rfl)) (fun b hb => by rcases ho1 b hb with h | h; exact .inl (Or.inr h); exact .inr (.inr h))⟩
      rintro v V7 V8 hV7 ⟨rfl, s7, hs7, hw2⟩ hm2
      refine low3_nil ?_
      intro V9 hC
      obtain ⟨s2, hs2⟩ : ∃ s2, WrAt (w.heap.size + 1 + 1 + 1 + 1) V9 (w.heap.size + 1 + 1 + 1) s2 l2 := by
        obtain ⟨s1, hs1, ho1⟩ := wrote_open hw1
        have e7 : s7 = s1 := wrAt_inj hs7 (hs1.same ((hV7.2.2 (by decide)).1 _ (.inl (Or.inl rfl))) (fun b hb => (hV7.2.2 (by decide)).1 b (by rcases ho1 b hb with h | h; exact .inl (Or.inr h); exact .inr (.inr h))))
        subst e7
        obtain ⟨s2, hs2, ho2⟩ := wrote_open hw2
        exact ⟨s2, hs2.same (hC.phi _ (.inl (Or.inl rfl))) (fun b hb => hC.phi b (by
          rcases ho2 b hb with h | h
          · rcases ho1 b h with h | h
            · exact .inl (Or.inr h)
            · exact .inr (.inl (.inr h))
          · exact .inr (.inr h)))⟩
      have hu9 : Below (w.heap.size + 1 + 1 + 1) V4 V9 := hC.fr.below (by omega) (fun b hb hu => by have := (hS b hu).1; omega)
      have F := Lib.hid (show Fac w V9 L1 R1 B1 L2 R2 B2 x y gp ga gb s2 l2 from ⟨O4.out.b.trans (hu9.mono (by omega)), O4.out.x.under hu9 (by omega), O4.out.y.under hu9 (by omega), O4.out.v.under hu9 (by omega), HR4.out.2.2.1.mut hC.fr hnp, HR4.out.2.2.2.1.mut hC.fr hna, HR4.out.2.2.2.2.mut hC.fr hnb, hs2⟩)
      clear kx0 kx1 kx2 kv0 kv1 kp0 kp1 kp2 kp3 kp4 kp5
      clear hC hu9 hs2 hw1 hw2 hm1 hm2 hV5 hV7 hs7 hS hnp hna hnb hnx hnv hz4 hz2 HR4 HR2 O4 HS0 hsz hgp
      have ka0 := F.out.a.cell (v := .int .i64 L1) 0 rfl
      have ka1 := F.out.a.cell (v := .int .i64 R1) 1 rfl
      have ka2 := F.out.a.cell (v := .int .i64 B1) 2 rfl
      have kal := F.out.a.lt
      have kb0 := F.out.b.cell (v := .int .i64 L2) 0 rfl
      have kb1 := F.out.b.cell (v := .int .i64 R2) 1 rfl
      have kb2 := F.out.b.cell (v := .int .i64 B2) 2 rfl
      have kbl := F.out.b.lt
      go_wp2_with fail
      with_reducible refine (rvalid_yes L1 R1 B1 HG.out.1 _).mono ?_
      rintro e V10 ⟨rfl, hb⟩
      clear ka0 ka1 ka2 kal kb0 kb1 kb2 kbl
      replace F := Lib.hid (F.out.below hb)
      clear hb
      have ka0 := F.out.a.cell (v := .int .i64 L1) 0 rfl
      have ka1 := F.out.a.cell (v := .int .i64 R1) 1 rfl
      have ka2 := F.out.a.cell (v := .int .i64 B1) 2 rfl
      have kal := F.out.a.lt
      have kb0 := F.out.b.cell (v := .int .i64 L2) 0 rfl
      have kb1 := F.out.b.cell (v := .int .i64 R2) 1 rfl
      have kb2 := F.out.b.cell (v := .int .i64 B2) 2 rfl
      have kbl := F.out.b.lt
      go_wp2_with fail
      with_reducible refine (rvalid_yes L2 R2 B2 HG.out.2 _).mono ?_
      rintro e V11 ⟨rfl, hb⟩
      clear ka0 ka1 ka2 kal kb0 kb1 kb2 kbl
      replace F := Lib.hid (F.out.below hb)
      clear hb
      go_upto_region 14 with fail
      have ka0 := cell_regrown (F.out.a.cell (v := .int .i64 L1) 0 rfl)
      have ka1 := cell_regrown (F.out.a.cell (v := .int .i64 R1) 1 rfl)
      have ka2 := cell_regrown (F.out.a.cell (v := .int .i64 B1) 2 rfl)
      have kb0 := cell_regrown (F.out.b.cell (v := .int .i64 L2) 0 rfl)
      have kb1 := cell_regrown (F.out.b.cell (v := .int .i64 R2) 1 rfl)
      have kb2 := cell_regrown (F.out.b.cell (v := .int .i64 B2) 2 rfl)
      have kv0 := cell_regrown (F.out.v.cell (v := .int .i64 x) 0 rfl)
      have kv1 := cell_regrown (F.out.v.cell (v := .int .i64 y) 1 rfl)
      have HI1 : Hid (∀ V, Calls Tryz.prog 33 #[G L1 R1 B1, .int .i64 x] V fun e w' => e = .returned (.int .i64 i) ∧ Below V.heap.size V w') := Lib.hid (fun V => by have := rindex_any L1 R1 B1 x HG.out.1 V; rw [HE.out.1.1] at this; exact this)
      have HI2 : Hid (∀ V, Calls Tryz.prog 33 #[G L2 R2 B2, .int .i64 y] V fun e w' => e = .returned (.int .i64 j) ∧ Below V.heap.size V w') := Lib.hid (fun V => by have := rindex_any L2 R2 B2 y HG.out.2 V; rw [HE.out.1.2.1] at this; exact this)
      have iw : IntKind.u64.wrap i = i := by have := HE.out.2.2.1; rw [IntKind.wrap_u64]; omega
      have jw : IntKind.u64.wrap j = j := by have := HE.out.2.2.2; rw [IntKind.wrap_u64]; omega
      refine wp_region_low2 noPosts 16 (by kernel_rfl) (by kernel_rfl) ?_
      simp only [List.take, List.drop]
      iterate 3 (refine low2_step (fun K hK => ?_); go_simp; first | (refine hK _ ?_; clear hK K) | (apply Exists.intro; refine ⟨fun p => ?_, hK _ ?_⟩; clear hK K))
      refine low2_reads 33 #[G L1 R1 B1, .int .i64 x] (.int .i64 i) (by rfl) (fun w => by go_simp) rfl (by kernel_rfl) (fun V _ _ => HI1.out V) ?_
      iterate 4 (refine low2_step (fun K hK => ?_); go_simp; first | (refine hK _ ?_; clear hK K) | (apply Exists.intro; refine ⟨fun p => ?_, hK _ ?_⟩; clear hK K))
      refine low2_reads 33 #[G L1 R1 B1, .int .i64 x] (.int .i64 i) (by rfl) (fun w => by go_simp) rfl (by kernel_rfl) (fun V _ _ => HI1.out V) ?_
      iterate 4 (refine low2_step (fun K hK => ?_); go_simp; first | (refine hK _ ?_; clear hK K) | (apply Exists.intro; refine ⟨fun p => ?_, hK _ ?_⟩; clear hK K))
      refine low2_reads 33 #[G L2 R2 B2, .int .i64 y] (.int .i64 j) (by rfl) (fun w => by go_simp) rfl (by kernel_rfl) (fun V _ _ => HI2.out V) ?_
      iterate 1 (refine low2_step (fun K hK => ?_); go_simp; first | (refine hK _ ?_; clear hK K) | (apply Exists.intro; refine ⟨fun p => ?_, hK _ ?_⟩; clear hK K))
      refine low2_slice 3 3 (.cells #[.int .u64 i, .int .u64 i, .int .u64 j] 63) (by rfl) (fun w => by go_simp) ?_
      intro gw
      refine low2_nil ?_
      intro V14 hC
      obtain ⟨zw, BQ⟩ : _ ∧ Bk V14 gw #[.int .u64 i, .int .u64 i, .int .u64 j] 63 := hC.made 15 _ rfl
      clear ka0 ka1 ka2 kb0 kb1 kb2 kv0 kv1
      replace F := Lib.hid (And.intro (F.out.below hC.1) BQ)
      clear hC zw BQ iw jw HI1 HI2
      go_upto_region 15 with fail
      have kx0 := cell_regrown (F.out.1.x.cell (v := .int .i64 L1) 0 rfl)
      have kx1 := cell_regrown (F.out.1.x.cell (v := .int .i64 R1) 1 rfl)
      have kx2 := cell_regrown (F.out.1.x.cell (v := .int .i64 B1) 2 rfl)
      have ky0 := cell_regrown (F.out.1.y.cell (v := .int .i64 L2) 0 rfl)
      have ky1 := cell_regrown (F.out.1.y.cell (v := .int .i64 R2) 1 rfl)
      have ky2 := cell_regrown (F.out.1.y.cell (v := .int .i64 B2) 2 rfl)
      have w1 : IntKind.i64.wrap (2 * B1) = 2 * B1 := by have := HN.out; rw [IntKind.wrap_i64]; omega
      have w2 : IntKind.i64.wrap ((n : Int) + 2 * B1) = (n : Int) + 2 * B1 := by have := HN.out; have := HA.out.1; rw [IntKind.wrap_i64]; omega
      have w3 : IntKind.i64.wrap ((n : Int) + 2 * B1 + B2) = (n : Int) + 2 * B1 + B2 := by have := HN.out; have := HA.out.1; rw [IntKind.wrap_i64]; omega
      refine wp_region_low2 noPosts 17 (by kernel_rfl) (by kernel_rfl) ?_
      simp only [List.take, List.drop]
      iterate 7 (refine low2_step (fun K hK => ?_); go_simp; first | (refine hK _ ?_; clear hK K) | (apply Exists.intro; refine ⟨fun p => ?_, hK _ ?_⟩; clear hK K))
      refine low2_reads 32 #[.pointer (some ⟨w.heap.size + 1 + 1 + 1, 0, none⟩)] (.int .i64 ((n : Int) + 2 * B1 + B2)) (by rfl) (fun w => by go_simp) rfl (by kernel_rfl) (fun V hV _ => len_is ((n : Int) + 2 * B1 + B2) (F.out.1.wr.below hV) HN.out.2.2.1 (by have := HN.out; omega)) ?_
      iterate 9 (refine low2_step (fun K hK => ?_); go_simp; first | (refine hK _ ?_; clear hK K) | (apply Exists.intro; refine ⟨fun p => ?_, hK _ ?_⟩; clear hK K))
      refine low2_nil ?_
      intro V15 hC
      clear kx0 kx1 kx2 ky0 ky1 ky2
      replace F := Lib.hid (And.intro (F.out.1.below hC.1) (F.out.2.below hC.1))
      clear hC w1 w2 w3
      go_wp2_with fail
      with_reducible refine (bytes_any (w.heap.size + 1 + 1 + 1 + 1) (w.heap.size + 1 + 1 + 1) s2 l2 _ F.out.1.wr HN.out.2.2.2.2.2.2.2.1 HN.out.2.2.2.2.2.2.2.2).mono ?_
      rw [HN.out.2.2.2.1]
      rintro e V17 ⟨v, rfl, gf, cf, rfl, hrow, hb⟩
      obtain ⟨hcf, hcf2⟩ : Q ≤ cf ∧ cf ≤ maxLen := by
        rcases hrow.2 with ⟨h, -⟩ | ⟨g, cap, cur, h, -, -, h2, h3, -⟩
        · cases h
        · cases h
          exact ⟨h2, h3⟩
      replace F := Lib.hid (And.intro (F.out.1.below hb) (And.intro (F.out.2.below hb) hrow))
      clear hb hrow
      have hqc : q ≤ cf := Nat.le_trans HN.out.2.2.2.2.2.2.1 hcf
      have wq : IntKind.i64.wrap ((Q : Int) + 1) = (Q : Int) + 1 := by have := HN.out; rw [IntKind.wrap_i64]; omega
      go_upto_region 20 with fail
      refine wp_name (fun V => Below V17.heap.size V17 V ∧ Bk V V17.heap.size #[(.slice (some ⟨gf, 0, none⟩) Q cf), .slice (some ⟨gf, 0, none⟩) q cf] 59) ⟨by go_grown, by (repeat (first | with_reducible assumption | ((with_reducible refine Bk.at_ ?_); first | rfl | (simp; done)) | with_reducible apply Bk.alloc))⟩ ?_
      rintro V19 ⟨hb, BS⟩
      obtain ⟨ga2, hga2⟩ : ∃ g, V17.heap.size = g := ⟨_, rfl⟩
      rw [hga2] at BS ⊢
      replace F := Lib.hid (show Fac w V19 L1 R1 B1 L2 R2 B2 x y gp ga gb s2 l2 ∧ Bk V19 gw #[.int .u64 i, .int .u64 i, .int .u64 j] 63 ∧ V19.ownsRow _ 5 1 (.slice (some ⟨gf, 0, none⟩) Q cf) Q (packV l2) ∧ Bk V19 ga2 #[(.slice (some ⟨gf, 0, none⟩) Q cf), .slice (some ⟨gf, 0, none⟩) q cf] 59 from ⟨F.out.1.below hb, F.out.2.1.below hb, row_below F.out.2.2 hb, BS⟩)
      have HCF := Lib.hid (And.intro hcf hcf2)
      clear hb BS hga2 wq hcut hcf hcf2 hqc
      go_loopw [153] (fun v153 wr => ∃ z : Nat, z ≤ 2 ∧ v153 = .int .i64 z ∧ Below V19.heap.size V19 wr) (fun v153 _ => 2 - (intOf v153).toNat)
      case atStart => exact ⟨0, by decide, rfl, Below.refl _ _⟩
      case round =>
        obtain ⟨z, hz, rfl, hB⟩ := hrel
        by_cases hlt2 : z < 2
        · obtain ⟨qq, cc, hqq, hcell⟩ : ∃ qq cc : Nat, qq ≤ Q ∧ wr.cell? ⟨ga2, z, none⟩ = some (.slice (some ⟨gf, 0, none⟩) qq cc) := by
            have h2 := F.out.2.2.2.below hB
            rcases (by omega : z = 0 ∨ z = 1) with rfl | rfl
            · exact ⟨Q, cf, Nat.le_refl _, h2.cell 0 rfl⟩
            · exact ⟨q, cf, HN.out.2.2.2.2.2.2.1, h2.cell 1 rfl⟩
          obtain ⟨L, hL⟩ : ∃ L, padTo l2 qq = L := ⟨_, rfl⟩
          have HL := Lib.hid (show Byt L from by rw [← hL]; exact padTo_byt F.out.1.wr.bits qq (by have := HN.out; omega))
          have hza := (F.out.2.2.2.below hB).lt
          go_wp2_with fail
          with_reducible refine (reader_t _ gf Q cf qq cc l2 _ (row_below F.out.2.2.1 hB) F.out.1.wr.bits HN.out.2.2.2.1 hqq (by have := HN.out; omega)).mono ?_
          rw [hL]
          rintro e V20 ⟨r, gr, rfl, r1, r2, r3, r4, hR, hb⟩
          have hB20 := hB.trans (hb.mono hB.size)
          go_wp2_with fail
          with_reducible refine (reader_t _ gf Q cf qq cc l2 _ (row_below F.out.2.2.1 hB20) F.out.1.wr.bits HN.out.2.2.2.1 hqq (by have := HN.out; omega)).mono ?_
          rw [hL]
          rintro e V21 ⟨s, gs, rfl, s1, s2', s3, s4, hS, hb2⟩
          have HT := Lib.hid (two_made hB r1 r2 r3 hR hb s1 s2' s3 hS hb2)
          have HZ := Lib.hid (And.intro hL hqq)
          clear r1 r2 r3 r4 hR hb s1 s2' s3 s4 hS hb2 hB20 hB hcell hza hL hqq
          go_wp2
          go_loopw [162] (fun v162 wr => ∃ u : Nat, u ≤ n ∧ v162 = .int .i64 u ∧ Two V19 wr r gr s gs L u u) (fun v162 _ => n - (intOf v162).toNat)
          case atStart => exact ⟨0, Nat.zero_le _, rfl, HT.out⟩
          case round =>
            clear HT
            obtain ⟨u, hu, rfl, hT⟩ := hrel
            have HT := Lib.hid hT
            clear hT
            by_cases hlt3 : u < n
            · go_wp2_with fail
              with_reducible refine (rget_1 r gr u L _ HT.out.r HL.out).mono ?_
              rintro e V22 ⟨rfl, hg⟩
              replace HT := Lib.hid (HT.out.getR hg)
              clear hg
              go_wp2_with fail
              with_reducible refine (rget_1 s gs u L _ HT.out.s HL.out).mono ?_
              rintro e V23 ⟨rfl, hg⟩
              replace HT := Lib.hid (HT.out.getS hg)
              clear hg
              go_wp2
              go_roundw
              case rel => exact ⟨u + 1, by omega, by go_num, HT.out⟩
              case measure => simp [intOf]; omega
            · obtain rfl : n = u := by omega
              obtain ⟨p, h_p⟩ : ∃ v, gvv L n L1 R1 B1 = v := ⟨_, rfl⟩
              obtain ⟨g, h_g⟩ : ∃ v, ree L n B1.toNat = v := ⟨_, rfl⟩
              obtain ⟨qx, h_qx⟩ : ∃ v, pxx L (n + B1.toNat) L1 R1 B1 B2 = v := ⟨_, rfl⟩
              obtain ⟨qy, h_qy⟩ : ∃ v, pyy L (n + B1.toNat) B1 L2 R2 B2 = v := ⟨_, rfl⟩
              obtain ⟨h, h_h⟩ : ∃ v, ree L (n + B1.toNat) (B1.toNat + B2.toNat) = v := ⟨_, rfl⟩
              obtain ⟨k, h_k⟩ : ∃ v, rvv L n B1.toNat = v := ⟨_, rfl⟩
              obtain ⟨l, h_l⟩ : ∃ v, rvv L (n + B1.toNat) B1.toNat = v := ⟨_, rfl⟩
              obtain ⟨je, h_je⟩ : ∃ v, ree L (n + B1.toNat) B1.toNat = v := ⟨_, rfl⟩
              obtain ⟨m, h_m⟩ : ∃ v, rvv L (n + B1.toNat + B1.toNat) B2.toNat = v := ⟨_, rfl⟩
              obtain ⟨oe, h_oe⟩ : ∃ v, ree L (n + B1.toNat + B1.toNat) B2.toNat = v := ⟨_, rfl⟩
              have HV := Lib.hid (show Turn i P0 j Q0 p g qx qy h k g l je m oe from by
                have tt := turn_of n qq L1 R1 B1 L2 R2 B2 i j ⟨HE.out.2.2.1.1, by have := HE.out.2.2.1.2.1; unfold gn at this; omega⟩ ⟨HE.out.2.2.2.1, by have := HE.out.2.2.2.2.1; unfold gn at this; omega⟩ L (by rw [HE.out.1.2.2]; exact HZ.out.1) (by have := HZ.out.2; have := HN.out; omega)
                rw [HE.out.2.1.1, HE.out.2.1.2, h_p, h_g, h_qx, h_qy, h_h, h_k, h_l, h_je, h_m, h_oe] at tt
                exact tt)
              have HNM := Lib.hid (show gvv L n L1 R1 B1 = p ∧ ree L n B1.toNat = g ∧ pxx L (n + B1.toNat) L1 R1 B1 B2 = qx ∧ pyy L (n + B1.toNat) B1 L2 R2 B2 = qy ∧ ree L (n + B1.toNat) (B1.toNat + B2.toNat) = h ∧ rvv L n B1.toNat = k ∧ rvv L (n + B1.toNat) B1.toNat = l ∧ ree L (n + B1.toNat) B1.toNat = je ∧ rvv L (n + B1.toNat + B1.toNat) B2.toNat = m ∧ ree L (n + B1.toNat + B1.toNat) B2.toNat = oe from ⟨h_p, h_g, h_qx, h_qy, h_h, h_k, h_l, h_je, h_m, h_oe⟩)
              clear h_p h_g h_qx h_qy h_h h_k h_l h_je h_m h_oe
              have F9 := Lib.hid (F.out.1.below HT.out.b)
              have kx0 := F9.out.x.cell (v := .int .i64 L1) 0 rfl
              have kx1 := F9.out.x.cell (v := .int .i64 R1) 1 rfl
              have kx2 := F9.out.x.cell (v := .int .i64 B1) 2 rfl
              have kxl := F9.out.x.lt
              go_wp2_with fail
              with_reducible refine (gget_t r gr n L L1 R1 B1 _ HT.out.r HL.out HG.out.1).mono ?_
              rw [HNM.out.1, HNM.out.2.1]
              rintro e V24 ⟨rfl, hg⟩
              replace HT := Lib.hid (HT.out.getR hg)
              clear kx0 kx1 kx2 kxl
              clear hg F9
              have F9 := Lib.hid (F.out.1.below HT.out.b)
              have kp0 := F9.out.p.cell (v := .int .i64 L1) 0 rfl
              have kp1 := F9.out.p.cell (v := .int .i64 R1) 1 rfl
              have kp2 := F9.out.p.cell (v := .int .i64 B1) 2 rfl
              have kp3 := F9.out.p.cell (v := .int .i64 L2) 3 rfl
              have kp4 := F9.out.p.cell (v := .int .i64 R2) 4 rfl
              have kp5 := F9.out.p.cell (v := .int .i64 B2) 5 rfl
              have kpl := F9.out.p.lt
              go_wp2_with fail
              with_reducible refine (pget_t r gr (n + B1.toNat) L L1 R1 B1 L2 R2 B2 _ HT.out.r HL.out HG.out.1 HG.out.2).mono ?_
              rw [HNM.out.2.2.1, HNM.out.2.2.2.1, HNM.out.2.2.2.2.1]
              rintro e V25 ⟨rfl, hg⟩
              replace HT := Lib.hid (HT.out.getR hg)
              clear kp0 kp1 kp2 kp3 kp4 kp5 kpl
              clear hg F9
              have F9 := Lib.hid (F.out.1.below HT.out.b)
              have kx0 := F9.out.x.cell (v := .int .i64 L1) 0 rfl
              have kx1 := F9.out.x.cell (v := .int .i64 R1) 1 rfl
              have kx2 := F9.out.x.cell (v := .int .i64 B1) 2 rfl
              have kxl := F9.out.x.lt
              have ky0 := F9.out.y.cell (v := .int .i64 L2) 0 rfl
              have ky1 := F9.out.y.cell (v := .int .i64 R2) 1 rfl
              have ky2 := F9.out.y.cell (v := .int .i64 B2) 2 rfl
              have kyl := F9.out.y.lt
              go_upto_region 30 with fail
              refine wp_name (fun V => (Below V25.heap.size V25 V) ∧ Bk V V25.heap.size #[.int .i64 qx, .int .i64 qy] 58) ⟨by go_grown, by (repeat (first | with_reducible assumption | ((with_reducible refine Bk.at_ ?_); first | rfl | (simp; done)) | with_reducible apply Bk.alloc))⟩ ?_
              rintro V26 ⟨hb, BV2⟩
              clear kx0 kx1 kx2 kxl ky0 ky1 ky2 kyl
              obtain ⟨gq, hgq⟩ : ∃ g, V25.heap.size = g := ⟨_, rfl⟩
              have hgs : gq ≠ s := by have := HT.out.s.lt; omega
              rw [hgq] at BV2 ⊢
              replace HT := Lib.hid (HT.out.later hb)
              have HBV := Lib.hid (And.intro BV2 hgs)
              clear hb BV2 hgq hgs F9
              have F9 := Lib.hid (F.out.1.below HT.out.b)
              have kx0 := F9.out.x.cell (v := .int .i64 L1) 0 rfl
              have kx1 := F9.out.x.cell (v := .int .i64 R1) 1 rfl
              have kx2 := F9.out.x.cell (v := .int .i64 B1) 2 rfl
              have kxl := F9.out.x.lt
              go_wp2_with fail
              with_reducible refine (rget_i s gs (n) B1 L _ HT.out.s HL.out (by have := HN.out; omega)).mono ?_
              rw [HNM.out.2.2.2.2.2.1, HNM.out.2.1]
              rintro e V27 ⟨rfl, hg⟩
              replace HT := Lib.hid (HT.out.getS hg)
              replace HBV := Lib.hid (And.intro (HBV.out.1.mut hg.2 (fun e => HBV.out.2 e)) HBV.out.2)
              clear kx0 kx1 kx2 kxl
              clear hg F9
              have F9 := Lib.hid (F.out.1.below HT.out.b)
              have kx0 := F9.out.x.cell (v := .int .i64 L1) 0 rfl
              have kx1 := F9.out.x.cell (v := .int .i64 R1) 1 rfl
              have kx2 := F9.out.x.cell (v := .int .i64 B1) 2 rfl
              have kxl := F9.out.x.lt
              go_wp2_with fail
              with_reducible refine (rget_i s gs (n + B1.toNat) B1 L _ HT.out.s HL.out (by have := HN.out; omega)).mono ?_
              rw [HNM.out.2.2.2.2.2.2.1, HNM.out.2.2.2.2.2.2.2.1]
              rintro e V28 ⟨rfl, hg⟩
              replace HT := Lib.hid (HT.out.getS hg)
              replace HBV := Lib.hid (And.intro (HBV.out.1.mut hg.2 (fun e => HBV.out.2 e)) HBV.out.2)
              clear kx0 kx1 kx2 kxl
              clear hg F9
              have F9 := Lib.hid (F.out.1.below HT.out.b)
              have ky0 := F9.out.y.cell (v := .int .i64 L2) 0 rfl
              have ky1 := F9.out.y.cell (v := .int .i64 R2) 1 rfl
              have ky2 := F9.out.y.cell (v := .int .i64 B2) 2 rfl
              have kyl := F9.out.y.lt
              go_wp2_with fail
              with_reducible refine (rget_i s gs (n + B1.toNat + B1.toNat) B2 L _ HT.out.s HL.out (by have := HN.out; omega)).mono ?_
              rw [HNM.out.2.2.2.2.2.2.2.2.1, HNM.out.2.2.2.2.2.2.2.2.2]
              rintro e V29 ⟨rfl, hg⟩
              replace HT := Lib.hid (HT.out.getS hg)
              replace HBV := Lib.hid (And.intro (HBV.out.1.mut hg.2 (fun e => HBV.out.2 e)) HBV.out.2)
              clear ky0 ky1 ky2 kyl
              clear hg F9
              rcases HV.out with ⟨e1, e2, e3, e4, e5, e6⟩ | ⟨e1, e2, e3, e4, e5, e6, e7, e8, e9⟩ | ⟨e1, e2, e3, e4, e5, e6, e7, e8, e9, e10, e11⟩
              · clear HNM HV e3
                subst e1 e2 e4 e5 e6
                have q0 := HBV.out.1.cell (v := .int .i64 0) 0 rfl
                have q1 := HBV.out.1.cell (v := .int .i64 0) 1 rfl
                have ql := HBV.out.1.lt
                go_wp2
                go_roundw
                case rel => exact ⟨z + 1, by omega, by go_num, HT.out.b⟩
                case measure => simp [intOf]; omega
              · clear HNM HV e3
                replace e1 := e1.symm
                subst e1
                replace e2 := e2.symm
                subst e2
                replace e4 := e4.symm
                subst e4
                replace e5 := e5.symm
                subst e5
                replace e6 := e6.symm
                subst e6
                replace e7 := e7.symm
                subst e7
                replace e8 := e8.symm
                subst e8
                have q0 := HBV.out.1.cell (v := .int .i64 0) 0 rfl
                have q1 := HBV.out.1.cell (v := .int .i64 0) 1 rfl
                have ql := HBV.out.1.lt
                have HI1 : Hid (∀ V, Calls Tryz.prog 39 #[G L1 R1 B1, .int .i64 i] V fun e w' => e = .returned (.int .i64 P0) ∧ Below V.heap.size V w') := Lib.hid (fun V => by have := rpoint_any L1 R1 B1 i HG.out.1 HE.out.2.2.1.1 HE.out.2.2.1.2.1 V; rw [HE.out.2.1.1] at this; exact this)
                have HI2 : Hid (∀ V, Calls Tryz.prog 39 #[G L2 R2 B2, .int .i64 j] V fun e w' => e = .returned (.int .i64 Q0) ∧ Below V.heap.size V w') := Lib.hid (fun V => by have := rpoint_any L2 R2 B2 j HG.out.2 HE.out.2.2.2.1 HE.out.2.2.2.2.1 V; rw [HE.out.2.1.2] at this; exact this)
                have iw : IntKind.i64.wrap i = i := by have := HE.out.2.2.1; rw [IntKind.wrap_i64]; omega
                have jw : IntKind.i64.wrap j = j := by have := HE.out.2.2.2; rw [IntKind.wrap_i64]; omega
                have F8 := Lib.hid (F.out.2.1.below HT.out.b)
                have v0 := F8.out.cell (v := .int .u64 i) 0 rfl
                have v1 := F8.out.cell (v := .int .u64 i) 1 rfl
                have v2 := F8.out.cell (v := .int .u64 j) 2 rfl
                have vl := F8.out.lt
                have F9 := Lib.hid (F.out.1.below HT.out.b)
                have ka0 := F9.out.a.cell (v := .int .i64 L1) 0 rfl
                have ka1 := F9.out.a.cell (v := .int .i64 R1) 1 rfl
                have ka2 := F9.out.a.cell (v := .int .i64 B1) 2 rfl
                have kal := F9.out.a.lt
                have kb0 := F9.out.b.cell (v := .int .i64 L2) 0 rfl
                have kb1 := F9.out.b.cell (v := .int .i64 R2) 1 rfl
                have kb2 := F9.out.b.cell (v := .int .i64 B2) 2 rfl
                have kbl := F9.out.b.lt
                go_wp2_with fail
                with_reducible refine (HI1.out _).mono ?_
                rintro e V30 ⟨rfl, hb⟩
                clear ka0 ka1 ka2 kal kb0 kb1 kb2 kbl
                replace HT := Lib.hid (HT.out.later hb)
                replace HBV := Lib.hid (And.intro (HBV.out.1.below hb) HBV.out.2)
                clear hb F9 F8 v0 v1 v2 vl q0 q1 ql
                have q0 := HBV.out.1.cell (v := .int .i64 0) 0 rfl
                have q1 := HBV.out.1.cell (v := .int .i64 0) 1 rfl
                have ql := HBV.out.1.lt
                rcases e9 with rfl | rfl
                · go_wp2
                  go_roundw
                  case rel => exact ⟨z + 1, by omega, by go_num, HT.out.b⟩
                  case measure => simp [intOf]; omega
                · go_wp2
                  go_roundw
                  case rel => exact ⟨z + 1, by omega, by go_num, HT.out.b⟩
                  case measure => simp [intOf]; omega
              · clear HNM HV e3
                replace e1 := e1.symm
                subst e1
                replace e2 := e2.symm
                subst e2
                replace e4 := e4.symm
                subst e4
                replace e5 := e5.symm
                subst e5
                replace e6 := e6.symm
                subst e6
                replace e7 := e7.symm
                subst e7
                replace e8 := e8.symm
                subst e8
                replace e9 := e9.symm
                subst e9
                replace e10 := e10.symm
                subst e10
                replace e11 := e11.symm
                subst e11
                have q0 := HBV.out.1.cell (v := .int .i64 P0) 0 rfl
                have q1 := HBV.out.1.cell (v := .int .i64 Q0) 1 rfl
                have ql := HBV.out.1.lt
                have HI1 : Hid (∀ V, Calls Tryz.prog 39 #[G L1 R1 B1, .int .i64 i] V fun e w' => e = .returned (.int .i64 P0) ∧ Below V.heap.size V w') := Lib.hid (fun V => by have := rpoint_any L1 R1 B1 i HG.out.1 HE.out.2.2.1.1 HE.out.2.2.1.2.1 V; rw [HE.out.2.1.1] at this; exact this)
                have HI2 : Hid (∀ V, Calls Tryz.prog 39 #[G L2 R2 B2, .int .i64 j] V fun e w' => e = .returned (.int .i64 Q0) ∧ Below V.heap.size V w') := Lib.hid (fun V => by have := rpoint_any L2 R2 B2 j HG.out.2 HE.out.2.2.2.1 HE.out.2.2.2.2.1 V; rw [HE.out.2.1.2] at this; exact this)
                have iw : IntKind.i64.wrap i = i := by have := HE.out.2.2.1; rw [IntKind.wrap_i64]; omega
                have jw : IntKind.i64.wrap j = j := by have := HE.out.2.2.2; rw [IntKind.wrap_i64]; omega
                have F8 := Lib.hid (F.out.2.1.below HT.out.b)
                have v0 := F8.out.cell (v := .int .u64 i) 0 rfl
                have v1 := F8.out.cell (v := .int .u64 i) 1 rfl
                have v2 := F8.out.cell (v := .int .u64 j) 2 rfl
                have vl := F8.out.lt
                have F9 := Lib.hid (F.out.1.below HT.out.b)
                have ka0 := F9.out.a.cell (v := .int .i64 L1) 0 rfl
                have ka1 := F9.out.a.cell (v := .int .i64 R1) 1 rfl
                have ka2 := F9.out.a.cell (v := .int .i64 B1) 2 rfl
                have kal := F9.out.a.lt
                have kb0 := F9.out.b.cell (v := .int .i64 L2) 0 rfl
                have kb1 := F9.out.b.cell (v := .int .i64 R2) 1 rfl
                have kb2 := F9.out.b.cell (v := .int .i64 B2) 2 rfl
                have kbl := F9.out.b.lt
                go_wp2_with fail
                with_reducible refine (HI1.out _).mono ?_
                rintro e V30 ⟨rfl, hb⟩
                clear ka0 ka1 ka2 kal kb0 kb1 kb2 kbl
                replace HT := Lib.hid (HT.out.later hb)
                replace HBV := Lib.hid (And.intro (HBV.out.1.below hb) HBV.out.2)
                clear hb F9 F8 v0 v1 v2 vl q0 q1 ql
                go_upto_region 41 with fail
                have F8 := Lib.hid (F.out.2.1.below HT.out.b)
                have v0 := F8.out.cell (v := .int .u64 i) 0 rfl
                have v1 := F8.out.cell (v := .int .u64 i) 1 rfl
                have v2 := F8.out.cell (v := .int .u64 j) 2 rfl
                have vl := F8.out.lt
                have F9 := Lib.hid (F.out.1.below HT.out.b)
                have ka0 := cell_regrown (F9.out.a.cell (v := .int .i64 L1) 0 rfl)
                have ka1 := cell_regrown (F9.out.a.cell (v := .int .i64 R1) 1 rfl)
                have ka2 := cell_regrown (F9.out.a.cell (v := .int .i64 B1) 2 rfl)
                have kb0 := cell_regrown (F9.out.b.cell (v := .int .i64 L2) 0 rfl)
                have kb1 := cell_regrown (F9.out.b.cell (v := .int .i64 R2) 1 rfl)
                have kb2 := cell_regrown (F9.out.b.cell (v := .int .i64 B2) 2 rfl)
                replace v0 := cell_regrown v0
                replace v1 := cell_regrown v1
                replace v2 := cell_regrown v2
                have q0 := cell_regrown (HBV.out.1.cell (v := .int .i64 P0) 0 rfl)
                have q1 := cell_regrown (HBV.out.1.cell (v := .int .i64 Q0) 1 rfl)
                refine wp_region_low2 noPosts 29 (by kernel_rfl) (by kernel_rfl) ?_
                simp only [List.take, List.drop]
                iterate 21 (refine low2_step (fun K hK => ?_); go_simp; first | (refine hK _ ?_; clear hK K) | (apply Exists.intro; refine ⟨fun p => ?_, hK _ ?_⟩; clear hK K))
                refine low2_reads 39 #[G L1 R1 B1, .int .i64 i] (.int .i64 P0) (by rfl) (fun w => by go_simp) rfl (by kernel_rfl) (fun V _ _ => HI1.out V) ?_
                iterate 3 (refine low2_step (fun K hK => ?_); go_simp; first | (refine hK _ ?_; clear hK K) | (apply Exists.intro; refine ⟨fun p => ?_, hK _ ?_⟩; clear hK K))
                refine low2_reads 39 #[G L2 R2 B2, .int .i64 j] (.int .i64 Q0) (by rfl) (fun w => by go_simp) rfl (by kernel_rfl) (fun V _ _ => HI2.out V) ?_
                iterate 3 (refine low2_step (fun K hK => ?_); go_simp; first | (refine hK _ ?_; clear hK K) | (apply Exists.intro; refine ⟨fun p => ?_, hK _ ?_⟩; clear hK K))
                refine low2_nil ?_
                intro V31 hC
                replace HT := Lib.hid (HT.out.later hC.1)
                clear hC v0 v1 v2 vl q0 q1 F8 F9
                clear ka0 ka1 ka2 kb0 kb1 kb2
                go_wp2
                go_roundw
                case rel => exact ⟨z + 1, by omega, by go_num, HT.out.b⟩
                case measure => simp [intOf]; omega
        · obtain rfl : z = 2 := by omega
          have F9 := Lib.hid (F.out.1.below hB)
          have kp0 := F9.out.p.cell (v := .int .i64 L1) 0 rfl
          have kp1 := F9.out.p.cell (v := .int .i64 R1) 1 rfl
          have kp2 := F9.out.p.cell (v := .int .i64 B1) 2 rfl
          have kp3 := F9.out.p.cell (v := .int .i64 L2) 3 rfl
          have kp4 := F9.out.p.cell (v := .int .i64 R2) 4 rfl
          have kp5 := F9.out.p.cell (v := .int .i64 B2) 5 rfl
          have kpl := F9.out.p.lt
          have kv0 := F9.out.v.cell (v := .int .i64 x) 0 rfl
          have kv1 := F9.out.v.cell (v := .int .i64 y) 1 rfl
          have kvl := F9.out.v.lt
          go_wp2_with fail
          with_reducible refine (absent_any L1 R1 B1 L2 R2 B2 x y HG.out.1 HG.out.2 _).mono ?_
          rintro e V40 ⟨rfl, hb⟩
          clear kp0 kp1 kp2 kp3 kp4 kp5 kpl kv0 kv1 kvl
          have F8 := Lib.hid (F9.out.b0.trans (hb.mono F9.out.b0.size))
          clear hb F9
          go_wp2_with fail
          with_reducible refine (awake21 _).mono ?_
          rintro e V41 ⟨rfl, hb⟩
          have F7 := Lib.hid (F8.out.trans (hb.mono F8.out.size))
          clear hb F8
          go_wp2
          go_returns
          exact ⟨rfl, F7.out⟩
end Go.Proofs.YtghfggfgndgkjaaGreatDoor
