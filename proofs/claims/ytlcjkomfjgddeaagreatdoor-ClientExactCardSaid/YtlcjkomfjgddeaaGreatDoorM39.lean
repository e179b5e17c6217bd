/- marcheslaw27.Few and comp. -/
import Derived.Test.YtlcjkomfjgddeaaGreatDoorM38
import Derived.Laws.CopyRow
import Derived.Laws.IdiomCopy
set_option linter.unusedVariables false
set_option linter.unusedSimpArgs false
namespace Go.Proofs.YtlcjkomfjgddeaaGreatDoor
open Go Go.RowKit Go.Sort
set_option maxRecDepth 100000
attribute [local go_sem] opLow opUpon opLow2 opUpon2

theorem Few_any (c : Cli) (a : Option Addr) (n cap : Nat) (pa : Option Addr) (pn pc : Nat) (w : World) (h : EntsAt w (.slice a n cap) c.b.es) (hp : InpsAt w (.slice pa pn pc) c.p) :
    Calls Tryz.prog 9 #[Cv c a n cap pa pn pc] w (SomeB w) := by
  have hpl : pn = c.p.length := ListAt.len hp
  have hpm : pn ≤ 1099511627776 := by
    rcases hp with ⟨hq, hn⟩ | ⟨b, off, cap', _, hl, _⟩
    · rw [hpl, hn]; simp
    · rw [hpl]; omega
  have FW := Lib.hid (fun V (hV : Below w.heap.size w V) => few_any c.b a n cap V (EntsAt.below h hV))
  obtain ⟨id, gx, gy, ⟨t, es⟩, ack, p⟩ := c
  simp only at FW
  clear h hp hpl
  unfold Cv ccs
  simp only
  have key : (decide (6 < pn) = true ∧ decide (pn ≤ 64) = true) ∨ (decide (6 < pn) = true ∧ decide (pn ≤ 64) = false ∧ decide (66 < pn) = true) ∨ (decide (6 < pn) = true ∧ decide (pn ≤ 64) = false ∧ decide (66 < pn) = false) ∨ (decide (6 < pn) = false ∧ decide (66 < pn) = false) := by
    simp only [decide_eq_true_eq, decide_eq_false_iff_not]
    omega
  rcases key with ⟨c1, c2⟩ | ⟨c1, c2, c3⟩ | ⟨c1, c2, c3⟩ | ⟨c1, c3⟩
  · have e1 : decide ((6 : Int) < (pn : Int)) = true := by rw [decide_eq_true_eq] at c1 ⊢; omega
    have e2 : decide ((pn : Int) ≤ (64 : Int)) = true := by rw [decide_eq_true_eq] at c2 ⊢; omega
    go_enter Tryz.func9, Tryz.ntmps9
    go_wp2
    go_returns
    exact ⟨false, rfl, by go_grown⟩
  · have e1 : decide ((6 : Int) < (pn : Int)) = true := by rw [decide_eq_true_eq] at c1 ⊢; omega
    have e2 : decide ((pn : Int) ≤ (64 : Int)) = false := by rw [decide_eq_false_iff_not] at c2 ⊢; omega
    have e3 : decide ((66 : Int) < (pn : Int)) = true := by rw [decide_eq_true_eq] at c3 ⊢; omega
    go_enter Tryz.func9, Tryz.ntmps9
    go_wp2
    go_returns
    exact ⟨false, rfl, by go_grown⟩
  · have e1 : decide ((6 : Int) < (pn : Int)) = true := by rw [decide_eq_true_eq] at c1 ⊢; omega
    have e2 : decide ((pn : Int) ≤ (64 : Int)) = false := by rw [decide_eq_false_iff_not] at c2 ⊢; omega
    have e3 : decide ((66 : Int) < (pn : Int)) = false := by rw [decide_eq_false_iff_not] at c3 ⊢; omega
    obtain ⟨u, hu⟩ : ∃ u, IntKind.i64.wrap (-gx) = u := ⟨_, rfl⟩
    obtain ⟨v, hv⟩ : ∃ v, IntKind.i64.wrap (-gy) = v := ⟨_, rfl⟩
    obtain ⟨m, hm⟩ : ∃ m, max gx (max gy (max u v)) = m := ⟨_, rfl⟩
    have HM := Lib.hid hm
    clear hm
    have keyg : (decide (m ≤ 300) = true) ∨ (decide (m ≤ 300) = false ∧ decide (4096 < m) = true) ∨ (decide (m ≤ 300) = false ∧ decide (4096 < m) = false) := by
      rcases decide (m ≤ 300) with _ | _
      · rcases decide (4096 < m) with _ | _
        · exact .inr (.inr ⟨rfl, rfl⟩)
        · exact .inr (.inl ⟨rfl, rfl⟩)
      · exact .inl rfl
    have HK := Lib.hid keyg
    clear keyg
    go_enter Tryz.func9, Tryz.ntmps9
    go_wp2_with (refine wpList_max4 _ _ _ _ _ _ rfl _ _ _ _ _ rfl rfl rfl rfl (by simp [Region.wanted]; done) ?_; rw [HM.out])
    refine (FW.out _ (by go_grown)).mono ?_
    rintro e V ⟨b, rfl, hb1⟩
    have hb : Below w.heap.size w V := ((Below.refl w.heap.size w).alloc (Nat.le_refl _) _).trans (hb1.mono (by simp))
    clear hb1 FW hu hv
    cases b
    · go_wp2
      go_returns
      exact ⟨false, rfl, hb⟩
    · rcases HK.out with g1 | ⟨g1, g2⟩ | ⟨g1, g2⟩
      · go_wp2
        go_returns
        exact ⟨true, rfl, hb⟩
      · go_wp2
        go_returns
        exact ⟨true, rfl, hb⟩
      · go_wp2
        go_returns
        exact ⟨false, rfl, hb⟩
  · have e1 : decide ((6 : Int) < (pn : Int)) = false := by rw [decide_eq_false_iff_not] at c1 ⊢; omega
    have e3 : decide ((66 : Int) < (pn : Int)) = false := by rw [decide_eq_false_iff_not] at c3 ⊢; omega
    obtain ⟨u, hu⟩ : ∃ u, IntKind.i64.wrap (-gx) = u := ⟨_, rfl⟩
    obtain ⟨v, hv⟩ : ∃ v, IntKind.i64.wrap (-gy) = v := ⟨_, rfl⟩
    obtain ⟨m, hm⟩ : ∃ m, max gx (max gy (max u v)) = m := ⟨_, rfl⟩
    have HM := Lib.hid hm
    clear hm
    have keyg : (decide (m ≤ 300) = true) ∨ (decide (m ≤ 300) = false ∧ decide (4096 < m) = true) ∨ (decide (m ≤ 300) = false ∧ decide (4096 < m) = false) := by
      rcases decide (m ≤ 300) with _ | _
      · rcases decide (4096 < m) with _ | _
        · exact .inr (.inr ⟨rfl, rfl⟩)
        · exact .inr (.inl ⟨rfl, rfl⟩)
      · exact .inl rfl
    have HK := Lib.hid keyg
    clear keyg
    go_enter Tryz.func9, Tryz.ntmps9
    go_wp2_with (refine wpList_max4 _ _ _ _ _ _ rfl _ _ _ _ _ rfl rfl rfl rfl (by simp [Region.wanted]; done) ?_; rw [HM.out])
    refine (FW.out _ (by go_grown)).mono ?_
    rintro e V ⟨b, rfl, hb1⟩
    have hb : Below w.heap.size w V := ((Below.refl w.heap.size w).alloc (Nat.le_refl _) _).trans (hb1.mono (by simp))
    clear hb1 FW hu hv
    cases b
    · go_wp2
      go_returns
      exact ⟨false, rfl, hb⟩
    · rcases HK.out with g1 | ⟨g1, g2⟩ | ⟨g1, g2⟩
      · go_wp2
        go_returns
        exact ⟨true, rfl, hb⟩
      · go_wp2
        go_returns
        exact ⟨true, rfl, hb⟩
      · go_wp2
        go_returns
        exact ⟨false, rfl, hb⟩
set_option maxHeartbeats 2000000 in
theorem comp_0 (k : Int) (g cap : Nat) (w : World) :
    Calls Tryz.prog 31 #[.int .u8 k, .slice none 0 0] w fun e w' => e = .returned (C ⟨k, 0, 0, 0, 0⟩) ∧ Below w.heap.size w w' := by
  go_enter Tryz.func31, Tryz.ntmps31
  go_upto_region 2 with fail
  refine wp_name (fun V => Below w.heap.size w V ∧ Bk V w.heap.size #[.int .u8 0, .int .i64 0, .int .i64 0, .int .i64 0, .int .i64 0] 48 ∧ Bk V (w.heap.size + 1) #[.int .u8 k, .int .i64 0, .int .i64 0, .int .i64 0, .int .i64 0] 48) ⟨by go_grown, (Bk.made _ _ _).alloc _, Bk.at_ (by simp)⟩ ?_
  rintro V ⟨hb, B4, B5⟩
  have hcp : ∃ V2, (∀ ty, (Builtin.copy_ #[58, 58] ty #[.slice (some ⟨w.heap.size + 1, 1, none⟩) 4 4, .slice none 0 0]).run Tryz.prog V = .ok (goInt 0) V2) ∧ Below w.heap.size w V2 ∧ Bk V2 w.heap.size #[.int .u8 0, .int .i64 0, .int .i64 0, .int .i64 0, .int .i64 0] 48 ∧ Bk V2 (w.heap.size + 1) #[.int .u8 k, .int .i64 0, .int .i64 0, .int .i64 0, .int .i64 0] 48 := by
    exact ⟨V, fun ty => run_copy_nil Tryz.prog V _ _ ty 3 _ _ _ Tryz.underlying58 (by kernel_rfl), hb, B4, B5⟩
  obtain ⟨V2, hcp, hb2, C4, C5⟩ := hcp
  have HC := Lib.hid hcp
  clear hb B4 B5 HC
  have p0 := C5.cell (v := .int .u8 k) 0 rfl
  have p1 := C5.cell (v := .int .i64 0) 1 rfl
  have p2 := C5.cell (v := .int .i64 0) 2 rfl
  have p3 := C5.cell (v := .int .i64 0) 3 rfl
  have p4 := C5.cell (v := .int .i64 0) 4 rfl
  have lp := C5.lt
  have q0 := C4.cell (v := .int .u8 0) 0 rfl
  have f0 := C4.free 0
  have q1 := C4.cell (v := .int .i64 0) 1 rfl
  have f1 := C4.free 1
  have q2 := C4.cell (v := .int .i64 0) 2 rfl
  have f2 := C4.free 2
  have q3 := C4.cell (v := .int .i64 0) 3 rfl
  have f3 := C4.free 3
  have q4 := C4.cell (v := .int .i64 0) 4 rfl
  have f4 := C4.free 4
  have lq := C4.lt
  have E0 := C4.put 0 (.int .u8 k)
  have E1 := E0.put 1 (.int .i64 0)
  have E2 := E1.put 2 (.int .i64 0)
  have E3 := E2.put 3 (.int .i64 0)
  have E4 := E3.put 4 (.int .i64 0)
  have HX := Lib.hid (And.intro E4 (((((hb2.setCell (p := ⟨w.heap.size, 0, none⟩) (Nat.le_refl _) (.int .u8 k)).setCell (p := ⟨w.heap.size, 1, none⟩) (Nat.le_refl _) (.int .i64 0)).setCell (p := ⟨w.heap.size, 2, none⟩) (Nat.le_refl _) (.int .i64 0)).setCell (p := ⟨w.heap.size, 3, none⟩) (Nat.le_refl _) (.int .i64 0)).setCell (p := ⟨w.heap.size, 4, none⟩) (Nat.le_refl _) (.int .i64 0)))
  clear E0 E1 E2 E3 E4 C4 C5 hb2
  go_wp2
  refine post_name (fun V => Bk V w.heap.size #[.int .u8 k, .int .i64 0, .int .i64 0, .int .i64 0, .int .i64 0] 48 ∧ Below w.heap.size w V) HX.out ?_
  clear HX hcp lp lq p0 q0 f0 p1 q1 f1 p2 q2 f2 p3 q3 f3 p4 q4 f4
  rintro V3 ⟨BV, hbV⟩
  have y0 := BV.cell (v := .int .u8 k) 0 rfl
  have y1 := BV.cell (v := .int .i64 0) 1 rfl
  have y2 := BV.cell (v := .int .i64 0) 2 rfl
  have y3 := BV.cell (v := .int .i64 0) 3 rfl
  have y4 := BV.cell (v := .int .i64 0) 4 rfl
  exact bodyPost_ret (v := C ⟨k, 0, 0, 0, 0⟩) (by simp [results, Tryz.results31, go_sem, y0, y1, y2, y3, y4]; try rfl) rfl ⟨rfl, hbV⟩
set_option maxHeartbeats 2000000 in
theorem comp_1 (k : Int) (x0 : Int) (g cap : Nat) (w : World) (h0 : w.cell? ⟨g, 0, none⟩ = some (.int .i64 x0)) :
    Calls Tryz.prog 31 #[.int .u8 k, .slice (some ⟨g, 0, none⟩) 1 cap] w fun e w' => e = .returned (C ⟨k, x0, 0, 0, 0⟩) ∧ Below w.heap.size w w' := by
  go_enter Tryz.func31, Tryz.ntmps31
  go_upto_region 2 with fail
  refine wp_name (fun V => Below w.heap.size w V ∧ Bk V w.heap.size #[.int .u8 0, .int .i64 0, .int .i64 0, .int .i64 0, .int .i64 0] 48 ∧ Bk V (w.heap.size + 1) #[.int .u8 k, .int .i64 0, .int .i64 0, .int .i64 0, .int .i64 0] 48 ∧ V.cell? ⟨g, 0, none⟩ = some (.int .i64 x0)) ⟨by go_grown, (Bk.made _ _ _).alloc _, Bk.at_ (by simp), cell_later (((Below.refl _ _).alloc (Nat.le_refl _) _).alloc (by simp) _) h0⟩ ?_
  rintro V ⟨hb, B4, B5, g0⟩
  clear h0
  have hcp : ∃ V2, (∀ ty, (Builtin.copy_ #[58, 58] ty #[.slice (some ⟨w.heap.size + 1, 1, none⟩) 4 4, .slice (some ⟨g, 0, none⟩) 1 cap]).run Tryz.prog V = .ok (goInt 1) V2) ∧ Below w.heap.size w V2 ∧ Bk V2 w.heap.size #[.int .u8 0, .int .i64 0, .int .i64 0, .int .i64 0, .int .i64 0] 48 ∧ Bk V2 (w.heap.size + 1) #[.int .u8 k, .int .i64 x0, .int .i64 0, .int .i64 0, .int .i64 0] 48 := by
    refine ⟨_, fun ty => run_copy_cells V 58 58 ty 3 (w.heap.size + 1) 1 4 4 ⟨g, 0, none⟩ 1 cap [.int .i64 x0] Tryz.underlying58 (by kernel_rfl) rfl ?_ ?_ ?_ ?_, ?_, ?_, ?_⟩
    · intro j v hj
      match j, hj with
      | 0, hj => simp at hj; subst hj; exact g0
    · intro j hj
      match j, hj with
      | 0, hj => rw [show V.cell? ⟨w.heap.size + 1, 1 + 0, none⟩ = some (.int .i64 0) from B5.cell 1 rfl]; rfl
      | n + 1, hj => first | (simp at hj; done) | (simp at hj; omega)
    · intro j hj; exact B5.free _
    · intro v hv; simp at hv; rcases hv with rfl <;> rfl
    · exact (hb.setCell (p := ⟨w.heap.size + 1, 1, none⟩) (Nat.le_succ _) (.int .i64 x0))
    · exact (B4.far (p := ⟨w.heap.size + 1, 1, none⟩) (by simp) (.int .i64 x0))
    · exact (B5.put 1 (.int .i64 x0))
  obtain ⟨V2, hcp, hb2, C4, C5⟩ := hcp
  have HC := Lib.hid hcp
  clear hb B4 B5 g0 HC
  have p0 := C5.cell (v := .int .u8 k) 0 rfl
  have p1 := C5.cell (v := .int .i64 x0) 1 rfl
  have p2 := C5.cell (v := .int .i64 0) 2 rfl
  have p3 := C5.cell (v := .int .i64 0) 3 rfl
  have p4 := C5.cell (v := .int .i64 0) 4 rfl
  have lp := C5.lt
  have q0 := C4.cell (v := .int .u8 0) 0 rfl
  have f0 := C4.free 0
  have q1 := C4.cell (v := .int .i64 0) 1 rfl
  have f1 := C4.free 1
  have q2 := C4.cell (v := .int .i64 0) 2 rfl
  have f2 := C4.free 2
  have q3 := C4.cell (v := .int .i64 0) 3 rfl
  have f3 := C4.free 3
  have q4 := C4.cell (v := .int .i64 0) 4 rfl
  have f4 := C4.free 4
  have lq := C4.lt
  have E0 := C4.put 0 (.int .u8 k)
  have E1 := E0.put 1 (.int .i64 x0)
  have E2 := E1.put 2 (.int .i64 0)
  have E3 := E2.put 3 (.int .i64 0)
  have E4 := E3.put 4 (.int .i64 0)
  have HX := Lib.hid (And.intro E4 (((((hb2.setCell (p := ⟨w.heap.size, 0, none⟩) (Nat.le_refl _) (.int .u8 k)).setCell (p := ⟨w.heap.size, 1, none⟩) (Nat.le_refl _) (.int .i64 x0)).setCell (p := ⟨w.heap.size, 2, none⟩) (Nat.le_refl _) (.int .i64 0)).setCell (p := ⟨w.heap.size, 3, none⟩) (Nat.le_refl _) (.int .i64 0)).setCell (p := ⟨w.heap.size, 4, none⟩) (Nat.le_refl _) (.int .i64 0)))
  clear E0 E1 E2 E3 E4 C4 C5 hb2
  go_wp2
  refine post_name (fun V => Bk V w.heap.size #[.int .u8 k, .int .i64 x0, .int .i64 0, .int .i64 0, .int .i64 0] 48 ∧ Below w.heap.size w V) HX.out ?_
  clear HX hcp lp lq p0 q0 f0 p1 q1 f1 p2 q2 f2 p3 q3 f3 p4 q4 f4
  rintro V3 ⟨BV, hbV⟩
  have y0 := BV.cell (v := .int .u8 k) 0 rfl
  have y1 := BV.cell (v := .int .i64 x0) 1 rfl
  have y2 := BV.cell (v := .int .i64 0) 2 rfl
  have y3 := BV.cell (v := .int .i64 0) 3 rfl
  have y4 := BV.cell (v := .int .i64 0) 4 rfl
  exact bodyPost_ret (v := C ⟨k, x0, 0, 0, 0⟩) (by simp [results, Tryz.results31, go_sem, y0, y1, y2, y3, y4]; try rfl) rfl ⟨rfl, hbV⟩
set_option maxHeartbeats 2000000 in
theorem comp_2 (k : Int) (x0 x1 : Int) (g cap : Nat) (w : World) (h0 : w.cell? ⟨g, 0, none⟩ = some (.int .i64 x0)) (h1 : w.cell? ⟨g, 1, none⟩ = some (.int .i64 x1)) :
    Calls Tryz.prog 31 #[.int .u8 k, .slice (some ⟨g, 0, none⟩) 2 cap] w fun e w' => e = .returned (C ⟨k, x0, x1, 0, 0⟩) ∧ Below w.heap.size w w' := by
  go_enter Tryz.func31, Tryz.ntmps31
  go_upto_region 2 with fail
  refine wp_name (fun V => Below w.heap.size w V ∧ Bk V w.heap.size #[.int .u8 0, .int .i64 0, .int .i64 0, .int .i64 0, .int .i64 0] 48 ∧ Bk V (w.heap.size + 1) #[.int .u8 k, .int .i64 0, .int .i64 0, .int .i64 0, .int .i64 0] 48 ∧ V.cell? ⟨g, 0, none⟩ = some (.int .i64 x0) ∧ V.cell? ⟨g, 1, none⟩ = some (.int .i64 x1)) ⟨by go_grown, (Bk.made _ _ _).alloc _, Bk.at_ (by simp), cell_later (((Below.refl _ _).alloc (Nat.le_refl _) _).alloc (by simp) _) h0, cell_later (((Below.refl _ _).alloc (Nat.le_refl _) _).alloc (by simp) _) h1⟩ ?_
  rintro V ⟨hb, B4, B5, g0, g1⟩
  clear h0 h1
  have hcp : ∃ V2, (∀ ty, (Builtin.copy_ #[58, 58] ty #[.slice (some ⟨w.heap.size + 1, 1, none⟩) 4 4, .slice (some ⟨g, 0, none⟩) 2 cap]).run Tryz.prog V = .ok (goInt 2) V2) ∧ Below w.heap.size w V2 ∧ Bk V2 w.heap.size #[.int .u8 0, .int .i64 0, .int .i64 0, .int .i64 0, .int .i64 0] 48 ∧ Bk V2 (w.heap.size + 1) #[.int .u8 k, .int .i64 x0, .int .i64 x1, .int .i64 0, .int .i64 0] 48 := by
    refine ⟨_, fun ty => run_copy_cells V 58 58 ty 3 (w.heap.size + 1) 1 4 4 ⟨g, 0, none⟩ 2 cap [.int .i64 x0, .int .i64 x1] Tryz.underlying58 (by kernel_rfl) rfl ?_ ?_ ?_ ?_, ?_, ?_, ?_⟩
    · intro j v hj
      match j, hj with
      | 0, hj => simp at hj; subst hj; exact g0
      | 1, hj => simp at hj; subst hj; exact g1
    · intro j hj
      match j, hj with
      | 0, hj => rw [show V.cell? ⟨w.heap.size + 1, 1 + 0, none⟩ = some (.int .i64 0) from B5.cell 1 rfl]; rfl
      | 1, hj => rw [show V.cell? ⟨w.heap.size + 1, 1 + 1, none⟩ = some (.int .i64 0) from B5.cell 2 rfl]; rfl
      | n + 2, hj => first | (simp at hj; done) | (simp at hj; omega)
    · intro j hj; exact B5.free _
    · intro v hv; simp at hv; rcases hv with rfl | rfl <;> rfl
    · exact ((hb.setCell (p := ⟨w.heap.size + 1, 1, none⟩) (Nat.le_succ _) (.int .i64 x0)).setCell (p := ⟨w.heap.size + 1, 2, none⟩) (Nat.le_succ _) (.int .i64 x1))
    · exact ((B4.far (p := ⟨w.heap.size + 1, 1, none⟩) (by simp) (.int .i64 x0)).far (p := ⟨w.heap.size + 1, 2, none⟩) (by simp) (.int .i64 x1))
    · exact ((B5.put 1 (.int .i64 x0)).put 2 (.int .i64 x1))
  obtain ⟨V2, hcp, hb2, C4, C5⟩ := hcp
  have HC := Lib.hid hcp
  clear hb B4 B5 g0 g1 HC
  have p0 := C5.cell (v := .int .u8 k) 0 rfl
  have p1 := C5.cell (v := .int .i64 x0) 1 rfl
  have p2 := C5.cell (v := .int .i64 x1) 2 rfl
  have p3 := C5.cell (v := .int .i64 0) 3 rfl
  have p4 := C5.cell (v := .int .i64 0) 4 rfl
  have lp := C5.lt
  have q0 := C4.cell (v := .int .u8 0) 0 rfl
  have f0 := C4.free 0
  have q1 := C4.cell (v := .int .i64 0) 1 rfl
  have f1 := C4.free 1
  have q2 := C4.cell (v := .int .i64 0) 2 rfl
  have f2 := C4.free 2
  have q3 := C4.cell (v := .int .i64 0) 3 rfl
  have f3 := C4.free 3
  have q4 := C4.cell (v := .int .i64 0) 4 rfl
  have f4 := C4.free 4
  have lq := C4.lt
  have E0 := C4.put 0 (.int .u8 k)
  have E1 := E0.put 1 (.int .i64 x0)
  have E2 := E1.put 2 (.int .i64 x1)
  have E3 := E2.put 3 (.int .i64 0)
  have E4 := E3.put 4 (.int .i64 0)
  have HX := Lib.hid (And.intro E4 (((((hb2.setCell (p := ⟨w.heap.size, 0, none⟩) (Nat.le_refl _) (.int .u8 k)).setCell (p := ⟨w.heap.size, 1, none⟩) (Nat.le_refl _) (.int .i64 x0)).setCell (p := ⟨w.heap.size, 2, none⟩) (Nat.le_refl _) (.int .i64 x1)).setCell (p := ⟨w.heap.size, 3, none⟩) (Nat.le_refl _) (.int .i64 0)).setCell (p := ⟨w.heap.size, 4, none⟩) (Nat.le_refl _) (.int .i64 0)))
  clear E0 E1 E2 E3 E4 C4 C5 hb2
  go_wp2
  refine post_name (fun V => Bk V w.heap.size #[.int .u8 k, .int .i64 x0, .int .i64 x1, .int .i64 0, .int .i64 0] 48 ∧ Below w.heap.size w V) HX.out ?_
  clear HX hcp lp lq p0 q0 f0 p1 q1 f1 p2 q2 f2 p3 q3 f3 p4 q4 f4
  rintro V3 ⟨BV, hbV⟩
  have y0 := BV.cell (v := .int .u8 k) 0 rfl
  have y1 := BV.cell (v := .int .i64 x0) 1 rfl
  have y2 := BV.cell (v := .int .i64 x1) 2 rfl
  have y3 := BV.cell (v := .int .i64 0) 3 rfl
  have y4 := BV.cell (v := .int .i64 0) 4 rfl
  exact bodyPost_ret (v := C ⟨k, x0, x1, 0, 0⟩) (by simp [results, Tryz.results31, go_sem, y0, y1, y2, y3, y4]; try rfl) rfl ⟨rfl, hbV⟩
set_option maxHeartbeats 2000000 in
theorem comp_4 (k : Int) (x0 x1 x2 x3 : Int) (g cap : Nat) (w : World) (h0 : w.cell? ⟨g, 0, none⟩ = some (.int .i64 x0)) (h1 : w.cell? ⟨g, 1, none⟩ = some (.int .i64 x1)) (h2 : w.cell? ⟨g, 2, none⟩ = some (.int .i64 x2)) (h3 : w.cell? ⟨g, 3, none⟩ = some (.int .i64 x3)) :
    Calls Tryz.prog 31 #[.int .u8 k, .slice (some ⟨g, 0, none⟩) 4 cap] w fun e w' => e = .returned (C ⟨k, x0, x1, x2, x3⟩) ∧ Below w.heap.size w w' := by
  go_enter Tryz.func31, Tryz.ntmps31
  go_upto_region 2 with fail
  refine wp_name (fun V => Below w.heap.size w V ∧ Bk V w.heap.size #[.int .u8 0, .int .i64 0, .int .i64 0, .int .i64 0, .int .i64 0] 48 ∧ Bk V (w.heap.size + 1) #[.int .u8 k, .int .i64 0, .int .i64 0, .int .i64 0, .int .i64 0] 48 ∧ V.cell? ⟨g, 0, none⟩ = some (.int .i64 x0) ∧ V.cell? ⟨g, 1, none⟩ = some (.int .i64 x1) ∧ V.cell? ⟨g, 2, none⟩ = some (.int .i64 x2) ∧ V.cell? ⟨g, 3, none⟩ = some (.int .i64 x3)) ⟨by go_grown, (Bk.made _ _ _).alloc _, Bk.at_ (by simp), cell_later (((Below.refl _ _).alloc (Nat.le_refl _) _).alloc (by simp) _) h0, cell_later (((Below.refl _ _).alloc (Nat.le_refl _) _).alloc (by simp) _) h1, cell_later (((Below.refl _ _).alloc (Nat.le_refl _) _).alloc (by simp) _) h2, cell_later (((Below.refl _ _).alloc (Nat.le_refl _) _).alloc (by simp) _) h3⟩ ?_
  rintro V ⟨hb, B4, B5, g0, g1, g2, g3⟩
  clear h0 h1 h2 h3
  have hcp : ∃ V2, (∀ ty, (Builtin.copy_ #[58, 58] ty #[.slice (some ⟨w.heap.size + 1, 1, none⟩) 4 4, .slice (some ⟨g, 0, none⟩) 4 cap]).run Tryz.prog V = .ok (goInt 4) V2) ∧ Below w.heap.size w V2 ∧ Bk V2 w.heap.size #[.int .u8 0, .int .i64 0, .int .i64 0, .int .i64 0, .int .i64 0] 48 ∧ Bk V2 (w.heap.size + 1) #[.int .u8 k, .int .i64 x0, .int .i64 x1, .int .i64 x2, .int .i64 x3] 48 := by
    refine ⟨_, fun ty => run_copy_cells V 58 58 ty 3 (w.heap.size + 1) 1 4 4 ⟨g, 0, none⟩ 4 cap [.int .i64 x0, .int .i64 x1, .int .i64 x2, .int .i64 x3] Tryz.underlying58 (by kernel_rfl) rfl ?_ ?_ ?_ ?_, ?_, ?_, ?_⟩
    · intro j v hj
      match j, hj with
      | 0, hj => simp at hj; subst hj; exact g0
      | 1, hj => simp at hj; subst hj; exact g1
      | 2, hj => simp at hj; subst hj; exact g2
      | 3, hj => simp at hj; subst hj; exact g3
    · intro j hj
      match j, hj with
      | 0, hj => rw [show V.cell? ⟨w.heap.size + 1, 1 + 0, none⟩ = some (.int .i64 0) from B5.cell 1 rfl]; rfl
      | 1, hj => rw [show V.cell? ⟨w.heap.size + 1, 1 + 1, none⟩ = some (.int .i64 0) from B5.cell 2 rfl]; rfl
      | 2, hj => rw [show V.cell? ⟨w.heap.size + 1, 1 + 2, none⟩ = some (.int .i64 0) from B5.cell 3 rfl]; rfl
      | 3, hj => rw [show V.cell? ⟨w.heap.size + 1, 1 + 3, none⟩ = some (.int .i64 0) from B5.cell 4 rfl]; rfl
      | n + 4, hj => first | (simp at hj; done) | (simp at hj; omega)
    · intro j hj; exact B5.free _
    · intro v hv; simp at hv; rcases hv with rfl | rfl | rfl | rfl <;> rfl
    · exact ((((hb.setCell (p := ⟨w.heap.size + 1, 1, none⟩) (Nat.le_succ _) (.int .i64 x0)).setCell (p := ⟨w.heap.size + 1, 2, none⟩) (Nat.le_succ _) (.int .i64 x1)).setCell (p := ⟨w.heap.size + 1, 3, none⟩) (Nat.le_succ _) (.int .i64 x2)).setCell (p := ⟨w.heap.size + 1, 4, none⟩) (Nat.le_succ _) (.int .i64 x3))
    · exact ((((B4.far (p := ⟨w.heap.size + 1, 1, none⟩) (by simp) (.int .i64 x0)).far (p := ⟨w.heap.size + 1, 2, none⟩) (by simp) (.int .i64 x1)).far (p := ⟨w.heap.size + 1, 3, none⟩) (by simp) (.int .i64 x2)).far (p := ⟨w.heap.size + 1, 4, none⟩) (by simp) (.int .i64 x3))
    · exact ((((B5.put 1 (.int .i64 x0)).put 2 (.int .i64 x1)).put 3 (.int .i64 x2)).put 4 (.int .i64 x3))
  obtain ⟨V2, hcp, hb2, C4, C5⟩ := hcp
  have HC := Lib.hid hcp
  clear hb B4 B5 g0 g1 g2 g3 HC
  have p0 := C5.cell (v := .int .u8 k) 0 rfl
  have p1 := C5.cell (v := .int .i64 x0) 1 rfl
  have p2 := C5.cell (v := .int .i64 x1) 2 rfl
  have p3 := C5.cell (v := .int .i64 x2) 3 rfl
  have p4 := C5.cell (v := .int .i64 x3) 4 rfl
  have lp := C5.lt
  have q0 := C4.cell (v := .int .u8 0) 0 rfl
  have f0 := C4.free 0
  have q1 := C4.cell (v := .int .i64 0) 1 rfl
  have f1 := C4.free 1
  have q2 := C4.cell (v := .int .i64 0) 2 rfl
  have f2 := C4.free 2
  have q3 := C4.cell (v := .int .i64 0) 3 rfl
  have f3 := C4.free 3
  have q4 := C4.cell (v := .int .i64 0) 4 rfl
  have f4 := C4.free 4
  have lq := C4.lt
  have E0 := C4.put 0 (.int .u8 k)
  have E1 := E0.put 1 (.int .i64 x0)
  have E2 := E1.put 2 (.int .i64 x1)
  have E3 := E2.put 3 (.int .i64 x2)
  have E4 := E3.put 4 (.int .i64 x3)
  have HX := Lib.hid (And.intro E4 (((((hb2.setCell (p := ⟨w.heap.size, 0, none⟩) (Nat.le_refl _) (.int .u8 k)).setCell (p := ⟨w.heap.size, 1, none⟩) (Nat.le_refl _) (.int .i64 x0)).setCell (p := ⟨w.heap.size, 2, none⟩) (Nat.le_refl _) (.int .i64 x1)).setCell (p := ⟨w.heap.size, 3, none⟩) (Nat.le_refl _) (.int .i64 x2)).setCell (p := ⟨w.heap.size, 4, none⟩) (Nat.le_refl _) (.int .i64 x3)))
  clear E0 E1 E2 E3 E4 C4 C5 hb2
  go_wp2
  refine post_name (fun V => Bk V w.heap.size #[.int .u8 k, .int .i64 x0, .int .i64 x1, .int .i64 x2, .int .i64 x3] 48 ∧ Below w.heap.size w V) HX.out ?_
  clear HX hcp lp lq p0 q0 f0 p1 q1 f1 p2 q2 f2 p3 q3 f3 p4 q4 f4
  rintro V3 ⟨BV, hbV⟩
  have y0 := BV.cell (v := .int .u8 k) 0 rfl
  have y1 := BV.cell (v := .int .i64 x0) 1 rfl
  have y2 := BV.cell (v := .int .i64 x1) 2 rfl
  have y3 := BV.cell (v := .int .i64 x2) 3 rfl
  have y4 := BV.cell (v := .int .i64 x3) 4 rfl
  exact bodyPost_ret (v := C ⟨k, x0, x1, x2, x3⟩) (by simp [results, Tryz.results31, go_sem, y0, y1, y2, y3, y4]; try rfl) rfl ⟨rfl, hbV⟩
end Go.Proofs.YtlcjkomfjgddeaaGreatDoor
