/- marcheslaw15.SameEntity and Same of equal data; marcheslaw27.few and Few. -/
import Derived.Test.YtlcjkomfjgddeaaGreatDoorM37
set_option linter.unusedVariables false
set_option linter.unusedSimpArgs false
namespace Go.Proofs.YtlcjkomfjgddeaaGreatDoor
open Go Go.RowKit Go.Sort
set_option maxRecDepth 100000
attribute [local go_sem] opLow opUpon opLow2 opUpon2 eql_arr4

theorem neq_C (y : Cmp) (w : World) : (binOp .neq 48 (.agg #[.int .u8 y.k, .int .i64 y.a, .int .i64 y.b, .int .i64 y.c, .int .i64 y.d]) (.agg #[.int .u8 y.k, .int .i64 y.a, .int .i64 y.b, .int .i64 y.c, .int .i64 y.d])).run Tryz.prog w = .ok (.bool false) w := by
  obtain ⟨k, a, b, c, d⟩ := y
  simp [go_sem]
set_option maxHeartbeats 4000000 in
theorem sameE_any (e : Ent) (a : Option Addr) (n c : Nat) (a' : Option Addr) (n' c' : Nat) (w : World) (h : CompsAt w (.slice a n c) e.cs) (h' : CompsAt w (.slice a' n' c') e.cs) :
    Calls Tryz.prog 23 #[.agg #[.int .i64 e.id, .slice a n c], .agg #[.int .i64 e.id, .slice a' n' c']] w fun r w' => r = .returned (.bool true) ∧ Below w.heap.size w w' := by
  have hn : n = e.cs.length := ListAt.len h
  have hn' : n' = e.cs.length := ListAt.len h'
  have hm : n < 1099511627776 := by rw [hn]; exact (CompsAt.kinds h).2
  have HL := Lib.hid hn
  obtain rfl : n' = n := by rw [hn, hn']
  have HH := Lib.hid (And.intro h h')
  clear hn hn' h h'
  go_enter Tryz.func23, Tryz.ntmps23
  go_wp2
  go_loopw [23] (fun v23 wr => ∃ k : Nat, (k ≤ n' ∧ v23 = .int .i64 k) ∧ Bk wr w.heap.size #[.int .i64 e.id, .slice a n' c] 43 ∧ Bk wr (w.heap.size + 1) #[.int .i64 e.id, .slice a' n' c'] 43 ∧ Below w.heap.size w wr) (fun v23 _ => n' - (intOf v23).toNat)
  case atStart => exact ⟨0, ⟨by omega, rfl⟩, (Bk.made _ _ _).alloc _, Bk.at_ (by simp), by go_grown⟩
  case round =>
    obtain ⟨k, ⟨hk, rfl⟩, B2, B3, hb⟩ := hrel
    by_cases hlt : k < n'
    · obtain ⟨x, hx⟩ := at_lt (l := e.cs) (i := k) (by rw [← HL.out]; exact hlt)
      rcases HH.out.1 with ⟨h1, h2⟩ | ⟨b, off, cap, h1, hl, hc⟩
      · rw [h2] at hx; cases hx
      rcases HH.out.2 with ⟨h3, h4⟩ | ⟨b', off', cap', h3, hl', hc'⟩
      · rw [h4] at hx; cases hx
      injection h1 with w1 w2 w3
      injection h3 with w4 w5 w6
      subst w1 w3 w4 w6
      obtain ⟨⟨x0, x1, x2, x3, x4⟩, -⟩ := hc k x hx
      obtain ⟨⟨y0, y1, y2, y3, y4⟩, -⟩ := hc' k x hx
      clear w2 w5 hl hl' hc hc' hx
      replace x0 := cell_regrown (cell_later hb x0)
      replace x1 := cell_regrown (cell_later hb x1)
      replace x2 := cell_regrown (cell_later hb x2)
      replace x3 := cell_regrown (cell_later hb x3)
      replace x4 := cell_regrown (cell_later hb x4)
      replace y0 := cell_regrown (cell_later hb y0)
      replace y1 := cell_regrown (cell_later hb y1)
      replace y2 := cell_regrown (cell_later hb y2)
      replace y3 := cell_regrown (cell_later hb y3)
      replace y4 := cell_regrown (cell_later hb y4)
      have p1 := cell_regrown (B2.cell (v := .slice (some ⟨b, off, none⟩) n' c) 1 rfl)
      have q1 := cell_regrown (B3.cell (v := .slice (some ⟨b', off', none⟩) n' c') 1 rfl)
      have hne := neq_C x
      go_wp2
      refine wp_region_low2 noPosts 10 (by kernel_rfl) (by kernel_rfl) ?_
      simp only [List.take, List.drop]
      iterate 10 (refine low2_step (fun K hK => ?_); go_simp; first | (refine hK _ ?_; clear hK K) | (apply Exists.intro; refine ⟨fun p => ?_, hK _ ?_⟩; clear hK K))
      refine low2_nil ?_
      intro V hC
      replace B2 := B2.below hC.1
      replace B3 := B3.below hC.1
      obtain ⟨hb, -⟩ := below_cc hC.1 hb
      clear hC x0 x1 x2 x3 x4 y0 y1 y2 y3 y4 p1 q1
      go_wp2
      go_roundw
      case rel => exact ⟨k + 1, ⟨by omega, by go_num⟩, B2, B3, hb⟩
      case measure => simp [intOf]; omega
    · obtain rfl : k = n' := by omega
      go_wp2
      go_returns
      exact ⟨rfl, hb⟩
set_option maxHeartbeats 4000000 in
theorem sameW_any (W : Wld) (a : Option Addr) (n c : Nat) (a' : Option Addr) (n' c' : Nat) (w : World) (h : EntsAt w (.slice a n c) W.es) (h' : EntsAt w (.slice a' n' c') W.es) :
    Calls Tryz.prog 13 #[Wv W.t a n c, Wv W.t a' n' c'] w fun r w' => r = .returned (.bool true) ∧ Below w.heap.size w w' := by
  have hn : n = W.es.length := ListAt.len h
  have hn' : n' = W.es.length := ListAt.len h'
  have hm : n < 1099511627776 := by
    rcases h with ⟨_, h2⟩ | ⟨b, off, cap, _, hl, _⟩
    · rw [hn, h2]; simp
    · rw [hn]; exact hl
  have HL := Lib.hid hn
  obtain rfl : n' = n := by rw [hn, hn']
  have HH := Lib.hid (And.intro h h')
  clear hn hn' h h'
  unfold Wv
  go_enter Tryz.func13, Tryz.ntmps13
  go_wp2
  go_loopw [23] (fun v23 wr => ∃ k : Nat, (k ≤ n' ∧ v23 = .int .i64 k) ∧ Bk wr w.heap.size #[.int .i64 W.t, .slice a n' c] 26 ∧ Bk wr (w.heap.size + 1) #[.int .i64 W.t, .slice a' n' c'] 26 ∧ Below w.heap.size w wr) (fun v23 _ => n' - (intOf v23).toNat)
  case atStart => exact ⟨0, ⟨by omega, rfl⟩, (Bk.made _ _ _).alloc _, Bk.at_ (by simp), by go_grown⟩
  case round =>
    obtain ⟨k, ⟨hk, rfl⟩, B2, B3, hb⟩ := hrel
    by_cases hlt : k < n'
    · obtain ⟨x, hx⟩ := at_lt (l := W.es) (i := k) (by rw [← HL.out]; exact hlt)
      rcases HH.out.1 with ⟨h1, h2⟩ | ⟨b, off, cap, h1, hl, hc⟩
      · rw [h2] at hx; cases hx
      rcases HH.out.2 with ⟨h3, h4⟩ | ⟨b', off', cap', h3, hl', hc'⟩
      · rw [h4] at hx; cases hx
      injection h1 with w1 w2 w3
      injection h3 with w4 w5 w6
      subst w1 w3 w4 w6
      obtain ⟨x0, xa, xn, xc, x1, hx1⟩ := hc k x hx
      obtain ⟨y0, ya, yn, yc, y1, hy1⟩ := hc' k x hx
      clear w2 w5 hl hl' hc hc' hx
      have SE := Lib.hid (fun V (hV : Below w.heap.size w V) => sameE_any x xa xn xc ya yn yc V (hx1.below hV) (hy1.below hV))
      replace x0 := cell_regrown (cell_later hb x0)
      replace x1 := cell_regrown (cell_later hb x1)
      replace y0 := cell_regrown (cell_later hb y0)
      replace y1 := cell_regrown (cell_later hb y1)
      have p1 := cell_regrown (B2.cell (v := .slice (some ⟨b, off, none⟩) n' c) 1 rfl)
      have q1 := cell_regrown (B3.cell (v := .slice (some ⟨b', off', none⟩) n' c') 1 rfl)
      clear hx1 hy1
      go_wp2
      refine wp_region_low2 noPosts 11 (by kernel_rfl) (by kernel_rfl) ?_
      simp only [List.take, List.drop]
      iterate 10 (refine low2_step (fun K hK => ?_); go_simp; first | (refine hK _ ?_; clear hK K) | (apply Exists.intro; refine ⟨fun p => ?_, hK _ ?_⟩; clear hK K))
      refine low2_reads 23 #[.agg #[.int .i64 x.id, .slice xa xn xc], .agg #[.int .i64 x.id, .slice ya yn yc]] _ (by rfl) (fun w => by go_simp; try rfl) rfl (by kernel_rfl) (fun V hV hG => SE.out V (below_cc hV hb).1) ?_
      refine low2_nil ?_
      intro V hC
      replace B2 := B2.below hC.1
      replace B3 := B3.below hC.1
      obtain ⟨hb, -⟩ := below_cc hC.1 hb
      clear hC x0 x1 y0 y1 p1 q1 SE
      go_wp2
      go_roundw
      case rel => exact ⟨k + 1, ⟨by omega, by go_num⟩, B2, B3, hb⟩
      case measure => simp [intOf]; omega
    · obtain rfl : k = n' := by omega
      go_wp2
      go_returns
      exact ⟨rfl, hb⟩
/-- some answer -/
def SomeB (w : World) (e : Ending) (w' : World) : Prop := ∃ b : Bool, e = .returned (.bool b) ∧ Below w.heap.size w w'
set_option maxHeartbeats 8000000 in
theorem few_any (W : Wld) (a : Option Addr) (n c : Nat) (w : World) (h : EntsAt w (.slice a n c) W.es) :
    Calls Tryz.prog 30 #[Wv W.t a n c] w (SomeB w) := by
  have hn : n = W.es.length := ListAt.len h
  have hm : n < 1099511627776 := by
    rcases h with ⟨_, h2⟩ | ⟨b, off, cap, _, hl, _⟩
    · rw [hn, h2]; simp
    · rw [hn]; exact hl
  have HL := Lib.hid hn
  have HH := Lib.hid h
  clear hn h
  unfold Wv
  by_cases h8 : 8 < n
  · have d1 : decide ((n : Int) > 8) = true := decide_eq_true (by omega)
    have d1' : decide (8 < n) = true := decide_eq_true h8
    go_enter Tryz.func30, Tryz.ntmps30
    go_wp2
    go_returns
    exact ⟨false, rfl, by go_grown⟩
  have d1 : decide ((n : Int) > 8) = false := decide_eq_false (by omega)
  have d1' : decide (8 < n) = false := decide_eq_false h8
  have hn8 : n ≤ 8 := by omega
  clear h8
  go_enter Tryz.func30, Tryz.ntmps30
  go_wp2
  go_loopw [14] (fun v14 wr => ∃ k : Nat, (k ≤ n ∧ v14 = .int .i64 k) ∧ Below w.heap.size w wr) (fun v14 _ => n - (intOf v14).toNat)
  case atStart => exact ⟨0, ⟨by omega, rfl⟩, by go_grown⟩
  case round =>
    obtain ⟨k, ⟨hk, rfl⟩, hb⟩ := hrel
    by_cases hlt : k < n
    · obtain ⟨x, hx⟩ := at_lt (l := W.es) (i := k) (by rw [← HL.out]; exact hlt)
      rcases HH.out with ⟨h1, h2⟩ | ⟨b, off, cap, h1, hl, hc⟩
      · rw [h2] at hx; cases hx
      injection h1 with w1 w2 w3
      subst w1 w3
      obtain ⟨x0, xa, xn, xc, x1, hx1⟩ := hc k x hx
      have hxn : xn = x.cs.length := ListAt.len hx1
      have hxm : xn < 1099511627776 := by rw [hxn]; exact (CompsAt.kinds hx1).2
      have HX := Lib.hid (And.intro hx1 hxn)
      replace x0 := cell_later hb x0
      replace x1 := cell_later hb x1
      have hs := hb.size
      clear w2 hl hc hx hx1 hxn
      by_cases h12 : 12 < xn
      · have d2 : decide ((xn : Int) > 12) = true := decide_eq_true (by omega)
        have d2' : decide (12 < xn) = true := decide_eq_true h12
        go_wp2
        go_returns
        exact ⟨false, rfl, hb.alloc hs _⟩
      have d2 : decide ((xn : Int) > 12) = false := decide_eq_false (by omega)
      have d2' : decide (12 < xn) = false := decide_eq_false h12
      have hn12 : xn ≤ 12 := by omega
      clear h12
      obtain ⟨wo, hwo⟩ : ∃ wo : World, wo = wr := ⟨_, rfl⟩
      subst hwo
      go_wp2
      go_loopw [25] (fun v25 wr => ∃ j : Nat, (j ≤ xn ∧ v25 = .int .i64 j) ∧ Below w.heap.size w wr) (fun v25 _ => xn - (intOf v25).toNat)
      case atStart => exact ⟨0, ⟨by omega, rfl⟩, hb.alloc hs _⟩
      case round =>
        obtain ⟨j, ⟨hj, rfl⟩, hb2⟩ := hrel
        clear x0 x1
        have hs2 := hb2.size
        by_cases hltj : j < xn
        · obtain ⟨z, hz⟩ := at_lt (l := x.cs) (i := j) (by rw [← HX.out.2]; exact hltj)
          rcases HX.out.1 with ⟨h1, h2⟩ | ⟨b2, off2, cap2, h1, hl, hc⟩
          · rw [h2] at hz; cases hz
          injection h1 with w1 w2 w3
          subst w1 w3
          obtain ⟨⟨z0, z1, z2, z3, z4⟩, -⟩ := hc j z hz
          clear w2 hl hc hz
          replace z0 := cell_later hb2 z0
          replace z1 := cell_later hb2 z1
          replace z2 := cell_later hb2 z2
          replace z3 := cell_later hb2 z3
          replace z4 := cell_later hb2 z4
          by_cases e2 : z.k = 2
          · have c0 : ((z.k : Int) == 2) = true := by simpa using e2
            by_cases l1 : z.a < -300
            · have c1 : decide (z.a < -300) = true := decide_eq_true l1
              clear e2 l1
              go_wp2
              go_returns
              exact ⟨false, rfl, hb2.alloc hs2 _⟩
            have c1 : decide (z.a < -300) = false := decide_eq_false l1
            by_cases l2 : 300 < z.a
            · have c2 : decide (300 < z.a) = true := decide_eq_true l2
              clear e2 l1 l2
              go_wp2
              go_returns
              exact ⟨false, rfl, hb2.alloc hs2 _⟩
            have c2 : decide (300 < z.a) = false := decide_eq_false l2
            by_cases l3 : z.b < -300
            · have c3 : decide (z.b < -300) = true := decide_eq_true l3
              clear e2 l1 l2 l3
              go_wp2
              go_returns
              exact ⟨false, rfl, hb2.alloc hs2 _⟩
            have c3 : decide (z.b < -300) = false := decide_eq_false l3
            by_cases l4 : 300 < z.b
            · have c4 : decide (300 < z.b) = true := decide_eq_true l4
              clear e2 l1 l2 l3 l4
              go_wp2
              go_returns
              exact ⟨false, rfl, hb2.alloc hs2 _⟩
            have c4 : decide (300 < z.b) = false := decide_eq_false l4
            clear e2 l1 l2 l3 l4
            go_wp2
            go_roundw
            case rel => exact ⟨j + 1, ⟨by omega, by go_num⟩, hb2.alloc hs2 _⟩
            case measure => simp [intOf]; omega
          · have c0 : ((z.k : Int) == 2) = false := by simpa using e2
            clear e2
            go_wp2
            go_roundw
            case rel => exact ⟨j + 1, ⟨by omega, by go_num⟩, hb2.alloc hs2 _⟩
            case measure => simp [intOf]; omega
        · go_wp2
          go_roundw
          case rel => exact ⟨k + 1, ⟨by omega, by go_num⟩, hb2⟩
          case measure => simp [intOf]; omega
    · go_wp2
      go_returns
      exact ⟨true, rfl, hb⟩
end Go.Proofs.YtlcjkomfjgddeaaGreatDoor
