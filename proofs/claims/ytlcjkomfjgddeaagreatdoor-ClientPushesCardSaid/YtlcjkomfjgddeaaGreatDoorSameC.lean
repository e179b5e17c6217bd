/- marcheslaw27.Same of equal clients. -/
import Derived.Test.YtlcjkomfjgddeaaGreatDoorM38
import Derived.Test.YtlcjkomfjgddeaaGreatDoorM35
set_option linter.unusedVariables false
set_option linter.unusedSimpArgs false
namespace Go.Proofs.YtlcjkomfjgddeaaGreatDoor
open Go Go.RowKit Go.Sort
set_option maxRecDepth 100000
attribute [local go_sem] opLow opUpon opLow2 opUpon2

theorem neq_I (x : Inp) (w : World) : (binOp .neq 37 (.agg #[.int .i64 x.c, .int .i64 x.s, .int .i64 x.t, .int .i64 x.mx, .int .i64 x.my, .bool x.fire, .int .i64 x.ax, .int .i64 x.ay, .int .i64 x.seen, .int .i64 x.part]) (.agg #[.int .i64 x.c, .int .i64 x.s, .int .i64 x.t, .int .i64 x.mx, .int .i64 x.my, .bool x.fire, .int .i64 x.ax, .int .i64 x.ay, .int .i64 x.seen, .int .i64 x.part])).run Tryz.prog w = .ok (.bool false) w := by
  obtain ⟨a, b, c, d, e, f, g, h, i, j⟩ := x
  simp [go_sem]
set_option maxHeartbeats 8000000 in
theorem sameC_any (c : Cli) (a : Option Addr) (n cap : Nat) (pa : Option Addr) (pn pc : Nat) (a' : Option Addr) (n' cap' : Nat) (pa' : Option Addr) (pn' pc' : Nat) (w : World) (h : EntsAt w (.slice a n cap) c.b.es) (h' : EntsAt w (.slice a' n' cap') c.b.es) (hp : InpsAt w (.slice pa pn pc) c.p) (hp' : InpsAt w (.slice pa' pn' pc') c.p) :
    Calls Tryz.prog 20 #[Cv c a n cap pa pn pc, Cv c a' n' cap' pa' pn' pc'] w fun r w' => r = .returned (.bool true) ∧ Below w.heap.size w w' := by
  have hn : pn = c.p.length := ListAt.len hp
  have hn' : pn' = c.p.length := ListAt.len hp'
  have hm : pn < 1099511627776 := by rw [hn]; exact hp.len64
  have HL := Lib.hid hn
  obtain rfl : pn' = pn := by rw [hn, hn']
  have SW := Lib.hid (fun V (hV : Below w.heap.size w V) => sameW_any c.b a n cap a' n' cap' V (EntsAt.below h hV) (EntsAt.below h' hV))
  have HP := Lib.hid (And.intro hp hp')
  clear hn hn' h h' hp hp'
  obtain ⟨id, gx, gy, ⟨t, es⟩, ack, p⟩ := c
  unfold Wv at SW
  unfold Cv ccs
  simp only at SW HL HP ⊢
  have hv := neq_V gx gy
  go_enter Tryz.func20, Tryz.ntmps20
  have HB := Lib.hid (show Bk ((w.alloc (.cells #[.int .i64 id, .int .i64 gx, .int .i64 gy, .int .i64 t, .slice a n cap, .int .i64 ack, .slice pa pn' pc] 29)).alloc (.cells #[.int .i64 id, .int .i64 gx, .int .i64 gy, .int .i64 t, .slice a' n' cap', .int .i64 ack, .slice pa' pn' pc'] 29)) w.heap.size #[.int .i64 id, .int .i64 gx, .int .i64 gy, .int .i64 t, .slice a n cap, .int .i64 ack, .slice pa pn' pc] 29 ∧ Bk ((w.alloc (.cells #[.int .i64 id, .int .i64 gx, .int .i64 gy, .int .i64 t, .slice a n cap, .int .i64 ack, .slice pa pn' pc] 29)).alloc (.cells #[.int .i64 id, .int .i64 gx, .int .i64 gy, .int .i64 t, .slice a' n' cap', .int .i64 ack, .slice pa' pn' pc'] 29)) (w.heap.size + 1) #[.int .i64 id, .int .i64 gx, .int .i64 gy, .int .i64 t, .slice a' n' cap', .int .i64 ack, .slice pa' pn' pc'] 29 ∧ Below w.heap.size w ((w.alloc (.cells #[.int .i64 id, .int .i64 gx, .int .i64 gy, .int .i64 t, .slice a n cap, .int .i64 ack, .slice pa pn' pc] 29)).alloc (.cells #[.int .i64 id, .int .i64 gx, .int .i64 gy, .int .i64 t, .slice a' n' cap', .int .i64 ack, .slice pa' pn' pc'] 29)) from ⟨(Bk.made _ _ _).alloc _, Bk.at_ (by simp), by go_grown⟩)
  go_upto_region 1 with fail
  refine wp_name (fun V => Bk V w.heap.size #[.int .i64 id, .int .i64 gx, .int .i64 gy, .int .i64 t, .slice a n cap, .int .i64 ack, .slice pa pn' pc] 29 ∧ Bk V (w.heap.size + 1) #[.int .i64 id, .int .i64 gx, .int .i64 gy, .int .i64 t, .slice a' n' cap', .int .i64 ack, .slice pa' pn' pc'] 29 ∧ Below w.heap.size w V) HB.out ?_
  clear HB
  rintro V1 ⟨B2, B3, hb⟩
  have s0 := B2.cell (v := .int .i64 id) 0 rfl
  have s1 := B2.cell (v := .int .i64 gx) 1 rfl
  have s2 := B2.cell (v := .int .i64 gy) 2 rfl
  have s3 := B2.cell (v := .int .i64 t) 3 rfl
  have s4 := B2.cell (v := .slice a n cap) 4 rfl
  have s5 := B2.cell (v := .int .i64 ack) 5 rfl
  have s6 := B2.cell (v := .slice pa pn' pc) 6 rfl
  have sl := B2.lt
  have r0 := B3.cell (v := .int .i64 id) 0 rfl
  have r1 := B3.cell (v := .int .i64 gx) 1 rfl
  have r2 := B3.cell (v := .int .i64 gy) 2 rfl
  have r3 := B3.cell (v := .int .i64 t) 3 rfl
  have r4 := B3.cell (v := .slice a' n' cap') 4 rfl
  have r5 := B3.cell (v := .int .i64 ack) 5 rfl
  have r6 := B3.cell (v := .slice pa' pn' pc') 6 rfl
  have rl := B3.lt
  go_wp2_with fail
  refine (SW.out _ hb).mono ?_
  rintro e V2 ⟨rfl, hb2⟩
  replace B2 := B2.below hb2
  replace B3 := B3.below hb2
  obtain ⟨hb, -⟩ := below_cc hb2 hb
  clear hb2 SW s0 s1 s2 s3 s4 s5 s6 sl r0 r1 r2 r3 r4 r5 r6 rl
  have s5 := B2.cell (v := .int .i64 ack) 5 rfl
  have s6 := B2.cell (v := .slice pa pn' pc) 6 rfl
  have sl := B2.lt
  have r5 := B3.cell (v := .int .i64 ack) 5 rfl
  have r6 := B3.cell (v := .slice pa' pn' pc') 6 rfl
  have rl := B3.lt
  go_wp2
  clear s5 s6 sl r5 r6 rl
  go_loopw [45] (fun v45 wr => ∃ k : Nat, (k ≤ pn' ∧ v45 = .int .i64 k) ∧ Bk wr w.heap.size #[.int .i64 id, .int .i64 gx, .int .i64 gy, .int .i64 t, .slice a n cap, .int .i64 ack, .slice pa pn' pc] 29 ∧ Bk wr (w.heap.size + 1) #[.int .i64 id, .int .i64 gx, .int .i64 gy, .int .i64 t, .slice a' n' cap', .int .i64 ack, .slice pa' pn' pc'] 29 ∧ Below w.heap.size w wr) (fun v45 _ => pn' - (intOf v45).toNat)
  case atStart => exact ⟨0, ⟨by omega, rfl⟩, B2, B3, hb⟩
  case round =>
    obtain ⟨k, ⟨hk, rfl⟩, B2, B3, hb⟩ := hrel
    by_cases hlt : k < pn'
    · obtain ⟨x, hx⟩ := at_lt (l := p) (i := k) (by rw [← HL.out]; exact hlt)
      rcases HP.out.1 with ⟨h1, h2⟩ | ⟨b, off, cap, h1, hl, hc⟩
      · rw [h2] at hx; cases hx
      rcases HP.out.2 with ⟨h3, h4⟩ | ⟨b', off', cap', h3, hl', hc'⟩
      · rw [h4] at hx; cases hx
      injection h1 with w1 w2 w3
      injection h3 with w4 w5 w6
      subst w1 w3 w4 w6
      obtain ⟨x0, x1, x2, x3, x4, x5, x6, x7, x8, x9⟩ := hc k x hx
      obtain ⟨y0, y1, y2, y3, y4, y5, y6, y7, y8, y9⟩ := hc' k x hx
      clear w2 w5 hl hl' hc hc' hx
      replace x0 := cell_regrown (cell_later hb x0)
      replace x1 := cell_regrown (cell_later hb x1)
      replace x2 := cell_regrown (cell_later hb x2)
      replace x3 := cell_regrown (cell_later hb x3)
      replace x4 := cell_regrown (cell_later hb x4)
      replace x5 := cell_regrown (cell_later hb x5)
      replace x6 := cell_regrown (cell_later hb x6)
      replace x7 := cell_regrown (cell_later hb x7)
      replace x8 := cell_regrown (cell_later hb x8)
      replace x9 := cell_regrown (cell_later hb x9)
      replace y0 := cell_regrown (cell_later hb y0)
      replace y1 := cell_regrown (cell_later hb y1)
      replace y2 := cell_regrown (cell_later hb y2)
      replace y3 := cell_regrown (cell_later hb y3)
      replace y4 := cell_regrown (cell_later hb y4)
      replace y5 := cell_regrown (cell_later hb y5)
      replace y6 := cell_regrown (cell_later hb y6)
      replace y7 := cell_regrown (cell_later hb y7)
      replace y8 := cell_regrown (cell_later hb y8)
      replace y9 := cell_regrown (cell_later hb y9)
      have p1 := cell_regrown (B2.cell (v := .slice (some ⟨b, off, none⟩) pn' pc) 6 rfl)
      have q1 := cell_regrown (B3.cell (v := .slice (some ⟨b', off', none⟩) pn' pc') 6 rfl)
      have hne := neq_I x
      go_wp2
      refine wp_region_low2 noPosts 10 (by kernel_rfl) (by kernel_rfl) ?_
      simp only [List.take, List.drop]
      iterate 10 (refine low2_step (fun K hK => ?_); go_simp; first | (refine hK _ ?_; clear hK K) | (apply Exists.intro; refine ⟨fun p => ?_, hK _ ?_⟩; clear hK K))
      refine low2_nil ?_
      intro V hC
      replace B2 := B2.below hC.1
      replace B3 := B3.below hC.1
      obtain ⟨hb, -⟩ := below_cc hC.1 hb
      clear hC x0 x1 x2 x3 x4 x5 x6 x7 x8 x9 y0 y1 y2 y3 y4 y5 y6 y7 y8 y9 p1 q1
      go_wp2
      go_roundw
      case rel => exact ⟨k + 1, ⟨by omega, by go_num⟩, B2, B3, hb⟩
      case measure => simp [intOf]; omega
    · obtain rfl : k = pn' := by omega
      go_wp2
      go_returns
      exact ⟨rfl, hb⟩
end Go.Proofs.YtlcjkomfjgddeaaGreatDoor
