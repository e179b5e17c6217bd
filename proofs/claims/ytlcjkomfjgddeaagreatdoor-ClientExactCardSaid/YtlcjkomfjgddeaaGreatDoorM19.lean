/- island.Speed. island.Valid of a valid scene without ropes. step.body, any entity; (mover).run over a list of bodies. -/
import Derived.Test.YtlcjkomfjgddeaaGreatDoorM16
import Derived.Test.YtlcjkomfjgddeaaGreatDoorM17
import Derived.Test.YtlcjkomfjgddeaaGreatDoorM18
set_option linter.unusedVariables false
set_option linter.unusedSimpArgs false
namespace Go.Proofs.YtlcjkomfjgddeaaGreatDoor
open Go Go.RowKit Go.Sort
set_option maxRecDepth 100000
attribute [local go_sem] opLow opUpon opLow2 opUpon2

set_option maxHeartbeats 8000000 in
theorem speed_any (b : Bdy) (gx gy : Int) (w : World) (hb : okBdy b) (hf : b.fixed = false) (hg : okG gx gy) :
    Calls Tryz.prog 82 #[Bv b, V2 gx gy] w fun e w' => e = .returned (V2 (clampV (b.vx + gx)) (clampV (b.vy + gy))) ∧ Below w.heap.size w w' := by
  obtain ⟨bid, bx, by', bvx, bvy, bw, bh, brd, bfx⟩ := b
  simp only at hf
  subst hf
  simp only
  have hvx : -4096 ≤ bvx ∧ bvx ≤ 4096 := hb.2.2.1.1
  have hvy : -4096 ≤ bvy ∧ bvy ≤ 4096 := hb.2.2.1.2
  obtain ⟨⟨g0, g1⟩, g2, g3⟩ := hg
  obtain ⟨sx, hsx⟩ : ∃ s, bvx + gx = s := ⟨_, rfl⟩
  obtain ⟨sy, hsy⟩ : ∃ s, bvy + gy = s := ⟨_, rfl⟩
  have w1 : IntKind.i64.wrap (bvx + gx) = sx := by rw [← hsx, IntKind.wrap_i64]; omega
  have w2 : IntKind.i64.wrap (bvy + gy) = sy := by rw [← hsy, IntKind.wrap_i64]; omega
  rw [hsx, hsy]
  have BV := fun w => bvalid_any ⟨bid, bx, by', bvx, bvy, bw, bh, brd, false⟩ w
  rw [decide_eq_true hb] at BV
  have HBV := Lib.hid BV
  have IP := fun w => ipull_any gx gy w ⟨⟨g0, g1⟩, g2, g3⟩
  have HIP := Lib.hid IP
  have HW := Lib.hid (And.intro w1 w2)
  clear BV IP w1 w2 hsx hsy hb hvx hvy g0 g1 g2 g3
  unfold Bv at HBV ⊢
  simp only at HBV ⊢
  go_enter Tryz.func82, Tryz.ntmps82
  go_wp2_with fail
  refine Calls.mono (HBV.out _) ?_
  rintro e W1 ⟨rfl, hb1⟩
  have B1 : Bk W1 w.heap.size #[.int .i64 bid, .int .i64 bx, .int .i64 by', .int .i64 bvx, .int .i64 bvy, .int .i64 bw, .int .i64 bh, .bool brd, .bool false] 133 := Bk.below (((Bk.made _ _ _).alloc _).alloc _) hb1
  have B2 : Bk W1 (w.heap.size + 1) #[.int .i64 gx, .int .i64 gy] 23 := Bk.below ((Bk.at_ (by simp)).alloc _) hb1
  have B3 : Bk W1 (w.heap.size + 1 + 1) #[.int .i64 0, .int .i64 0] 23 := Bk.below (Bk.at_ (by simp)) hb1
  obtain ⟨hgg, hs⟩ := below_cc (w := w) hb1 (by go_grown)
  clear hb1
  have p0 := B2.cell (v := .int .i64 gx) 0 rfl
  have p1 := B2.cell (v := .int .i64 gy) 1 rfl
  go_wp2_with fail
  refine Calls.mono (HIP.out _) ?_
  rintro e W2 ⟨rfl, hb1⟩
  replace B1 := B1.below hb1
  replace B2 := B2.below hb1
  replace B3 := B3.below hb1
  obtain ⟨hgg, hs⟩ := below_cc (w := w) hb1 hgg
  clear hb1 p0 p1
  have p0 := cell_regrown (B2.cell (v := .int .i64 gx) 0 rfl)
  have p1 := cell_regrown (B2.cell (v := .int .i64 gy) 1 rfl)
  have q0 := cell_regrown (B1.cell (v := .int .i64 bvx) 3 rfl)
  have q1 := cell_regrown (B1.cell (v := .int .i64 bvy) 4 rfl)
  have w1 := HW.out.1
  have w2 := HW.out.2
  go_wp2
  refine wp_region_low2 noPosts 17 (by kernel_rfl) (by kernel_rfl) ?_
  simp only [List.take, List.drop]
  iterate 7 (refine low2_step (fun K hK => ?_); go_simp; first | (refine hK _ ?_; clear hK K) | (apply Exists.intro; refine ⟨fun p => ?_, hK _ ?_⟩; clear hK K))
  refine low2_reads 114 #[.int .i64 sx] (.int .i64 (clampV sx)) (by rfl) (fun w => by go_simp; try rfl) rfl (by kernel_rfl) (fun V1 hV hG => clamp1_any _ V1) ?_
  iterate 7 (refine low2_step (fun K hK => ?_); go_simp; first | (refine hK _ ?_; clear hK K) | (apply Exists.intro; refine ⟨fun p => ?_, hK _ ?_⟩; clear hK K))
  refine low2_reads 114 #[.int .i64 sy] (.int .i64 (clampV sy)) (by rfl) (fun w => by go_simp; try rfl) rfl (by kernel_rfl) (fun V1 hV hG => clamp1_any _ V1) ?_
  iterate 1 (refine low2_step (fun K hK => ?_); go_simp; first | (refine hK _ ?_; clear hK K) | (apply Exists.intro; refine ⟨fun p => ?_, hK _ ?_⟩; clear hK K))
  refine low2_nil ?_
  intro W3 hC
  replace B3 := B3.below hC.1
  obtain ⟨hgg, hs⟩ := below_cc (w := w) hC.1 hgg
  clear hC p0 p1 q0 q1 w1 w2
  have o0 := B3.cell (v := .int .i64 0) 0 rfl
  have o1 := B3.cell (v := .int .i64 0) 1 rfl
  have o2 := B3.free 0
  have o3 := B3.free 1
  have lt := B3.lt
  obtain ⟨cx, hcx⟩ : ∃ c, clampV sx = c := ⟨_, rfl⟩
  obtain ⟨cy, hcy⟩ : ∃ c, clampV sy = c := ⟨_, rfl⟩
  rw [hcx, hcy]
  go_wp2
  have G2 := B3.store2 (x := .int .i64 cx) (y := .int .i64 cy) hgg (by omega)
  refine post_name (fun V => Bk V (w.heap.size + 1 + 1) #[.int .i64 cx, .int .i64 cy] 23 ∧ Below w.heap.size w V) G2 ?_
  rintro V ⟨BV, hbV⟩
  have y0 := BV.cell (v := .int .i64 cx) 0 rfl
  have y1 := BV.cell (v := .int .i64 cy) 1 rfl
  exact bodyPost_ret (v := V2 cx cy) (by simp [results, Tryz.results82, go_sem, y0, y1]; try rfl) rfl ⟨by rw [hcx, hcy], hbV⟩
end Go.Proofs.YtlcjkomfjgddeaaGreatDoor
namespace Go.Proofs.YtlcjkomfjgddeaaGreatDoor
open Go Go.RowKit Go.Sort
set_option maxRecDepth 100000
attribute [local go_sem] opLow opUpon opLow2 opUpon2

theorem irope_any (g : Nat) (w : World) : Calls Tryz.prog 131 #[.slice none 0 0, .func (.func 111) #[] #[.pointer (some ⟨g, 0, none⟩)]] w fun e w' => e = .returned (.int .i64 (-1)) ∧ Below w.heap.size w w' := by
  go_enter Tryz.func131, Tryz.ntmps131
  go_wp2
  refine wp_loop_rounds 1 ?_
  rw [rounds_succ]
  go_wp2
  go_returns
  exact ⟨rfl, by go_grown⟩
theorem crope_any (g : Nat) (w : World) : Calls Tryz.prog 110 #[.slice none 0 0, .func (.func 111) #[] #[.pointer (some ⟨g, 0, none⟩)]] w fun e w' => e = .returned (.bool false) ∧ Below w.heap.size w w' := by
  go_enter Tryz.func110, Tryz.ntmps110
  go_wp2_with fail
  with_reducible refine (irope_any _ _).mono ?_
  rintro e W1 ⟨rfl, hb⟩
  go_wp2
  go_returns
  exact ⟨rfl, hb⟩
abbrev Sv (a : Option Addr) (n c : Nat) (gx gy : Int) : Value := .agg #[.slice a n c, .slice none 0 0, .int .i64 gx, .int .i64 gy]
set_option maxHeartbeats 8000000 in
theorem ivalid_any (a : Option Addr) (n c : Nat) (l : List Bdy) (gx gy : Int) (w : World) (h : BodiesAt w (.slice a n c) l) (hok : ∀ x ∈ l, okBdy x) (hr : Rises (l.map Bdy.id)) (hlen : l.length ≤ 64) (hg : okG gx gy) :
    Calls Tryz.prog 79 #[Sv a n c gx gy] w fun e w' => e = .returned (.bool true) ∧ Below w.heap.size w w' := by
  have hn : n = l.length := ListAt.len h
  have IP := fun w => ipull_any gx gy w hg
  have HIP := Lib.hid IP
  have hn64 : n ≤ 64 := by omega
  have HH := Lib.hid (And.intro h (And.intro hok (And.intro hr hn)))
  clear IP h hok hr hlen hg hn
  go_enter Tryz.func79, Tryz.ntmps79
  go_wp2_with fail
  refine Calls.mono (HIP.out _) ?_
  rintro e W1 ⟨rfl, hb1⟩
  have B1 : Bk W1 w.heap.size #[.slice a n c, .slice none 0 0, .int .i64 gx, .int .i64 gy] 106 := Bk.below (Bk.made _ _ _) hb1
  obtain ⟨hgg, hs⟩ := below_cc (w := w) hb1 (by go_grown)
  clear hb1
  have p0 := B1.cell (v := .slice a n c) 0 rfl
  go_wp2
  go_loopw [24] (fun v wr => ∃ i : Nat, v = .int .i64 i ∧ i ≤ n ∧ Below w.heap.size w wr ∧ Below W1.heap.size W1 wr) (fun v _ => n - (intOf v).toNat)
  case atStart => exact ⟨0, rfl, Nat.zero_le _, hgg, Below.refl _ _⟩
  case round =>
    obtain ⟨i, rfl, hi, hb, hb1⟩ := hrel
    have HB := Lib.hid (And.intro hb hb1)
    have hsz := Nat.le_trans hs hb1.size
    replace B1 := B1.below hb1
    clear p0 hb hb1
    by_cases hlt : i < n
    · obtain ⟨x, hx⟩ := get_lt (l := l) (i := i) (by have := HH.out.2.2.2; omega)
      have hok := HH.out.2.1 x (List.mem_iff_getElem?.2 ⟨i, hx⟩)
      have BV := fun w => bvalid_any x w
      rw [decide_eq_true hok] at BV
      have HBV := Lib.hid BV
      clear BV hok
      rcases HH.out.1 with ⟨h1, h2⟩ | ⟨b', off, cap, h1, hl, hc⟩
      · subst h2; simp at hx
      · cases h1
        have HX := (hc i x hx).below' HB.out.1
        obtain ⟨x0, x1, x2, x3, x4, x5, x6, x7, x8⟩ := HX
        have hPrev : i = 0 ∨ ∃ (k : Nat) (y : Bdy), i = k + 1 ∧ wr.cell? ⟨b', off + k * 9, none⟩ = some (.int .i64 y.id) ∧ y.id < x.id := by
          rcases i with _ | k
          · exact .inl rfl
          · right
            obtain ⟨y, hy⟩ := get_lt (l := l) (i := k) (by have := (List.getElem?_eq_some_iff.1 hx).1; omega)
            refine ⟨k, y, rfl, ((hc k y hy).below' HB.out.1).1, ?_⟩
            have h3 := HH.out.2.2.1 k (by rw [List.length_map]; have := (List.getElem?_eq_some_iff.1 hx).1; omega)
            rw [map_at Bdy.id hy, map_at Bdy.id hx] at h3
            exact h3
        have HN := Lib.hid HH.out.2.2.2
        clear hc hx hl
        unfold Bv at HBV
        rw [← HN.out]
        go_upto_region 6 with fail
        refine wp_name (fun V => Bk V wr.heap.size #[.int .i64 x.id, .int .i64 x.x, .int .i64 x.y, .int .i64 x.vx, .int .i64 x.vy, .int .i64 x.w, .int .i64 x.h, .bool x.round, .bool x.fixed] 133 ∧ Below wr.heap.size wr V) ⟨Bk.made _ _ _, (Below.refl _ _).alloc (Nat.le_refl _) _⟩ ?_
        clear x0 x1 x2 x3 x4 x5 x6 x7 x8
        rintro V ⟨B2, hbV⟩
        have B3 := B1.below hbV
        have hfin : Below w.heap.size w V ∧ Below W1.heap.size W1 V := ⟨(below_cc hbV HB.out.1).1, (below_cc hbV HB.out.2).1⟩
        have HFN := Lib.hid hfin
        clear hfin
        have y0 := cell_regrown (B2.cell (v := .int .i64 x.id) 0 rfl)
        have y1 := cell_regrown (B2.cell (v := .int .i64 x.x) 1 rfl)
        have y2 := cell_regrown (B2.cell (v := .int .i64 x.y) 2 rfl)
        have y3 := cell_regrown (B2.cell (v := .int .i64 x.vx) 3 rfl)
        have y4 := cell_regrown (B2.cell (v := .int .i64 x.vy) 4 rfl)
        have y5 := cell_regrown (B2.cell (v := .int .i64 x.w) 5 rfl)
        have y6 := cell_regrown (B2.cell (v := .int .i64 x.h) 6 rfl)
        have y7 := cell_regrown (B2.cell (v := .bool x.round) 7 rfl)
        have y8 := cell_regrown (B2.cell (v := .bool x.fixed) 8 rfl)
        have z0 := cell_regrown (B3.cell (v := .slice (some ⟨b', off, none⟩) l.length c) 0 (by rw [HN.out]; rfl))
        rcases hPrev with rfl | ⟨k, y, rfl, hy, hlty⟩
        · clear B1 B2 B3 hbV
          refine wp_region_low2 noPosts 18 (by kernel_rfl) (by kernel_rfl) ?_
          simp only [List.take, List.drop]
          iterate 1 (refine low2_step (fun K hK => ?_); go_simp; first | (refine hK _ ?_; clear hK K) | (apply Exists.intro; refine ⟨fun p => ?_, hK _ ?_⟩; clear hK K))
          refine low2_reads 109 #[Bv x] (.bool true) (by rfl) (fun w => by unfold Bv; go_simp; try rfl) rfl (by kernel_rfl) (fun V1 hV hG => HBV.out V1) ?_
          iterate 16 (refine low2_step (fun K hK => ?_); go_simp; first | (refine hK _ ?_; clear hK K) | (apply Exists.intro; refine ⟨fun p => ?_, hK _ ?_⟩; clear hK K))
          refine low2_nil ?_
          intro W3 hC
          have G := Lib.hid (And.intro (below_cc hC.1 HFN.out.1).1 (below_cc hC.1 HFN.out.2).1)
          clear hC
          go_wp2
          go_roundw
          case rel => exact ⟨1, by go_num, by omega, G.out.1, G.out.2⟩
          case measure => simp [intOf]; omega
        · have hy' := cell_regrown (cell_later hbV hy)
          have dn : decide (x.id ≤ y.id) = false := by simp; omega
          have wk : IntKind.i64.wrap (k : Int) = (k : Int) := by rw [IntKind.wrap_i64]; omega
          have klt : k < l.length := by omega
          clear B1 B2 B3 hbV hy
          refine wp_region_low2 noPosts 18 (by kernel_rfl) (by kernel_rfl) ?_
          simp only [List.take, List.drop]
          iterate 1 (refine low2_step (fun K hK => ?_); go_simp; first | (refine hK _ ?_; clear hK K) | (apply Exists.intro; refine ⟨fun p => ?_, hK _ ?_⟩; clear hK K))
          refine low2_reads 109 #[Bv x] (.bool true) (by rfl) (fun w => by unfold Bv; go_simp; try rfl) rfl (by kernel_rfl) (fun V1 hV hG => HBV.out V1) ?_
          iterate 16 (refine low2_step (fun K hK => ?_); go_simp; first | (refine hK _ ?_; clear hK K) | (apply Exists.intro; refine ⟨fun p => ?_, hK _ ?_⟩; clear hK K))
          refine low2_nil ?_
          intro W3 hC
          have G := Lib.hid (And.intro (below_cc hC.1 HFN.out.1).1 (below_cc hC.1 HFN.out.2).1)
          clear hC
          go_wp2
          go_roundw
          case rel => exact ⟨k + 1 + 1, by go_num, by omega, G.out.1, G.out.2⟩
          case measure => simp [intOf]; omega
    · obtain rfl : i = n := by omega
      have HFN := HB
      have p1 := B1.cell (v := .slice none 0 0) 1 rfl
      clear hlt
      go_wp2_with fail
      with_reducible refine (crope_any _ _).mono ?_
      rintro e W2 ⟨rfl, hb⟩
      have hgg2 := (below_cc (w := w) hb HFN.out.1).1
      go_wp2
      go_returns
      exact ⟨rfl, hgg2⟩
end Go.Proofs.YtlcjkomfjgddeaaGreatDoor
namespace Go.Proofs.YtlcjkomfjgddeaaGreatDoor
open Go Go.RowKit Go.Sort

theorem body_any (e : Ent) (a : Option Addr) (n c : Nat) (w : World) (h : CompsAt w (.slice a n c) e.cs) :
    Calls Tryz.prog 86 #[.agg #[.int .i64 e.id, .slice a n c]] w fun e' w' => e' = .returned (bodyR (bodyM e)) ∧ Below w.heap.size w w' := by
  rcases h1 : e.cs.find? (keyC 1) with _ | x
  · have : bodyM e = none := by simp only [bodyM, h1]
    rw [this]; exact body_none e a n c w h this
  · rcases h3 : e.cs.find? (keyC 3) with _ | y
    · have : bodyM e = none := by simp only [bodyM, h1, h3]
      rw [this]; exact body_none e a n c w h this
    · rcases h2 : e.cs.find? (keyC 2) with _ | v
      · exact body_some e.id e.cs a n c x y w h h1 h3 h2
      · exact body_vel e.id e.cs a n c x y v w h h1 h3 h2
/-- what may be in the way, of bodies as they are -/
def inWayB (b o : Bdy) : Bool := !decide (o.id = b.id) && !overI o b
def runStepB (b : Bdy) (ax sg most : Int) (st : Int × Int) (o : Bdy) : Int × Int :=
  if blockedI b o ax sg most < st.1 ∨ (blockedI b o ax sg most = st.1 ∧ blockedI b o ax sg most ≤ most ∧ st.2 < 0) then (blockedI b o ax sg most, o.id) else st
def runB (b : Bdy) (ax sg most : Int) (l : List Bdy) : Int × Int :=
  (((l.filter (inWayB b)).foldl (runStepB b ax sg most) (min most (1048576 - sg * along b ax) + 1, -1)).1 - 1, ((l.filter (inWayB b)).foldl (runStepB b ax sg most) (min most (1048576 - sg * along b ax) + 1, -1)).2)
theorem fold_val (b : Bdy) (ax sg most : Int) : ∀ (os : List OB) (st : Int × Int), os.foldl (runStep b ax sg most) st = (os.map Subtype.val).foldl (runStepB b ax sg most) st
  | [], st => rfl
  | o :: os, st => by
    rw [List.map_cons, List.foldl_cons, List.foldl_cons, fold_val b ax sg most os]
    rfl
theorem filter_val (b : Bdy) : ∀ (os : List OB), (os.filter (inWay b)).map Subtype.val = (os.map Subtype.val).filter (inWayB b)
  | [] => rfl
  | o :: os => by
    rw [List.map_cons, List.filter_cons, List.filter_cons]
    have h : inWay b o = inWayB b o.1 := rfl
    rw [h]
    split
    · rw [List.map_cons, filter_val b os]
    · exact filter_val b os
theorem runI_val (b : Bdy) (ax sg most : Int) (os : List OB) : runI b ax sg most os = runB b ax sg most (os.map Subtype.val) := by
  unfold runI runB
  rw [fold_val, filter_val]
theorem run_any (s : Option Addr × Nat × Nat) (gx gy : Int) (b : Bdy) (ax sg most : Int) (l : List Bdy) (w : World) (hM : RM w) (hw : 2 ≤ w.heap.size) (hax : ax = 0 ∨ ax = 1) (hsg : sg = 1 ∨ sg = -1) (hb : okBdy b) (hm : 0 ≤ most ∧ most ≤ 4096) (hl : ∀ x ∈ l, okBdy x) (hs : BodsAt w.heap.size w s l) :
    Calls Tryz.prog 84 #[Mv s (none, 0, 0) gx gy b ax sg, .int .i64 most] w fun e w' => e = .returned (.tuple #[.int .i64 (runB b ax sg most l).1, .int .i64 (runB b ax sg most l).2]) ∧ Below w.heap.size w w' := by
  have hv : (List.pmap (Subtype.mk (p := okBdy)) l hl).map Subtype.val = l := by simp [List.map_pmap]
  have h0 : runB b ax sg most l = runI b ax sg most (List.pmap (Subtype.mk (p := okBdy)) l hl) := by rw [runI_val, hv]
  rw [h0]
  rcases hax with rfl | rfl
  · exact run0 s none 0 gx gy b sg most _ w hM hw hsg hb hm (by rw [hv]; exact hs)
  · exact run1 s none 0 gx gy b sg most _ w hM hw hsg hb hm (by rw [hv]; exact hs)
theorem runFoldB_le (b : Bdy) (ax sg most : Int) : ∀ (os : List Bdy) (st : Int × Int), (os.foldl (runStepB b ax sg most) st).1 ≤ st.1
  | [], st => Int.le_refl _
  | o :: os, st => by
    refine Int.le_trans (runFoldB_le b ax sg most os _) ?_
    unfold runStepB
    split
    · rename_i h; simp only; omega
    · exact Int.le_refl _
theorem runFoldB_ge (b : Bdy) (ax sg most : Int) (hm : 0 ≤ most) : ∀ (os : List Bdy) (st : Int × Int), 1 ≤ st.1 → 1 ≤ (os.foldl (runStepB b ax sg most) st).1
  | [], st, h => h
  | o :: os, st, h => by
    refine runFoldB_ge b ax sg most hm os _ ?_
    have := blockedI_bd b o ax sg most hm
    unfold runStepB
    split
    · exact this.1
    · exact h
/-- how far a body moves -/
theorem runB_bd (b : Bdy) (ax sg most : Int) (l : List Bdy) (hm : 0 ≤ most) (hwall : sg * along b ax ≤ 1048576) : 0 ≤ (runB b ax sg most l).1 ∧ (runB b ax sg most l).1 ≤ most ∧ sg * along b ax + (runB b ax sg most l).1 ≤ 1048576 := by
  have h1 := runFoldB_le b ax sg most (l.filter (inWayB b)) (min most (1048576 - sg * along b ax) + 1, -1)
  have h2 := runFoldB_ge b ax sg most hm (l.filter (inWayB b)) (min most (1048576 - sg * along b ax) + 1, -1) (by simp only; omega)
  unfold runB
  simp only at h1 h2 ⊢
  omega
end Go.Proofs.YtlcjkomfjgddeaaGreatDoor
