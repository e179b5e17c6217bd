/- shape.Valid. How far two bodies are from each other; shape.Overlap. shape.far, shape.Overlap. step: axes, shifted, (mover).at. -/
import Derived.Test.YtlcjkomfjgddeaaGreatDoorM11
set_option linter.unusedVariables false
set_option linter.unusedSimpArgs false
namespace Go.Proofs.YtlcjkomfjgddeaaGreatDoor
open Go Go.RowKit Go.Sort
set_option maxRecDepth 100000
attribute [local go_sem] opLow opUpon opLow2 opUpon2

theorem inr1 {lo hi x : Int} : inr_ lo hi [x] = decide (lo ≤ x ∧ x ≤ hi) := by
  unfold inr_; simp [Bool.decide_and]
theorem inr2 {lo hi x y : Int} : inr_ lo hi [x, y] = decide ((lo ≤ x ∧ x ≤ hi) ∧ (lo ≤ y ∧ y ≤ hi)) := by
  unfold inr_; simp [Bool.decide_and]
theorem cells1' {w : World} {g : Nat} {x : Int} {t : TypeId} (h : Bk w g #[.int .i64 x] t) : ∀ (i : Nat) (z : Int), [x][i]? = some z → w.cell? ⟨g, i, none⟩ = some (.int .i64 z) := fun i z hi => by
  match i, hi with
  | 0, hi => cases hi; exact h.cell 0 rfl
  | i + 1, hi => simp at hi
theorem cells2' {w : World} {g : Nat} {x y : Int} {t : TypeId} (h : Bk w g #[.int .i64 x, .int .i64 y] t) : ∀ (i : Nat) (z : Int), [x, y][i]? = some z → w.cell? ⟨g, i, none⟩ = some (.int .i64 z) := fun i z hi => by
  match i, hi with
  | 0, hi => cases hi; exact h.cell 0 rfl
  | 1, hi => cases hi; exact h.cell 1 rfl
  | i + 2, hi => simp at hi
set_option maxHeartbeats 4000000 in
theorem bvalid_any (b : Bdy) (w : World) : Calls Tryz.prog 109 #[Bv b] w fun e w' => e = .returned (.bool (decide (okBdy b))) ∧ Below w.heap.size w w' := by
  obtain ⟨v, hv⟩ : ∃ v, decide (okBdy b) = v := ⟨_, rfl⟩
  have HV := Lib.hid hv
  rw [hv]
  clear hv
  obtain ⟨id, x, y, vx, vy, bw, bh, r, f⟩ := b
  unfold Bv
  simp only
  go_enter Tryz.func109, Tryz.ntmps109
  go_wp2_with fail
  have B1 : Bk ((w.alloc (.cells #[.int .i64 id, .int .i64 x, .int .i64 y, .int .i64 vx, .int .i64 vy, .int .i64 bw, .int .i64 bh, .bool r, .bool f] 133)).alloc (.cells #[.int .i64 id] 3)) w.heap.size #[.int .i64 id, .int .i64 x, .int .i64 y, .int .i64 vx, .int .i64 vy, .int .i64 bw, .int .i64 bh, .bool r, .bool f] 133 := (Bk.made _ _ _).alloc _
  have B2 : Bk ((w.alloc (.cells #[.int .i64 id, .int .i64 x, .int .i64 y, .int .i64 vx, .int .i64 vy, .int .i64 bw, .int .i64 bh, .bool r, .bool f] 133)).alloc (.cells #[.int .i64 id] 3)) (w.heap.size + 1) #[.int .i64 id] 3 := Bk.at_ (by simp)
  have hgg : Below w.heap.size w ((w.alloc (.cells #[.int .i64 id, .int .i64 x, .int .i64 y, .int .i64 vx, .int .i64 vy, .int .i64 bw, .int .i64 bh, .bool r, .bool f] 133)).alloc (.cells #[.int .i64 id] 3)) := by go_grown
  refine Calls.mono (range_any 0 65536 [id] _ _ _ (by simp) (cells1' B2)) ?_
  rw [inr1]
  rintro e W1 ⟨rfl, hb⟩
  replace B1 := B1.below hb
  obtain ⟨hgg, hs⟩ := below_cc (w := w) hb hgg
  clear hb B2
  by_cases hp : 0 ≤ id ∧ id ≤ 65536
  · rw [decide_eq_true hp]
    have H0 := Lib.hid hp
    clear hp
    have c0 := B1.cell (v := .int .i64 id) 0 rfl
    have c1 := B1.cell (v := .int .i64 x) 1 rfl
    have c2 := B1.cell (v := .int .i64 y) 2 rfl
    have c3 := B1.cell (v := .int .i64 vx) 3 rfl
    have c4 := B1.cell (v := .int .i64 vy) 4 rfl
    have c5 := B1.cell (v := .int .i64 bw) 5 rfl
    have c6 := B1.cell (v := .int .i64 bh) 6 rfl
    have c7 := B1.cell (v := .bool r) 7 rfl
    have c8 := B1.cell (v := .bool f) 8 rfl
    go_wp2_with fail
    have hd := (Below.refl W1.heap.size W1).alloc (Nat.le_refl _) (.cells #[.int .i64 x, .int .i64 y] 3)
    replace B1 := B1.below hd
    obtain ⟨hgg, hs⟩ := below_cc (w := w) hd hgg
    have B2 : Bk (W1.alloc (.cells #[.int .i64 x, .int .i64 y] 3)) W1.heap.size #[.int .i64 x, .int .i64 y] 3 := Bk.made _ _ _
    refine Calls.mono (range_any (-1048576) 1048576 [x, y] _ _ _ (by simp) (cells2' B2)) ?_
    rw [inr2]
    rintro e W2 ⟨rfl, hb⟩
    replace B1 := B1.below hb
    obtain ⟨hgg, hs⟩ := below_cc (w := w) hb hgg
    clear hb B2
    clear c0 c1 c2 c3 c4 c5 c6 c7 c8 hd
    by_cases hp : (-1048576 ≤ x ∧ x ≤ 1048576) ∧ (-1048576 ≤ y ∧ y ≤ 1048576)
    · rw [decide_eq_true hp]
      have H1 := Lib.hid hp
      clear hp
      have c0 := B1.cell (v := .int .i64 id) 0 rfl
      have c1 := B1.cell (v := .int .i64 x) 1 rfl
      have c2 := B1.cell (v := .int .i64 y) 2 rfl
      have c3 := B1.cell (v := .int .i64 vx) 3 rfl
      have c4 := B1.cell (v := .int .i64 vy) 4 rfl
      have c5 := B1.cell (v := .int .i64 bw) 5 rfl
      have c6 := B1.cell (v := .int .i64 bh) 6 rfl
      have c7 := B1.cell (v := .bool r) 7 rfl
      have c8 := B1.cell (v := .bool f) 8 rfl
      go_wp2_with fail
      have hd := (Below.refl W2.heap.size W2).alloc (Nat.le_refl _) (.cells #[.int .i64 vx, .int .i64 vy] 3)
      replace B1 := B1.below hd
      obtain ⟨hgg, hs⟩ := below_cc (w := w) hd hgg
      have B2 : Bk (W2.alloc (.cells #[.int .i64 vx, .int .i64 vy] 3)) W2.heap.size #[.int .i64 vx, .int .i64 vy] 3 := Bk.made _ _ _
      refine Calls.mono (range_any (-4096) 4096 [vx, vy] _ _ _ (by simp) (cells2' B2)) ?_
      rw [inr2]
      rintro e W3 ⟨rfl, hb⟩
      replace B1 := B1.below hb
      obtain ⟨hgg, hs⟩ := below_cc (w := w) hb hgg
      clear hb B2
      clear c0 c1 c2 c3 c4 c5 c6 c7 c8 hd
      by_cases hp : (-4096 ≤ vx ∧ vx ≤ 4096) ∧ (-4096 ≤ vy ∧ vy ≤ 4096)
      · rw [decide_eq_true hp]
        have H2 := Lib.hid hp
        clear hp
        have c0 := B1.cell (v := .int .i64 id) 0 rfl
        have c1 := B1.cell (v := .int .i64 x) 1 rfl
        have c2 := B1.cell (v := .int .i64 y) 2 rfl
        have c3 := B1.cell (v := .int .i64 vx) 3 rfl
        have c4 := B1.cell (v := .int .i64 vy) 4 rfl
        have c5 := B1.cell (v := .int .i64 bw) 5 rfl
        have c6 := B1.cell (v := .int .i64 bh) 6 rfl
        have c7 := B1.cell (v := .bool r) 7 rfl
        have c8 := B1.cell (v := .bool f) 8 rfl
        go_wp2_with fail
        have hd := (Below.refl W3.heap.size W3).alloc (Nat.le_refl _) (.cells #[.int .i64 bw, .int .i64 bh] 3)
        replace B1 := B1.below hd
        obtain ⟨hgg, hs⟩ := below_cc (w := w) hd hgg
        have B2 : Bk (W3.alloc (.cells #[.int .i64 bw, .int .i64 bh] 3)) W3.heap.size #[.int .i64 bw, .int .i64 bh] 3 := Bk.made _ _ _
        refine Calls.mono (range_any 1 16384 [bw, bh] _ _ _ (by simp) (cells2' B2)) ?_
        rw [inr2]
        rintro e W4 ⟨rfl, hb⟩
        replace B1 := B1.below hb
        obtain ⟨hgg, hs⟩ := below_cc (w := w) hb hgg
        clear hb B2
        clear c0 c1 c2 c3 c4 c5 c6 c7 c8 hd
        by_cases hp : (1 ≤ bw ∧ bw ≤ 16384) ∧ (1 ≤ bh ∧ bh ≤ 16384)
        · rw [decide_eq_true hp]
          have H3 := Lib.hid hp
          clear hp
          have c0 := B1.cell (v := .int .i64 id) 0 rfl
          have c1 := B1.cell (v := .int .i64 x) 1 rfl
          have c2 := B1.cell (v := .int .i64 y) 2 rfl
          have c3 := B1.cell (v := .int .i64 vx) 3 rfl
          have c4 := B1.cell (v := .int .i64 vy) 4 rfl
          have c5 := B1.cell (v := .int .i64 bw) 5 rfl
          have c6 := B1.cell (v := .int .i64 bh) 6 rfl
          have c7 := B1.cell (v := .bool r) 7 rfl
          have c8 := B1.cell (v := .bool f) 8 rfl
          have HGG := Lib.hid hgg
          clear hs hgg
          by_cases hok : (r = true → bw = bh) ∧ (f = true → vx = 0 ∧ vy = 0)
          · obtain rfl : v = true := by rw [← HV.out]; exact decide_eq_true ⟨H0.out, H1.out, H2.out, H3.out, hok.1, hok.2⟩
            obtain ⟨k1, k2⟩ := hok
            cases r <;> cases f
            · clear k1 k2
              go_wp2
              go_returns
              exact ⟨rfl, HGG.out⟩
            · obtain ⟨rfl, rfl⟩ := k2 rfl
              clear k1 k2
              go_wp2
              go_returns
              exact ⟨rfl, HGG.out⟩
            · obtain rfl := k1 rfl
              clear k1 k2
              go_wp2
              go_returns
              exact ⟨rfl, HGG.out⟩
            · obtain rfl := k1 rfl
              obtain ⟨rfl, rfl⟩ := k2 rfl
              clear k1 k2
              go_wp2
              go_returns
              exact ⟨rfl, HGG.out⟩
          · obtain rfl : v = false := by rw [← HV.out]; exact decide_eq_false (fun hk => hok ⟨hk.2.2.2.2.1, hk.2.2.2.2.2⟩)
            by_cases k1 : r = true → bw = bh
            · have k2 : f = true ∧ ¬ (vx = 0 ∧ vy = 0) := by
                refine Classical.byContradiction fun hn => hok ⟨k1, fun hf => Classical.byContradiction fun h0 => hn ⟨hf, h0⟩⟩
              obtain ⟨rfl, k3⟩ := k2
              clear hok
              have k4 : (vx == 0 && vy == 0) = false := by
                cases hb : (vx == 0 && vy == 0)
                · rfl
                · simp at hb; exact absurd hb k3
              have k5 : vx = 0 → ¬ vy = 0 := fun h1 h2 => k3 ⟨h1, h2⟩
              clear k3
              cases r
              · clear k1
                go_wp2
                all_goals (first | (go_returns; exact ⟨by first | rfl | (simp; omega), HGG.out⟩) | trace_state)
              · obtain rfl := k1 rfl
                clear k1
                go_wp2
                all_goals (first | (go_returns; exact ⟨by first | rfl | (simp; omega), HGG.out⟩) | trace_state)
            · have k2 : r = true ∧ ¬ bw = bh := Classical.byContradiction fun hn => k1 fun hr => Classical.byContradiction fun h0 => hn ⟨hr, h0⟩
              obtain ⟨rfl, k3⟩ := k2
              clear hok k1
              have k4 : (bw == bh) = false := by simpa using k3
              go_wp2
              go_returns
              exact ⟨rfl, HGG.out⟩
        · rw [decide_eq_false hp]
          have HN := Lib.hid hp
          clear hp
          obtain rfl : v = false := by rw [← HV.out]; exact decide_eq_false (fun hk => HN.out hk.2.2.2.1)
          go_wp2
          go_returns
          exact ⟨rfl, hgg⟩
      · rw [decide_eq_false hp]
        have HN := Lib.hid hp
        clear hp
        obtain rfl : v = false := by rw [← HV.out]; exact decide_eq_false (fun hk => HN.out hk.2.2.1)
        go_wp2
        go_returns
        exact ⟨rfl, hgg⟩
    · rw [decide_eq_false hp]
      have HN := Lib.hid hp
      clear hp
      obtain rfl : v = false := by rw [← HV.out]; exact decide_eq_false (fun hk => HN.out hk.2.1)
      go_wp2
      go_returns
      exact ⟨rfl, hgg⟩
  · rw [decide_eq_false hp]
    have HN := Lib.hid hp
    clear hp
    obtain rfl : v = false := by rw [← HV.out]; exact decide_eq_false (fun hk => HN.out hk.1)
    go_wp2
    go_returns
    exact ⟨rfl, hgg⟩
end Go.Proofs.YtlcjkomfjgddeaaGreatDoor
namespace Go.Proofs.YtlcjkomfjgddeaaGreatDoor
open Go Go.RowKit Go.Sort
set_option maxRecDepth 100000
attribute [local go_sem] opLow opUpon opLow2 opUpon2

def sq (x : Int) : Int := x * x
def roomI (a b : Bdy) (dx dy : Int) : Int :=
  if a.round = true then (if b.round = true then dx * dx + dy * dy - (a.w + b.w) * (a.w + b.w) else max (dx - b.w) 0 * max (dx - b.w) 0 + max (dy - b.h) 0 * max (dy - b.h) 0 - a.w * a.w)
  else if b.round = true then max (dx - a.w) 0 * max (dx - a.w) 0 + max (dy - a.h) 0 * max (dy - a.h) 0 - b.w * b.w
  else max (dx - a.w - b.w) (dy - a.h - b.h)
theorem sqr_bd {x B : Int} (h : -B ≤ x ∧ x ≤ B) : 0 ≤ x * x ∧ x * x ≤ B * B := by
  refine ⟨by rcases Int.le_total 0 x with h0 | h0; exact Int.mul_nonneg h0 h0; exact Int.mul_nonneg_of_nonpos_of_nonpos h0 h0, ?_⟩
  rw [← Int.natAbs_mul_self, ← Int.natAbs_mul_self (a := B)]
  have := Nat.mul_le_mul (show x.natAbs ≤ B.natAbs by omega) (show x.natAbs ≤ B.natAbs by omega)
  omega
set_option maxHeartbeats 2000000 in
theorem boxes_any (a b : Bdy) (dx dy : Int) (ha : okBdy a) (hb : okBdy b) (hx : 0 ≤ dx ∧ dx ≤ 2097152) (hy : 0 ≤ dy ∧ dy ≤ 2097152) (w : World) :
    Calls Tryz.prog 162 #[Bv a, Bv b, .int .i64 dx, .int .i64 dy] w fun e w' => e = .returned (.int .i64 (max (dx - a.w - b.w) (dy - a.h - b.h))) ∧ Below w.heap.size w w' := by
  obtain ⟨-, -, -, ⟨aw, ah⟩, -⟩ := ha
  obtain ⟨-, -, -, ⟨bw, bh⟩, -⟩ := hb
  obtain ⟨ai, ax, ay, avx, avy, aw', ah', ar, af⟩ := a
  obtain ⟨bi, bx, by', bvx, bvy, bw', bh', br, bf⟩ := b
  unfold Bv
  simp only at *
  go_enter Tryz.func162, Tryz.ntmps162
  go_wp2_with (refine wpList_max2 _ rfl _ _ _ rfl _ _ _ rfl rfl ?_)
  go_returns
  exact ⟨rfl, by go_grown⟩
set_option maxHeartbeats 4000000 in
theorem boxCircle_any (a b : Bdy) (dx dy : Int) (ha : okBdy a) (hb : okBdy b) (hx : 0 ≤ dx ∧ dx ≤ 2097152) (hy : 0 ≤ dy ∧ dy ≤ 2097152) (w : World) :
    Calls Tryz.prog 163 #[Bv a, Bv b, .int .i64 dx, .int .i64 dy] w fun e w' => e = .returned (.int .i64 (max (dx - a.w) 0 * max (dx - a.w) 0 + max (dy - a.h) 0 * max (dy - a.h) 0 - b.w * b.w)) ∧ Below w.heap.size w w' := by
  obtain ⟨-, -, -, ⟨aw, ah⟩, -⟩ := ha
  obtain ⟨-, -, -, ⟨bw, bh⟩, -⟩ := hb
  obtain ⟨ai, ax, ay, avx, avy, aw', ah', ar, af⟩ := a
  obtain ⟨bi, bx, by', bvx, bvy, bw', bh', br, bf⟩ := b
  unfold Bv
  simp only at *
  obtain ⟨p, hp⟩ : ∃ p, dx - aw' = p := ⟨_, rfl⟩
  obtain ⟨q, hq⟩ : ∃ q, dy - ah' = q := ⟨_, rfl⟩
  obtain ⟨P, hP⟩ : ∃ P, max p 0 = P := ⟨_, rfl⟩
  obtain ⟨Q, hQ⟩ : ∃ Q, max q 0 = Q := ⟨_, rfl⟩
  have bP : -4194304 ≤ P ∧ P ≤ 4194304 := by omega
  have bQ : -4194304 ≤ Q ∧ Q ≤ 4194304 := by omega
  have sP := sqr_bd bP
  have sQ := sqr_bd bQ
  have sB := sqr_bd (x := bw') (B := 16384) (by omega)
  have v1 : IntKind.i64.wrap p = p := by rw [IntKind.wrap_i64]; omega
  have v2 : IntKind.i64.wrap q = q := by rw [IntKind.wrap_i64]; omega
  obtain ⟨S, hS⟩ : ∃ S, P * P + Q * Q = S := ⟨_, rfl⟩
  obtain ⟨M, hM⟩ : ∃ M, bw' * bw' = M := ⟨_, rfl⟩
  have SQ := fun V => square_any P Q (by omega) (by omega) V
  have v3 : IntKind.i64.wrap M = M := by rw [IntKind.wrap_i64]; omega
  have v4 : IntKind.i64.wrap (S - M) = S - M := by rw [IntKind.wrap_i64]; omega
  rw [hp, hq, hP, hQ, hS, hM]
  rw [hS] at SQ
  have HPQ := Lib.hid (And.intro hP hQ)
  clear hP hQ hS sP sQ sB bP bQ
  go_enter Tryz.func163, Tryz.ntmps163
  go_wp2
  refine wp_name (fun V => Bk V w.heap.size #[.int .i64 ai, .int .i64 ax, .int .i64 ay, .int .i64 avx, .int .i64 avy, .int .i64 aw', .int .i64 ah', .bool ar, .bool af] 133 ∧ Bk V (w.heap.size + 1) #[.int .i64 bi, .int .i64 bx, .int .i64 by', .int .i64 bvx, .int .i64 bvy, .int .i64 bw', .int .i64 bh', .bool br, .bool bf] 133 ∧ Below w.heap.size w V) ⟨(Bk.made _ _ _).alloc _, Bk.at_ (by simp), by go_grown⟩ ?_
  rintro V ⟨B1, B2, hgg⟩
  have c1 := cell_regrown (B1.cell (v := .int .i64 aw') 5 rfl)
  have c2 := cell_regrown (B1.cell (v := .int .i64 ah') 6 rfl)
  have c3 := cell_regrown (B2.cell (v := .int .i64 bw') 5 rfl)
  refine wp_region_low2 noPosts 17 (by kernel_rfl) (by kernel_rfl) ?_
  simp only [List.take, List.drop]
  iterate 4 (refine low2_step (fun K hK => ?_); go_simp; first | (refine hK _ ?_; clear hK K) | (apply Exists.intro; refine ⟨fun p => ?_, hK _ ?_⟩; clear hK K))
  refine low2_max _ _ _ (by rfl) rfl .i64 p 0 rfl rfl ?_
  rw [HPQ.out.1]
  iterate 4 (refine low2_step (fun K hK => ?_); go_simp; first | (refine hK _ ?_; clear hK K) | (apply Exists.intro; refine ⟨fun p => ?_, hK _ ?_⟩; clear hK K))
  refine low2_max _ _ _ (by rfl) rfl .i64 q 0 rfl rfl ?_
  rw [HPQ.out.2]
  refine low2_reads 166 #[.int .i64 P, .int .i64 Q] (.int .i64 S) (by rfl) (fun w => by go_simp; try rfl) rfl (by kernel_rfl) (fun V1 hV hG => SQ V1) ?_
  iterate 6 (refine low2_step (fun K hK => ?_); go_simp; first | (refine hK _ ?_; clear hK K) | (apply Exists.intro; refine ⟨fun p => ?_, hK _ ?_⟩; clear hK K))
  refine low2_nil ?_
  intro W2 hC
  obtain ⟨hgg, hs⟩ := below_cc (w := w) hC.1 hgg
  clear hC c1 c2 c3
  go_wp2
  go_returns
  exact ⟨rfl, hgg⟩
set_option maxHeartbeats 4000000 in
theorem circles_any (a b : Bdy) (dx dy : Int) (ha : okBdy a) (hb : okBdy b) (hx : 0 ≤ dx ∧ dx ≤ 2097152) (hy : 0 ≤ dy ∧ dy ≤ 2097152) (w : World) :
    Calls Tryz.prog 165 #[Bv a, Bv b, .int .i64 dx, .int .i64 dy] w fun e w' => e = .returned (.int .i64 (dx * dx + dy * dy - (a.w + b.w) * (a.w + b.w))) ∧ Below w.heap.size w w' := by
  obtain ⟨-, -, -, ⟨aw, ah⟩, -⟩ := ha
  obtain ⟨-, -, -, ⟨bw, bh⟩, -⟩ := hb
  obtain ⟨ai, ax, ay, avx, avy, aw', ah', ar, af⟩ := a
  obtain ⟨bi, bx, by', bvx, bvy, bw', bh', br, bf⟩ := b
  unfold Bv
  simp only at *
  obtain ⟨p, hp⟩ : ∃ p, aw' + bw' = p := ⟨_, rfl⟩
  have bp : 0 ≤ p ∧ p ≤ 32768 := by omega
  have sP := sqr_bd (x := dx) (B := 2097152) (by omega)
  have sQ := sqr_bd (x := dy) (B := 2097152) (by omega)
  have sB := sqr_bd (x := p) (B := 32768) (by omega)
  have v1 : IntKind.i64.wrap p = p := by rw [IntKind.wrap_i64]; omega
  obtain ⟨S, hS⟩ : ∃ S, dx * dx + dy * dy = S := ⟨_, rfl⟩
  obtain ⟨M, hM⟩ : ∃ M, p * p = M := ⟨_, rfl⟩
  have SQ := fun V => square_any dx dy (by omega) (by omega) V
  have v3 : IntKind.i64.wrap M = M := by rw [IntKind.wrap_i64]; omega
  have v4 : IntKind.i64.wrap (S - M) = S - M := by rw [IntKind.wrap_i64]; omega
  rw [hp, hS, hM]
  rw [hS] at SQ
  clear hS sP sQ sB bp
  go_enter Tryz.func165, Tryz.ntmps165
  go_wp2
  refine wp_name (fun V => Bk V w.heap.size #[.int .i64 ai, .int .i64 ax, .int .i64 ay, .int .i64 avx, .int .i64 avy, .int .i64 aw', .int .i64 ah', .bool ar, .bool af] 133 ∧ Bk V (w.heap.size + 1) #[.int .i64 bi, .int .i64 bx, .int .i64 by', .int .i64 bvx, .int .i64 bvy, .int .i64 bw', .int .i64 bh', .bool br, .bool bf] 133 ∧ Below w.heap.size w V) ⟨(Bk.made _ _ _).alloc _, Bk.at_ (by simp), by go_grown⟩ ?_
  rintro V ⟨B1, B2, hgg⟩
  have c1 := cell_regrown (B1.cell (v := .int .i64 aw') 5 rfl)
  have c3 := cell_regrown (B2.cell (v := .int .i64 bw') 5 rfl)
  refine wp_region_low2 noPosts 15 (by kernel_rfl) (by kernel_rfl) ?_
  simp only [List.take, List.drop]
  iterate 2 (refine low2_step (fun K hK => ?_); go_simp; first | (refine hK _ ?_; clear hK K) | (apply Exists.intro; refine ⟨fun p => ?_, hK _ ?_⟩; clear hK K))
  refine low2_reads 166 #[.int .i64 dx, .int .i64 dy] (.int .i64 S) (by rfl) (fun w => by go_simp; try rfl) rfl (by kernel_rfl) (fun V1 hV hG => SQ V1) ?_
  iterate 12 (refine low2_step (fun K hK => ?_); go_simp; first | (refine hK _ ?_; clear hK K) | (apply Exists.intro; refine ⟨fun p => ?_, hK _ ?_⟩; clear hK K))
  refine low2_nil ?_
  intro W2 hC
  obtain ⟨hgg, hs⟩ := below_cc (w := w) hC.1 hgg
  clear hC c1 c3
  go_wp2
  go_returns
  exact ⟨rfl, hgg⟩
theorem circleBox_any (a b : Bdy) (dx dy : Int) (ha : okBdy a) (hb : okBdy b) (hx : 0 ≤ dx ∧ dx ≤ 2097152) (hy : 0 ≤ dy ∧ dy ≤ 2097152) (w : World) :
    Calls Tryz.prog 164 #[Bv a, Bv b, .int .i64 dx, .int .i64 dy] w fun e w' => e = .returned (.int .i64 (max (dx - b.w) 0 * max (dx - b.w) 0 + max (dy - b.h) 0 * max (dy - b.h) 0 - a.w * a.w)) ∧ Below w.heap.size w w' := by
  obtain ⟨z, hz⟩ : ∃ z, max (dx - b.w) 0 * max (dx - b.w) 0 + max (dy - b.h) 0 * max (dy - b.h) 0 - a.w * a.w = z := ⟨_, rfl⟩
  have BC := fun V => boxCircle_any b a dx dy hb ha hx hy V
  rw [hz] at BC ⊢
  have HBC := Lib.hid BC
  clear hz BC ha hb hx hy
  unfold Bv at *
  go_enter Tryz.func164, Tryz.ntmps164
  go_wp2_with fail
  refine Calls.mono (HBC.out _) ?_
  rintro e W1 ⟨rfl, hb1⟩
  obtain ⟨hgg, hs⟩ := below_cc (w := w) hb1 (by go_grown)
  clear hb1
  go_wp2
  go_returns
  exact ⟨rfl, hgg⟩
/-- the table of the rooms -/
def RM (w : World) : Prop := w.cell? ⟨1, 0, none⟩ = some (.func (.func 162) #[] #[]) ∧ w.cell? ⟨1, 1, none⟩ = some (.func (.func 163) #[] #[]) ∧ w.cell? ⟨1, 2, none⟩ = some (.func (.func 164) #[] #[]) ∧ w.cell? ⟨1, 3, none⟩ = some (.func (.func 165) #[] #[])
theorem RM.below {w w' : World} (h : RM w) (hb : Below w.heap.size w w') : RM w' := ⟨cell_later hb h.1, cell_later hb h.2.1, cell_later hb h.2.2.1, cell_later hb h.2.2.2⟩
end Go.Proofs.YtlcjkomfjgddeaaGreatDoor
namespace Go.Proofs.YtlcjkomfjgddeaaGreatDoor
open Go Go.RowKit Go.Sort
set_option maxRecDepth 100000
attribute [local go_sem] opLow opUpon opLow2 opUpon2

def absI (x : Int) : Int := max x (-x)
def farI (a b : Bdy) : Int × Bool := if okBdy a ∧ okBdy b then (roomI a b (absI (a.x - b.x)) (absI (a.y - b.y)), true) else (0, false)
/-- shape.Overlap -/
def overI (a b : Bdy) : Bool := (farI a b).2 && decide ((farI a b).1 < 0)
set_option maxHeartbeats 8000000 in
theorem far_any (a b : Bdy) (w : World) (hM : RM w) : Calls Tryz.prog 142 #[Bv a, Bv b] w fun e w' => e = .returned (.tuple #[.int .i64 (farI a b).1, .bool (farI a b).2]) ∧ Below w.heap.size w w' := by
  obtain ⟨r1, hr1⟩ : ∃ r, (farI a b).1 = r := ⟨_, rfl⟩
  obtain ⟨r2, hr2⟩ : ∃ r, (farI a b).2 = r := ⟨_, rfl⟩
  have HF := Lib.hid (And.intro hr1 hr2)
  rw [hr1, hr2]
  clear hr1 hr2
  have hd0 : Below w.heap.size w ((w.alloc (.cells #[.int .i64 a.id, .int .i64 a.x, .int .i64 a.y, .int .i64 a.vx, .int .i64 a.vy, .int .i64 a.w, .int .i64 a.h, .bool a.round, .bool a.fixed] 133)).alloc (.cells #[.int .i64 b.id, .int .i64 b.x, .int .i64 b.y, .int .i64 b.vx, .int .i64 b.vy, .int .i64 b.w, .int .i64 b.h, .bool b.round, .bool b.fixed] 133)) := by go_grown
  obtain ⟨u, hu⟩ : ∃ u, decide (okBdy a) = u := ⟨_, rfl⟩
  obtain ⟨v, hv⟩ : ∃ v, decide (okBdy b) = v := ⟨_, rfl⟩
  have HU := Lib.hid (And.intro hu hv)
  clear hu hv
  have B1 : Bk ((w.alloc (.cells #[.int .i64 a.id, .int .i64 a.x, .int .i64 a.y, .int .i64 a.vx, .int .i64 a.vy, .int .i64 a.w, .int .i64 a.h, .bool a.round, .bool a.fixed] 133)).alloc (.cells #[.int .i64 b.id, .int .i64 b.x, .int .i64 b.y, .int .i64 b.vx, .int .i64 b.vy, .int .i64 b.w, .int .i64 b.h, .bool b.round, .bool b.fixed] 133)) w.heap.size #[.int .i64 a.id, .int .i64 a.x, .int .i64 a.y, .int .i64 a.vx, .int .i64 a.vy, .int .i64 a.w, .int .i64 a.h, .bool a.round, .bool a.fixed] 133 := (Bk.made _ _ _).alloc _
  have B2 : Bk ((w.alloc (.cells #[.int .i64 a.id, .int .i64 a.x, .int .i64 a.y, .int .i64 a.vx, .int .i64 a.vy, .int .i64 a.w, .int .i64 a.h, .bool a.round, .bool a.fixed] 133)).alloc (.cells #[.int .i64 b.id, .int .i64 b.x, .int .i64 b.y, .int .i64 b.vx, .int .i64 b.vy, .int .i64 b.w, .int .i64 b.h, .bool b.round, .bool b.fixed] 133)) (w.heap.size + 1) #[.int .i64 b.id, .int .i64 b.x, .int .i64 b.y, .int .i64 b.vx, .int .i64 b.vy, .int .i64 b.w, .int .i64 b.h, .bool b.round, .bool b.fixed] 133 := Bk.at_ (by simp)
  unfold Bv
  go_enter Tryz.func142, Tryz.ntmps142
  go_wp2_with fail
  refine Calls.mono (bvalid_any a _) ?_
  rw [HU.out.1]
  rintro e W1 ⟨rfl, hb⟩
  replace B1 := B1.below hb
  replace B2 := B2.below hb
  obtain ⟨hgg, hs⟩ := below_cc (w := w) hb hd0
  clear hb hd0
  cases u
  · obtain ⟨rfl, rfl⟩ : r1 = 0 ∧ r2 = false := by
      rw [← HF.out.1, ← HF.out.2]
      unfold farI
      rw [if_neg (fun h => of_decide_eq_false HU.out.1 h.1)]
      exact ⟨rfl, rfl⟩
    go_wp2
    go_returns
    exact ⟨rfl, hgg⟩
  · have pb0 := B2.cell (v := .int .i64 b.id) 0 rfl
    have pb1 := B2.cell (v := .int .i64 b.x) 1 rfl
    have pb2 := B2.cell (v := .int .i64 b.y) 2 rfl
    have pb3 := B2.cell (v := .int .i64 b.vx) 3 rfl
    have pb4 := B2.cell (v := .int .i64 b.vy) 4 rfl
    have pb5 := B2.cell (v := .int .i64 b.w) 5 rfl
    have pb6 := B2.cell (v := .int .i64 b.h) 6 rfl
    have pb7 := B2.cell (v := .bool b.round) 7 rfl
    have pb8 := B2.cell (v := .bool b.fixed) 8 rfl
    go_wp2_with fail
    refine Calls.mono (bvalid_any b _) ?_
    rw [HU.out.2]
    rintro e W2 ⟨rfl, hb⟩
    replace B1 := B1.below hb
    replace B2 := B2.below hb
    obtain ⟨hgg, hs⟩ := below_cc (w := w) hb hgg
    clear hb pb0 pb1 pb2 pb3 pb4 pb5 pb6 pb7 pb8
    cases v
    · obtain ⟨rfl, rfl⟩ : r1 = 0 ∧ r2 = false := by
        rw [← HF.out.1, ← HF.out.2]
        unfold farI
        rw [if_neg (fun h => of_decide_eq_false HU.out.2 h.2)]
        exact ⟨rfl, rfl⟩
      go_wp2
      go_returns
      exact ⟨rfl, hgg⟩
    · have oa : okBdy a := of_decide_eq_true HU.out.1
      have ob : okBdy b := of_decide_eq_true HU.out.2
      have hx : -2097152 ≤ a.x - b.x ∧ a.x - b.x ≤ 2097152 := by have := oa.2.1.1; have := ob.2.1.1; omega
      have hy : -2097152 ≤ a.y - b.y ∧ a.y - b.y ≤ 2097152 := by have := oa.2.1.2; have := ob.2.1.2; omega
      obtain ⟨ddx, hdx⟩ : ∃ d, a.x - b.x = d := ⟨_, rfl⟩
      obtain ⟨ddy, hdy⟩ : ∃ d, a.y - b.y = d := ⟨_, rfl⟩
      obtain ⟨DX, hDX⟩ : ∃ d, max ddx (-ddx) = d := ⟨_, rfl⟩
      obtain ⟨DY, hDY⟩ : ∃ d, max ddy (-ddy) = d := ⟨_, rfl⟩
      have hr : r1 = roomI a b DX DY ∧ r2 = true := by
        rw [← HF.out.1, ← HF.out.2]
        unfold farI absI
        rw [if_pos ⟨oa, ob⟩, hdx, hdy, hDX, hDY]
        exact ⟨rfl, rfl⟩
      obtain ⟨hr1, rfl⟩ := hr
      have AX := fun V => shabs_any ddx (by omega) V
      have AY := fun V => shabs_any ddy (by omega) V
      rw [hDX] at AX
      rw [hDY] at AY
      rw [hdx] at hx
      rw [hdy] at hy
      have w1 : IntKind.i64.wrap (a.x - b.x) = ddx := by rw [hdx, IntKind.wrap_i64]; omega
      have w2 : IntKind.i64.wrap (a.y - b.y) = ddy := by rw [hdy, IntKind.wrap_i64]; omega
      have bX : 0 ≤ DX ∧ DX ≤ 2097152 := by omega
      have bY : 0 ≤ DY ∧ DY ≤ 2097152 := by omega
      have KA := fun V => kind_any a V
      have KB := fun V => kind_any b V
      have hMM := hM.below hgg
      have m0 := cell_regrown hMM.1
      have m1 := cell_regrown hMM.2.1
      have m2 := cell_regrown hMM.2.2.1
      have m3 := cell_regrown hMM.2.2.2
      clear hdx hdy hDX hDY hx hy hM
      have ca0 := cell_regrown (B1.cell (v := .int .i64 a.id) 0 rfl)
      have ca1 := cell_regrown (B1.cell (v := .int .i64 a.x) 1 rfl)
      have ca2 := cell_regrown (B1.cell (v := .int .i64 a.y) 2 rfl)
      have ca3 := cell_regrown (B1.cell (v := .int .i64 a.vx) 3 rfl)
      have ca4 := cell_regrown (B1.cell (v := .int .i64 a.vy) 4 rfl)
      have ca5 := cell_regrown (B1.cell (v := .int .i64 a.w) 5 rfl)
      have ca6 := cell_regrown (B1.cell (v := .int .i64 a.h) 6 rfl)
      have ca7 := cell_regrown (B1.cell (v := .bool a.round) 7 rfl)
      have ca8 := cell_regrown (B1.cell (v := .bool a.fixed) 8 rfl)
      have cb0 := cell_regrown (B2.cell (v := .int .i64 b.id) 0 rfl)
      have cb1 := cell_regrown (B2.cell (v := .int .i64 b.x) 1 rfl)
      have cb2 := cell_regrown (B2.cell (v := .int .i64 b.y) 2 rfl)
      have cb3 := cell_regrown (B2.cell (v := .int .i64 b.vx) 3 rfl)
      have cb4 := cell_regrown (B2.cell (v := .int .i64 b.vy) 4 rfl)
      have cb5 := cell_regrown (B2.cell (v := .int .i64 b.w) 5 rfl)
      have cb6 := cell_regrown (B2.cell (v := .int .i64 b.h) 6 rfl)
      have cb7 := cell_regrown (B2.cell (v := .bool b.round) 7 rfl)
      have cb8 := cell_regrown (B2.cell (v := .bool b.fixed) 8 rfl)
      go_wp2
      rcases hra : a.round with _ | _ <;> rcases hrb : b.round with _ | _
      · rw [hra] at KA
        rw [hrb] at KB
        simp only [Bool.false_eq_true, if_false, if_true] at KA KB
        have RR := fun V => boxes_any a b DX DY oa ob bX bY V
        have hrr : r1 = _ := hr1
        unfold roomI at hrr
        rw [hra, hrb] at hrr
        simp only [Bool.false_eq_true, if_false, if_true] at hrr
        rw [← hrr] at RR
        have HK := Lib.hid (And.intro KA (And.intro KB (And.intro RR (And.intro AX AY))))
        clear hrr hr1 RR KA KB AX AY oa ob bX bY
        refine wp_region_low2 noPosts 26 (by kernel_rfl) (by kernel_rfl) ?_
        simp only [List.take, List.drop]
        iterate 1 (refine low2_step (fun K hK => ?_); go_simp; first | (refine hK _ ?_; clear hK K) | (apply Exists.intro; refine ⟨fun p => ?_, hK _ ?_⟩; clear hK K))
        refine low2_reads 143 #[Bv a] (.int .i64 0) (by rfl) (fun w => by unfold Bv; go_simp; try rfl) rfl (by kernel_rfl) (fun V1 hV hG => HK.out.1 V1) ?_
        iterate 1 (refine low2_step (fun K hK => ?_); go_simp; first | (refine hK _ ?_; clear hK K) | (apply Exists.intro; refine ⟨fun p => ?_, hK _ ?_⟩; clear hK K))
        refine low2_reads 143 #[Bv b] (.int .i64 0) (by rfl) (fun w => by unfold Bv; go_simp; try rfl) rfl (by kernel_rfl) (fun V1 hV hG => HK.out.2.1 V1) ?_
        iterate 12 (refine low2_step (fun K hK => ?_); go_simp; first | (refine hK _ ?_; clear hK K) | (apply Exists.intro; refine ⟨fun p => ?_, hK _ ?_⟩; clear hK K))
        refine low2_reads 144 #[.int .i64 ddx] (.int .i64 DX) (by rfl) (fun w => by go_simp; try rfl) rfl (by kernel_rfl) (fun V1 hV hG => HK.out.2.2.2.1 V1) ?_
        iterate 7 (refine low2_step (fun K hK => ?_); go_simp; first | (refine hK _ ?_; clear hK K) | (apply Exists.intro; refine ⟨fun p => ?_, hK _ ?_⟩; clear hK K))
        refine low2_reads 144 #[.int .i64 ddy] (.int .i64 DY) (by rfl) (fun w => by go_simp; try rfl) rfl (by kernel_rfl) (fun V1 hV hG => HK.out.2.2.2.2 V1) ?_
        refine low2_reads 162 #[Bv a, Bv b, .int .i64 DX, .int .i64 DY] (.int .i64 r1) (by rfl) (fun w => by unfold Bv; go_simp; try rfl) rfl (by kernel_rfl) (fun V1 hV hG => HK.out.2.2.1 V1) ?_
        refine low2_nil ?_
        intro W3 hC
        obtain ⟨hgg, hs⟩ := below_cc (w := w) hC.1 hgg
        clear hC ca0 ca1 ca2 ca3 ca4 ca5 ca6 ca7 ca8 cb0 cb1 cb2 cb3 cb4 cb5 cb6 cb7 cb8 m0 m1 m2 m3
        go_wp2
        go_returns
        exact ⟨rfl, hgg⟩
      · rw [hra] at KA
        rw [hrb] at KB
        simp only [Bool.false_eq_true, if_false, if_true] at KA KB
        have RR := fun V => boxCircle_any a b DX DY oa ob bX bY V
        have hrr : r1 = _ := hr1
        unfold roomI at hrr
        rw [hra, hrb] at hrr
        simp only [Bool.false_eq_true, if_false, if_true] at hrr
        rw [← hrr] at RR
        have HK := Lib.hid (And.intro KA (And.intro KB (And.intro RR (And.intro AX AY))))
        clear hrr hr1 RR KA KB AX AY oa ob bX bY
        refine wp_region_low2 noPosts 26 (by kernel_rfl) (by kernel_rfl) ?_
        simp only [List.take, List.drop]
        iterate 1 (refine low2_step (fun K hK => ?_); go_simp; first | (refine hK _ ?_; clear hK K) | (apply Exists.intro; refine ⟨fun p => ?_, hK _ ?_⟩; clear hK K))
        refine low2_reads 143 #[Bv a] (.int .i64 0) (by rfl) (fun w => by unfold Bv; go_simp; try rfl) rfl (by kernel_rfl) (fun V1 hV hG => HK.out.1 V1) ?_
        iterate 1 (refine low2_step (fun K hK => ?_); go_simp; first | (refine hK _ ?_; clear hK K) | (apply Exists.intro; refine ⟨fun p => ?_, hK _ ?_⟩; clear hK K))
        refine low2_reads 143 #[Bv b] (.int .i64 1) (by rfl) (fun w => by unfold Bv; go_simp; try rfl) rfl (by kernel_rfl) (fun V1 hV hG => HK.out.2.1 V1) ?_
        iterate 12 (refine low2_step (fun K hK => ?_); go_simp; first | (refine hK _ ?_; clear hK K) | (apply Exists.intro; refine ⟨fun p => ?_, hK _ ?_⟩; clear hK K))
        refine low2_reads 144 #[.int .i64 ddx] (.int .i64 DX) (by rfl) (fun w => by go_simp; try rfl) rfl (by kernel_rfl) (fun V1 hV hG => HK.out.2.2.2.1 V1) ?_
        iterate 7 (refine low2_step (fun K hK => ?_); go_simp; first | (refine hK _ ?_; clear hK K) | (apply Exists.intro; refine ⟨fun p => ?_, hK _ ?_⟩; clear hK K))
        refine low2_reads 144 #[.int .i64 ddy] (.int .i64 DY) (by rfl) (fun w => by go_simp; try rfl) rfl (by kernel_rfl) (fun V1 hV hG => HK.out.2.2.2.2 V1) ?_
        refine low2_reads 163 #[Bv a, Bv b, .int .i64 DX, .int .i64 DY] (.int .i64 r1) (by rfl) (fun w => by unfold Bv; go_simp; try rfl) rfl (by kernel_rfl) (fun V1 hV hG => HK.out.2.2.1 V1) ?_
        refine low2_nil ?_
        intro W3 hC
        obtain ⟨hgg, hs⟩ := below_cc (w := w) hC.1 hgg
        clear hC ca0 ca1 ca2 ca3 ca4 ca5 ca6 ca7 ca8 cb0 cb1 cb2 cb3 cb4 cb5 cb6 cb7 cb8 m0 m1 m2 m3
        go_wp2
        go_returns
        exact ⟨rfl, hgg⟩
      · rw [hra] at KA
        rw [hrb] at KB
        simp only [Bool.false_eq_true, if_false, if_true] at KA KB
        have RR := fun V => circleBox_any a b DX DY oa ob bX bY V
        have hrr : r1 = _ := hr1
        unfold roomI at hrr
        rw [hra, hrb] at hrr
        simp only [Bool.false_eq_true, if_false, if_true] at hrr
        rw [← hrr] at RR
        have HK := Lib.hid (And.intro KA (And.intro KB (And.intro RR (And.intro AX AY))))
        clear hrr hr1 RR KA KB AX AY oa ob bX bY
        refine wp_region_low2 noPosts 26 (by kernel_rfl) (by kernel_rfl) ?_
        simp only [List.take, List.drop]
        iterate 1 (refine low2_step (fun K hK => ?_); go_simp; first | (refine hK _ ?_; clear hK K) | (apply Exists.intro; refine ⟨fun p => ?_, hK _ ?_⟩; clear hK K))
        refine low2_reads 143 #[Bv a] (.int .i64 1) (by rfl) (fun w => by unfold Bv; go_simp; try rfl) rfl (by kernel_rfl) (fun V1 hV hG => HK.out.1 V1) ?_
        iterate 1 (refine low2_step (fun K hK => ?_); go_simp; first | (refine hK _ ?_; clear hK K) | (apply Exists.intro; refine ⟨fun p => ?_, hK _ ?_⟩; clear hK K))
        refine low2_reads 143 #[Bv b] (.int .i64 0) (by rfl) (fun w => by unfold Bv; go_simp; try rfl) rfl (by kernel_rfl) (fun V1 hV hG => HK.out.2.1 V1) ?_
        iterate 12 (refine low2_step (fun K hK => ?_); go_simp; first | (refine hK _ ?_; clear hK K) | (apply Exists.intro; refine ⟨fun p => ?_, hK _ ?_⟩; clear hK K))
        refine low2_reads 144 #[.int .i64 ddx] (.int .i64 DX) (by rfl) (fun w => by go_simp; try rfl) rfl (by kernel_rfl) (fun V1 hV hG => HK.out.2.2.2.1 V1) ?_
        iterate 7 (refine low2_step (fun K hK => ?_); go_simp; first | (refine hK _ ?_; clear hK K) | (apply Exists.intro; refine ⟨fun p => ?_, hK _ ?_⟩; clear hK K))
        refine low2_reads 144 #[.int .i64 ddy] (.int .i64 DY) (by rfl) (fun w => by go_simp; try rfl) rfl (by kernel_rfl) (fun V1 hV hG => HK.out.2.2.2.2 V1) ?_
        refine low2_reads 164 #[Bv a, Bv b, .int .i64 DX, .int .i64 DY] (.int .i64 r1) (by rfl) (fun w => by unfold Bv; go_simp; try rfl) rfl (by kernel_rfl) (fun V1 hV hG => HK.out.2.2.1 V1) ?_
        refine low2_nil ?_
        intro W3 hC
        obtain ⟨hgg, hs⟩ := below_cc (w := w) hC.1 hgg
        clear hC ca0 ca1 ca2 ca3 ca4 ca5 ca6 ca7 ca8 cb0 cb1 cb2 cb3 cb4 cb5 cb6 cb7 cb8 m0 m1 m2 m3
        go_wp2
        go_returns
        exact ⟨rfl, hgg⟩
      · rw [hra] at KA
        rw [hrb] at KB
        simp only [Bool.false_eq_true, if_false, if_true] at KA KB
        have RR := fun V => circles_any a b DX DY oa ob bX bY V
        have hrr : r1 = _ := hr1
        unfold roomI at hrr
        rw [hra, hrb] at hrr
        simp only [Bool.false_eq_true, if_false, if_true] at hrr
        rw [← hrr] at RR
        have HK := Lib.hid (And.intro KA (And.intro KB (And.intro RR (And.intro AX AY))))
        clear hrr hr1 RR KA KB AX AY oa ob bX bY
        refine wp_region_low2 noPosts 26 (by kernel_rfl) (by kernel_rfl) ?_
        simp only [List.take, List.drop]
        iterate 1 (refine low2_step (fun K hK => ?_); go_simp; first | (refine hK _ ?_; clear hK K) | (apply Exists.intro; refine ⟨fun p => ?_, hK _ ?_⟩; clear hK K))
        refine low2_reads 143 #[Bv a] (.int .i64 1) (by rfl) (fun w => by unfold Bv; go_simp; try rfl) rfl (by kernel_rfl) (fun V1 hV hG => HK.out.1 V1) ?_
        iterate 1 (refine low2_step (fun K hK => ?_); go_simp; first | (refine hK _ ?_; clear hK K) | (apply Exists.intro; refine ⟨fun p => ?_, hK _ ?_⟩; clear hK K))
        refine low2_reads 143 #[Bv b] (.int .i64 1) (by rfl) (fun w => by unfold Bv; go_simp; try rfl) rfl (by kernel_rfl) (fun V1 hV hG => HK.out.2.1 V1) ?_
        iterate 12 (refine low2_step (fun K hK => ?_); go_simp; first | (refine hK _ ?_; clear hK K) | (apply Exists.intro; refine ⟨fun p => ?_, hK _ ?_⟩; clear hK K))
        refine low2_reads 144 #[.int .i64 ddx] (.int .i64 DX) (by rfl) (fun w => by go_simp; try rfl) rfl (by kernel_rfl) (fun V1 hV hG => HK.out.2.2.2.1 V1) ?_
        iterate 7 (refine low2_step (fun K hK => ?_); go_simp; first | (refine hK _ ?_; clear hK K) | (apply Exists.intro; refine ⟨fun p => ?_, hK _ ?_⟩; clear hK K))
        refine low2_reads 144 #[.int .i64 ddy] (.int .i64 DY) (by rfl) (fun w => by go_simp; try rfl) rfl (by kernel_rfl) (fun V1 hV hG => HK.out.2.2.2.2 V1) ?_
        refine low2_reads 165 #[Bv a, Bv b, .int .i64 DX, .int .i64 DY] (.int .i64 r1) (by rfl) (fun w => by unfold Bv; go_simp; try rfl) rfl (by kernel_rfl) (fun V1 hV hG => HK.out.2.2.1 V1) ?_
        refine low2_nil ?_
        intro W3 hC
        obtain ⟨hgg, hs⟩ := below_cc (w := w) hC.1 hgg
        clear hC ca0 ca1 ca2 ca3 ca4 ca5 ca6 ca7 ca8 cb0 cb1 cb2 cb3 cb4 cb5 cb6 cb7 cb8 m0 m1 m2 m3
        go_wp2
        go_returns
        exact ⟨rfl, hgg⟩
theorem over_any (a b : Bdy) (w : World) (hM : RM w) : Calls Tryz.prog 140 #[Bv a, Bv b] w fun e w' => e = .returned (.bool (overI a b)) ∧ Below w.heap.size w w' := by
  obtain ⟨z, hz⟩ : ∃ z, overI a b = z := ⟨_, rfl⟩
  have HZ := Lib.hid hz
  rw [hz]
  clear hz
  have hd0 : Below w.heap.size w ((w.alloc (.cells #[.int .i64 a.id, .int .i64 a.x, .int .i64 a.y, .int .i64 a.vx, .int .i64 a.vy, .int .i64 a.w, .int .i64 a.h, .bool a.round, .bool a.fixed] 133)).alloc (.cells #[.int .i64 b.id, .int .i64 b.x, .int .i64 b.y, .int .i64 b.vx, .int .i64 b.vy, .int .i64 b.w, .int .i64 b.h, .bool b.round, .bool b.fixed] 133)) := by go_grown
  have FA := far_any a b _ (hM.below hd0)
  obtain ⟨r1, hr1⟩ : ∃ r, (farI a b).1 = r := ⟨_, rfl⟩
  obtain ⟨r2, hr2⟩ : ∃ r, (farI a b).2 = r := ⟨_, rfl⟩
  have HF := Lib.hid (And.intro hr1 hr2)
  rw [hr1, hr2] at FA
  have HFA := Lib.hid FA
  clear hr1 hr2 FA
  unfold Bv at *
  go_enter Tryz.func140, Tryz.ntmps140
  go_wp2_with fail
  refine Calls.mono HFA.out ?_
  rintro e W1 ⟨rfl, hb⟩
  obtain ⟨hgg, hs⟩ := below_cc (w := w) hb hd0
  clear hb hd0
  have hzz : z = (r2 && decide (r1 < 0)) := by rw [← HZ.out, ← HF.out.1, ← HF.out.2]; rfl
  cases r2
  · obtain rfl : z = false := hzz
    go_wp2
    go_returns
    exact ⟨rfl, hgg⟩
  · obtain rfl : z = decide (r1 < 0) := by rw [hzz]; simp
    clear hzz
    go_wp2
    go_returns
    exact ⟨rfl, hgg⟩
end Go.Proofs.YtlcjkomfjgddeaaGreatDoor
namespace Go.Proofs.YtlcjkomfjgddeaaGreatDoor
open Go Go.RowKit Go.Sort
set_option maxRecDepth 100000
attribute [local go_sem] opLow opUpon opLow2 opUpon2

theorem axes_any (g o : Nat) (w : World) : Calls Tryz.prog 83 #[.pointer (some ⟨g, o, none⟩)] w fun e w' => e = .returned (.agg #[.pointer (some ⟨g, o, none⟩), .pointer (some ⟨g, o + 1, none⟩)]) ∧ Below w.heap.size w w' := by
  go_enter Tryz.func83, Tryz.ntmps83
  go_wp2
  refine wp_name (fun V => Bk V w.heap.size #[.pointer none, .pointer none] 139 ∧ Below w.heap.size w V) ⟨Bk.made _ _ _, by go_grown⟩ ?_
  rintro V ⟨B1, hgg⟩
  refine wp_region_low2 noPosts 7 (by kernel_rfl) (by kernel_rfl) ?_
  simp only [List.take, List.drop]
  iterate 7 (refine low2_step (fun K hK => ?_); go_simp; first | (refine hK _ ?_; clear hK K) | (apply Exists.intro; refine ⟨fun p => ?_, hK _ ?_⟩; clear hK K))
  refine low2_nil ?_
  intro W2 hC
  have B2 := B1.below hC.1
  obtain ⟨hgg, hs⟩ := below_cc (w := w) hC.1 hgg
  clear hC B1
  have c0 := B2.cell (v := .pointer none) 0 rfl
  have c1 := B2.cell (v := .pointer none) 1 rfl
  have f0 := B2.free 0
  have f1 := B2.free 1
  have lt := B2.lt
  go_wp2
  refine post_name (fun V => Bk V w.heap.size #[.pointer (some ⟨g, o, none⟩), .pointer (some ⟨g, o + 1, none⟩)] 139 ∧ Below w.heap.size w V) ⟨(B2.put 0 _).put 1 _, by go_grown⟩ ?_
  rintro V ⟨BV, hbV⟩
  clear c0 c1 f0 f1
  have y0 := BV.cell (v := .pointer (some ⟨g, o, none⟩)) 0 rfl
  have y1 := BV.cell (v := .pointer (some ⟨g, o + 1, none⟩)) 1 rfl
  exact bodyPost_ret (v := .agg #[.pointer (some ⟨g, o, none⟩), .pointer (some ⟨g, o + 1, none⟩)]) (by simp [results, Tryz.results83, go_sem, y0, y1]; try rfl) rfl ⟨rfl, hbV⟩
end Go.Proofs.YtlcjkomfjgddeaaGreatDoor
