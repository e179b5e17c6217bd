/- (mover).run. -/
import Derived.Test.YtlcjkomfjgddeaaGreatDoorM16
set_option linter.unusedVariables false
set_option linter.unusedSimpArgs false
namespace Go.Proofs.YtlcjkomfjgddeaaGreatDoor
open Go Go.RowKit Go.Sort Go.Shelf
set_option maxRecDepth 100000
attribute [local go_sem] opLow opUpon opLow2 opUpon2 Oper.semAt_some

def runStep (b : Bdy) (ax sg most : Int) (st : Int × Int) (o : OB) : Int × Int :=
  if blockedI b o.1 ax sg most < st.1 ∨ (blockedI b o.1 ax sg most = st.1 ∧ blockedI b o.1 ax sg most ≤ most ∧ st.2 < 0) then (blockedI b o.1 ax sg most, o.1.id) else st
theorem blockedI_bd (b o : Bdy) (ax sg most : Int) (hm : 0 ≤ most) : 1 ≤ blockedI b o ax sg most ∧ blockedI b o ax sg most ≤ most + 1 := by
  unfold blockedI
  split
  · omega
  · split
    · rename_i h1 h2
      have h3 := (srch_bd (fun i => (fun i => overI (shI b ax (sg * i)) o) (i + 1)) (min (sg * (along o ax - along b ax)) most).toNat 0 (min (sg * (along o ax - along b ax)) most) (by omega)).1
      unfold leastI at h2 ⊢
      omega
    · omega
theorem runStep_bd (b : Bdy) (ax sg most : Int) (hm : 0 ≤ most) (st : Int × Int) (o : OB) (h : 1 ≤ st.1 ∧ st.1 ≤ most + 1) : 1 ≤ (runStep b ax sg most st o).1 ∧ (runStep b ax sg most st o).1 ≤ most + 1 := by
  have := blockedI_bd b o.1 ax sg most hm
  unfold runStep
  split
  · exact this
  · exact h
theorem runFold_bd (b : Bdy) (ax sg most : Int) (hm : 0 ≤ most) : ∀ (os : List OB) (st : Int × Int), (1 ≤ st.1 ∧ st.1 ≤ most + 1) → 1 ≤ (os.foldl (runStep b ax sg most) st).1 ∧ (os.foldl (runStep b ax sg most) st).1 ≤ most + 1
  | [], st, h => h
  | o :: os, st, h => runFold_bd b ax sg most hm os _ (runStep_bd b ax sg most hm st o h)
def runI (b : Bdy) (ax sg most : Int) (os : List OB) : Int × Int :=
  (((os.filter (inWay b)).foldl (runStep b ax sg most) (min most (1048576 - sg * along b ax) + 1, -1)).1 - 1, ((os.filter (inWay b)).foldl (runStep b ax sg most) (min most (1048576 - sg * along b ax) + 1, -1)).2)
set_option maxHeartbeats 8000000 in
theorem run0 (s : Option Addr × Nat × Nat) (ra : Option Addr) (rc : Nat) (gx gy : Int) (b : Bdy) (sg most : Int) (bs : List OB) (w : World) (hM : RM w) (hw : 2 ≤ w.heap.size) (hsg : sg = 1 ∨ sg = -1) (hb : okBdy b) (hm : 0 ≤ most ∧ most ≤ 4096) (hs : BodsAt w.heap.size w s (bs.map Subtype.val)) :
    Calls Tryz.prog 84 #[Mv s (ra, 0, rc) gx gy b 0 sg, .int .i64 most] w fun e w' => e = .returned (.tuple #[.int .i64 (runI b 0 sg most bs).1, .int .i64 (runI b 0 sg most bs).2]) ∧ Below w.heap.size w w' := by
  obtain ⟨s1, s2, s3⟩ := s
  have bz : -1048576 ≤ b.x ∧ b.x ≤ 1048576 := hb.2.1.1
  obtain ⟨sz, hsz⟩ : ∃ sz, sg * b.x = sz := ⟨_, rfl⟩
  have bsz : -1048576 ≤ sz ∧ sz ≤ 1048576 := by rw [← hsz]; rcases hsg with rfl | rfl <;> omega
  have w1 : IntKind.i64.wrap (sg * b.x) = sz := by rw [hsz, IntKind.wrap_i64]; omega
  have w2 : IntKind.i64.wrap (1048576 - sz) = 1048576 - sz := by rw [IntKind.wrap_i64]; omega
  have hix : ∀ (g q : Nat) (w : World), (Instr.index 139 (.agg #[.pointer (some ⟨g, q, none⟩), .pointer (some ⟨g, q + 1, none⟩)]) (.int .i64 0)).run Tryz.prog w = .ok (.pointer (some ⟨g, q, none⟩)) w := fun g q w => by kernel_rfl
  have HB := Lib.hid (And.intro hM (And.intro hsg (And.intro hb (And.intro hs (And.intro hw hsz)))))
  clear hM hsg hb hs hw hsz bz
  unfold Mv
  refine (callsIn_wide (n := 5)).1 (callsIn_of_wp_marks Tryz.func84 rfl trivial ?_ rfl)
  simp only [Tryz.ntmps84, List.size_toArray, List.length_cons, List.length_nil, Nat.reduceAdd, Nat.reduceSub, Array.replicate_succ, Array.replicate_zero, List.push_toArray, List.append_toArray, List.nil_append, List.cons_append]
  refine wpIn_wide.2 ?_
  go_wp2
  refine wp_name (fun V => Bk V w.heap.size #[.slice s1 s2 s3, .slice ra 0 rc, .int .i64 gx, .int .i64 gy, .int .i64 b.id, .int .i64 b.x, .int .i64 b.y, .int .i64 b.vx, .int .i64 b.vy, .int .i64 b.w, .int .i64 b.h, .bool b.round, .bool b.fixed, .int .i64 0, .int .i64 sg] 143 ∧ Bk V (w.heap.size + 1) #[.int .i64 most] 3 ∧ Below w.heap.size w V) ⟨(Bk.made _ _ _).alloc _, Bk.at_ (by simp), by go_grown⟩ ?_
  rintro V ⟨B1, B2, hgg⟩
  have c1 := cell_regrown (B1.cell (v := .int .i64 sg) 14 rfl)
  have c2 := cell_regrown (B1.cell (v := .int .i64 b.x) 5 rfl)
  have c3 := cell_regrown (B1.cell (v := .int .i64 0) 13 rfl)
  refine wp_region_low2 noPosts 12 (by kernel_rfl) (by kernel_rfl) ?_
  simp only [List.take, List.drop]
  iterate 4 (refine low2_step (fun K hK => ?_); go_simp; first | (refine hK _ ?_; clear hK K) | (apply Exists.intro; refine ⟨fun p => ?_, hK _ ?_⟩; clear hK K))
  refine low2_reads 83 #[.pointer (some ⟨w.heap.size, 5, none⟩)] (.agg #[.pointer (some ⟨w.heap.size, 5, none⟩), .pointer (some ⟨w.heap.size, 5 + 1, none⟩)]) (by rfl) (fun w => by go_simp; try rfl) rfl (by kernel_rfl) (fun V1 hV hG => axes_any _ _ V1) ?_
  iterate 7 (refine low2_step (fun K hK => ?_); go_simp; first | (refine hK _ ?_; clear hK K) | (apply Exists.intro; refine ⟨fun p => ?_, hK _ ?_⟩; clear hK K))
  refine low2_nil ?_
  intro W2 hC
  replace B1 := B1.below hC.1
  replace B2 := B2.below hC.1
  obtain ⟨hgg, hs⟩ := below_cc (w := w) hC.1 hgg
  clear hC c1 c2 c3
  obtain ⟨f0, hf0⟩ : ∃ f0, min most (1048576 - sz) + 1 = f0 := ⟨_, rfl⟩
  obtain ⟨mn, hmn⟩ : ∃ mn, min most (1048576 - sz) = mn := ⟨_, rfl⟩
  have bmn : 0 ≤ mn ∧ mn ≤ 4096 := by omega
  obtain rfl : f0 = mn + 1 := by omega
  have HMN := Lib.hid hmn
  clear hf0 hmn
  have d0 := B1.cell (v := .slice s1 s2 s3) 0 rfl
  have d1 := B1.cell (v := .slice ra 0 rc) 1 rfl
  have d2 := B1.cell (v := .int .i64 gx) 2 rfl
  have d3 := B1.cell (v := .int .i64 gy) 3 rfl
  have d4 := B1.cell (v := .int .i64 b.id) 4 rfl
  have d5 := B1.cell (v := .int .i64 b.x) 5 rfl
  have d6 := B1.cell (v := .int .i64 b.y) 6 rfl
  have d7 := B1.cell (v := .int .i64 b.vx) 7 rfl
  have d8 := B1.cell (v := .int .i64 b.vy) 8 rfl
  have d9 := B1.cell (v := .int .i64 b.w) 9 rfl
  have d10 := B1.cell (v := .int .i64 b.h) 10 rfl
  have d11 := B1.cell (v := .bool b.round) 11 rfl
  have d12 := B1.cell (v := .bool b.fixed) 12 rfl
  have d13 := B1.cell (v := .int .i64 0) 13 rfl
  have d14 := B1.cell (v := .int .i64 sg) 14 rfl
  have p0 := B2.cell (v := .int .i64 most) 0 rfl
  have lt1 := B1.lt
  have lt2 := B2.lt
  have HX := Lib.hid (And.intro w1 (And.intro w2 hix))
  clear w1 w2 hix
  have EM := emk_any (s1, s2, s3) (ra, 0, rc) gx gy b 0 sg
  unfold Mv mcs at EM
  have HEM := Lib.hid EM
  clear EM
  go_wp2_with (refine wpList_min2 _ rfl _ _ _ rfl _ _ _ rfl rfl ?_; rw [HMN.out])
  refine Calls.mono (HEM.out _) ?_
  rintro e W3 ⟨rfl, hW3⟩
  have h3 : (Bk W3 w.heap.size #[.slice s1 s2 s3, .slice ra 0 rc, .int .i64 gx, .int .i64 gy, .int .i64 b.id, .int .i64 b.x, .int .i64 b.y, .int .i64 b.vx, .int .i64 b.vy, .int .i64 b.w, .int .i64 b.h, .bool b.round, .bool b.fixed, .int .i64 0, .int .i64 sg] 143 ∧ Bk W3 (w.heap.size + 1) #[.int .i64 most] 3) ∧ (Bk W3 W2.heap.size #[.int .i64 (mn + 1)] 3 ∧ Bk W3 (W2.heap.size + 1) #[.int .i64 (-1)] 3 ∧ Bk W3 (W2.heap.size + 1 + 1) #[.slice s1 s2 s3, .slice ra 0 rc, .int .i64 gx, .int .i64 gy, .int .i64 b.id, .int .i64 b.x, .int .i64 b.y, .int .i64 b.vx, .int .i64 b.vy, .int .i64 b.w, .int .i64 b.h, .bool b.round, .bool b.fixed, .int .i64 0, .int .i64 sg] 143) ∧ Below w.heap.size w W3 ∧ W3.heap.size = W2.heap.size + 3 := by
    rw [hW3]
    refine ⟨⟨((B1.alloc _).alloc _).alloc _, ((B2.alloc _).alloc _).alloc _⟩, ⟨((Bk.made _ _ _).alloc _).alloc _, (Bk.at_ (by simp)).alloc _, Bk.at_ (by simp)⟩, ?_, by simp⟩
    exact ((hgg.alloc hs _).alloc (by simp; omega) _).alloc (by simp; omega) _
  clear hW3 B1 B2 d0 d1 d2 d3 d4 d5 d6 d7 d8 d9 d10 d11 d12 d13 d14 p0 lt1 hgg
  obtain ⟨⟨B1, B2⟩, ⟨BF, BY, BM⟩, hgg, hz3⟩ := h3
  go_wp2
  refine (wpIn_wide (n := 5)).1 ?_
  refine wpIn_rangeFunc_ownH (F := Fence.wide) (n := 5) rfl (by decide) (gf := 134) (lb := #[.pointer (some ⟨W2.heap.size + 1 + 1, 0, none⟩)]) rfl trivial (enters_of Tryz.func134 (by kernel_rfl) rfl) (ends_stops 4 (W2.heap.size + 1 + 1) (s1, s2, s3) ra rc gx gy b 0 sg W3 BM) (fun _ _ => trivial) (fun _ _ _ _ _ _ _ _ => trivial) (Below.refl _ _) (fun x => x.elim)
    (fun _ W => Below W3.heap.size W3 W) (fun _ _ _ => False) (ownFrom_below (Nat.le_refl _) (Nat.le_refl _)) (fun _ _ _ _ _ hs _ _ => hs) (Below.refl _ _) (fun x => x.elim) (fun x => x.elim) (fun _ _ x => x.elim) (fun _ _ x => x.elim) ?done ?stop
  case stop => intro _ _ _ _ _ h; exact h.elim
  case done =>
  rintro D1 xs W4 hD1 - h4 hK1'
  have hK1 := Lib.hid hK1'
  replace B1 := B1.below h4
  replace B2 := B2.below h4
  replace BF := BF.below h4
  replace BY := BY.below h4
  obtain ⟨hgg, hz4⟩ := below_cc (w := w) h4 hgg
  have hz45 := h4.size
  clear h4 BM hK1'
  dsimp only
  have d0 := B1.cell (v := .slice s1 s2 s3) 0 rfl
  have d1 := B1.cell (v := .slice ra 0 rc) 1 rfl
  have d2 := B1.cell (v := .int .i64 gx) 2 rfl
  have d3 := B1.cell (v := .int .i64 gy) 3 rfl
  have d4 := B1.cell (v := .int .i64 b.id) 4 rfl
  have d5 := B1.cell (v := .int .i64 b.x) 5 rfl
  have d6 := B1.cell (v := .int .i64 b.y) 6 rfl
  have d7 := B1.cell (v := .int .i64 b.vx) 7 rfl
  have d8 := B1.cell (v := .int .i64 b.vy) 8 rfl
  have d9 := B1.cell (v := .int .i64 b.w) 9 rfl
  have d10 := B1.cell (v := .int .i64 b.h) 10 rfl
  have d11 := B1.cell (v := .bool b.round) 11 rfl
  have d12 := B1.cell (v := .bool b.fixed) 12 rfl
  have d13 := B1.cell (v := .int .i64 0) 13 rfl
  have d14 := B1.cell (v := .int .i64 sg) 14 rfl
  have BMK := bmk_any (s1, s2, s3) (ra, 0, rc) gx gy b 0 sg
  unfold Mv mcs at BMK
  have HBMK := Lib.hid BMK
  clear BMK
  go_wp2_with fail
  refine Calls.mono (HBMK.out _) ?_
  rintro e W5 ⟨rfl, hW5⟩
  have h5 : (Bk W5 w.heap.size #[.slice s1 s2 s3, .slice ra 0 rc, .int .i64 gx, .int .i64 gy, .int .i64 b.id, .int .i64 b.x, .int .i64 b.y, .int .i64 b.vx, .int .i64 b.vy, .int .i64 b.w, .int .i64 b.h, .bool b.round, .bool b.fixed, .int .i64 0, .int .i64 sg] 143 ∧ Bk W5 (w.heap.size + 1) #[.int .i64 most] 3) ∧ (Bk W5 W2.heap.size #[.int .i64 (mn + 1)] 3 ∧ Bk W5 (W2.heap.size + 1) #[.int .i64 (-1)] 3 ∧ Bk W5 W4.heap.size #[.slice s1 s2 s3, .slice ra 0 rc, .int .i64 gx, .int .i64 gy, .int .i64 b.id, .int .i64 b.x, .int .i64 b.y, .int .i64 b.vx, .int .i64 b.vy, .int .i64 b.w, .int .i64 b.h, .bool b.round, .bool b.fixed, .int .i64 0, .int .i64 sg] 143) ∧ Below w.heap.size w W5 ∧ W5.heap.size = W4.heap.size + 1 ∧ Hid (W5.heap[D1]? = some (.deferred (some []))) := by
    rw [hW5]
    refine ⟨⟨B1.alloc _, B2.alloc _⟩, ⟨BF.alloc _, BY.alloc _, Bk.made _ _ _⟩, hgg.alloc hz4 _, by simp, Lib.hid ((Below.heap_alloc _ _ _ (Array.getElem?_eq_some_iff.1 hK1.out).1).trans hK1.out)⟩
  have hD1W := (Array.getElem?_eq_some_iff.1 hK1.out).1
  clear hW5 B1 B2 d0 d1 d2 d3 d4 d5 d6 d7 d8 d9 d10 d11 d12 d13 d14 hgg BF BY hK1
  obtain ⟨⟨B1, B2⟩, ⟨BF, BY, BM⟩, hgg, hz5, hK1⟩ := h5
  go_wp2
  refine (wpIn_wide (n := 5)).1 ?_
  have hMw := HB.out.1
  have h2w := HB.out.2.2.2.2.1
  have hsw := HB.out.2.2.2.1
  have hn0 : 2 ≤ W2.heap.size ∧ W2.heap.size ≤ W5.heap.size := by omega
  refine rf_box (n := 5) (by decide) (gf := 139) (lb := #[.pointer (some ⟨W4.heap.size, 0, none⟩)]) rfl (enters_of Tryz.func139 (by kernel_rfl) rfl)
    (bodies_stops 4 W4.heap.size W2.heap.size (s1, s2, s3) (ra, 0, rc) gx gy b 0 sg bs W5 (hMw.below hgg) hn0 BM ((hsw.below hgg).more hs)) KpB.trans (kpB_b hn0.2)
    (fun pre W => (Bk W w.heap.size #[.slice s1 s2 s3, .slice ra 0 rc, .int .i64 gx, .int .i64 gy, .int .i64 b.id, .int .i64 b.x, .int .i64 b.y, .int .i64 b.vx, .int .i64 b.vy, .int .i64 b.w, .int .i64 b.h, .bool b.round, .bool b.fixed, .int .i64 0, .int .i64 sg] 143 ∧ Bk W (w.heap.size + 1) #[.int .i64 most] 3) ∧ (Bk W W2.heap.size #[.int .i64 (pre.foldl (runStep b 0 sg most) (mn + 1, -1)).1] 3 ∧ Bk W (W2.heap.size + 1) #[.int .i64 (pre.foldl (runStep b 0 sg most) (mn + 1, -1)).2] 3) ∧ (Below w.heap.size w W ∧ W.heap[D1]? = some (.deferred (some []))) ∧ Below w.heap.size W5 W)
    (fun _ _ _ => False)
    ((OwnFrom.and (bk_own _ _ _ _) (bk_own _ _ _ _)).and ((OwnFrom.and (bk_own _ _ _ _) (bk_own _ _ _ _)).and ((OwnFrom.and (ownFrom_below (Nat.le_refl _) (by omega)) (def_own (by omega))).and (ownFrom_below (by omega) (by omega)))))
    (fun _ _ _ _ _ hs _ _ => hs) ⟨⟨B1, B2⟩, ⟨BF, BY⟩, ⟨hgg, hK1.out⟩, Below.refl _ _⟩ 11 133 (fun x => bcs x.1)
    (fun pre W h => h.2.2.2.size) (fun W o h => ⟨(Below.refl _ _).alloc (by omega) _, fun cs t hB => hB.alloc _⟩) ?assign ?body ?done ?stop
  case stop => intro _ _ _ _ _ _ h; exact h.elim
  case assign =>
    intro l x W K hK
    have HK := Lib.hid hK
    clear hK
    simp only [Bv, List.setIfInBounds_toArray, List.set_cons_succ, List.set_cons_zero] at HK ⊢
    gi_wp2
    exact HK.out
  case body =>
    rintro l pre x gO W ⟨⟨B1, B2⟩, ⟨BF, BY⟩, ⟨hgg, hK1⟩, h56⟩ hgO BO -
    obtain ⟨nb, hnb⟩ : ∃ nb, blockedI b x.1 0 sg most = nb := ⟨_, rfl⟩
    have BL := blocked0 (s1, s2, s3) (ra, 0, rc) gx gy b x.1 sg most W (hMw.below hgg) HB.out.2.1 HB.out.2.2.1.2.1.1 HB.out.2.2.1.2.1.2 x.2.2.1.1 x.2.2.1.2 (by omega)
    rw [hnb] at BL
    obtain ⟨st, hst⟩ : ∃ st, pre.foldl (runStep b 0 sg most) (mn + 1, -1) = st := ⟨_, rfl⟩
    have hfold : (pre ++ [x]).foldl (runStep b 0 sg most) (mn + 1, -1) = if nb < st.1 ∨ (nb = st.1 ∧ nb ≤ most ∧ st.2 < 0) then (nb, x.1.id) else st := by
      rw [List.foldl_append, hst, ← hnb]; rfl
    rw [hst] at BF BY
    obtain ⟨f, y⟩ := st
    simp only at hfold BF BY
    have HFO := Lib.hid hfold
    have HBL := Lib.hid BL
    have HH := Lib.hid (And.intro hK1 (And.intro hgg h56))
    have hsz := h56.size
    clear hfold BL hst hnb hK1 hgg h56 hsw hMw
    unfold Mv Bv at HBL
    simp only [Bv, List.setIfInBounds_toArray, List.set_cons_succ, List.set_cons_zero]
    have d0 := B1.cell (v := .slice s1 s2 s3) 0 rfl
    have d1 := B1.cell (v := .slice ra 0 rc) 1 rfl
    have d2 := B1.cell (v := .int .i64 gx) 2 rfl
    have d3 := B1.cell (v := .int .i64 gy) 3 rfl
    have d4 := B1.cell (v := .int .i64 b.id) 4 rfl
    have d5 := B1.cell (v := .int .i64 b.x) 5 rfl
    have d6 := B1.cell (v := .int .i64 b.y) 6 rfl
    have d7 := B1.cell (v := .int .i64 b.vx) 7 rfl
    have d8 := B1.cell (v := .int .i64 b.vy) 8 rfl
    have d9 := B1.cell (v := .int .i64 b.w) 9 rfl
    have d10 := B1.cell (v := .int .i64 b.h) 10 rfl
    have d11 := B1.cell (v := .bool b.round) 11 rfl
    have d12 := B1.cell (v := .bool b.fixed) 12 rfl
    have d13 := B1.cell (v := .int .i64 0) 13 rfl
    have d14 := B1.cell (v := .int .i64 sg) 14 rfl
    have o0 := BO.cell (v := .int .i64 x.1.id) 0 rfl
    have o1 := BO.cell (v := .int .i64 x.1.x) 1 rfl
    have o2 := BO.cell (v := .int .i64 x.1.y) 2 rfl
    have o3 := BO.cell (v := .int .i64 x.1.vx) 3 rfl
    have o4 := BO.cell (v := .int .i64 x.1.vy) 4 rfl
    have o5 := BO.cell (v := .int .i64 x.1.w) 5 rfl
    have o6 := BO.cell (v := .int .i64 x.1.h) 6 rfl
    have o7 := BO.cell (v := .bool x.1.round) 7 rfl
    have o8 := BO.cell (v := .bool x.1.fixed) 8 rfl
    have p0 := B2.cell (v := .int .i64 most) 0 rfl
    gi_wp2_with fail
    refine ⟨trivial, (CallsIn.inRound l (callsIn_wide.2 HBL.out)).mono ?_⟩
    rintro e V ⟨rfl, hbV⟩
    clear d0 d1 d2 d3 d4 d5 d6 d7 d8 d9 d10 d11 d12 d13 d14 o0 o1 o2 o3 o4 o5 o6 o7 o8 p0
    replace B1 := B1.below hbV
    replace B2 := B2.below hbV
    replace BF := BF.below hbV
    replace BY := BY.below hbV
    replace BO := BO.below hbV
    have o0 := BO.cell (v := .int .i64 x.1.id) 0 rfl
    have p0 := B2.cell (v := .int .i64 most) 0 rfl
    have k0 := BF.cell (v := .int .i64 f) 0 rfl
    have k1 := BY.cell (v := .int .i64 y) 0 rfl
    have j0 := BF.free 0
    have j1 := BY.free 0
    have HV := Lib.hid (show (V.heap[D1]? = some (.deferred (some [])) ∧ Below w.heap.size w V ∧ Below w.heap.size W5 V) ∧ KeepsFrom W5.heap.size W V ∧ KpB W2.heap.size W4.heap.size W V from
      ⟨⟨(hbV.block D1 (Array.getElem?_eq_some_iff.1 HH.out.1).1).trans HH.out.1, (below_cc (w := w) hbV HH.out.2.1).1, HH.out.2.2.trans (hbV.mono (by omega))⟩, ⟨hbV.size, fun k o _ hk _ => (hbV.block k (Array.getElem?_eq_some_iff.1 hk).1).trans hk⟩, ⟨hbV.mono (by omega), fun cs t h => h.below hbV⟩⟩)
    have hVs := hbV.size
    have hz5a : W4.heap.size < W5.heap.size := by omega
    clear hbV HH HBL BM hz5
    have fin0 : ¬ (nb < f ∨ (nb = f ∧ nb ≤ most ∧ y < 0)) → ∀ a : Act, ownPostG W5.heap.size (KpB W2.heap.size W4.heap.size) (fun pre W => (Bk W w.heap.size #[.slice s1 s2 s3, .slice ra 0 rc, .int .i64 gx, .int .i64 gy, .int .i64 b.id, .int .i64 b.x, .int .i64 b.y, .int .i64 b.vx, .int .i64 b.vy, .int .i64 b.w, .int .i64 b.h, .bool b.round, .bool b.fixed, .int .i64 0, .int .i64 sg] 143 ∧ Bk W (w.heap.size + 1) #[.int .i64 most] 3) ∧ (Bk W W2.heap.size #[.int .i64 (pre.foldl (runStep b 0 sg most) (mn + 1, -1)).1] 3 ∧ Bk W (W2.heap.size + 1) #[.int .i64 (pre.foldl (runStep b 0 sg most) (mn + 1, -1)).2] 3) ∧ (Below w.heap.size w W ∧ W.heap[D1]? = some (.deferred (some []))) ∧ Below w.heap.size W5 W) (fun _ _ _ => False) (pre ++ [x]) W .normal a V := fun hno a => by
      refine ⟨HV.out.2.1, HV.out.2.2, ⟨B1, B2⟩, ?_, ⟨HV.out.1.2.1, HV.out.1.1⟩, HV.out.1.2.2⟩
      rw [HFO.out, if_neg hno]
      exact ⟨BF, BY⟩
    have fin1 : (nb < f ∨ (nb = f ∧ nb ≤ most ∧ y < 0)) → ∀ a : Act, ownPostG W5.heap.size (KpB W2.heap.size W4.heap.size) (fun pre W => (Bk W w.heap.size #[.slice s1 s2 s3, .slice ra 0 rc, .int .i64 gx, .int .i64 gy, .int .i64 b.id, .int .i64 b.x, .int .i64 b.y, .int .i64 b.vx, .int .i64 b.vy, .int .i64 b.w, .int .i64 b.h, .bool b.round, .bool b.fixed, .int .i64 0, .int .i64 sg] 143 ∧ Bk W (w.heap.size + 1) #[.int .i64 most] 3) ∧ (Bk W W2.heap.size #[.int .i64 (pre.foldl (runStep b 0 sg most) (mn + 1, -1)).1] 3 ∧ Bk W (W2.heap.size + 1) #[.int .i64 (pre.foldl (runStep b 0 sg most) (mn + 1, -1)).2] 3) ∧ (Below w.heap.size w W ∧ W.heap[D1]? = some (.deferred (some []))) ∧ Below w.heap.size W5 W) (fun _ _ _ => False) (pre ++ [x]) W .normal a (((V.setCell ⟨W2.heap.size, 0, none⟩ (.int .i64 nb)).setCell ⟨W2.heap.size + 1, 0, none⟩ (.int .i64 x.1.id)).drew) := fun hyes a => by
      refine ⟨((HV.out.2.1.trans ((KeepsOthers.setCell _ _ _).from _)).trans ((KeepsOthers.setCell _ _ _).from _)).trans ((KeepsOthers.drew _).from _), HV.out.2.2.trans ⟨(((Below.refl _ _).setCell (p := ⟨W2.heap.size, 0, none⟩) (Nat.le_refl _) _).setCell (p := ⟨W2.heap.size + 1, 0, none⟩) (Nat.le_succ _) _).drew, fun cs t h => (h.far (p := ⟨W2.heap.size, 0, none⟩) (by simp; omega) _).far (p := ⟨W2.heap.size + 1, 0, none⟩) (by simp; omega) _⟩, ⟨(B1.far (p := ⟨W2.heap.size, 0, none⟩) (by simp; omega) _).far (p := ⟨W2.heap.size + 1, 0, none⟩) (by simp; omega) _, (B2.far (p := ⟨W2.heap.size, 0, none⟩) (by simp; omega) _).far (p := ⟨W2.heap.size + 1, 0, none⟩) (by simp; omega) _⟩, ?_, ⟨((HV.out.1.2.1.setCell (p := ⟨W2.heap.size, 0, none⟩) (by simp; omega) _).setCell (p := ⟨W2.heap.size + 1, 0, none⟩) (by simp; omega) _).drew, ?_⟩, ((HV.out.1.2.2.setCell (p := ⟨W2.heap.size, 0, none⟩) (by simp; omega) _).setCell (p := ⟨W2.heap.size + 1, 0, none⟩) (by simp; omega) _).drew⟩
      · rw [HFO.out, if_pos hyes]
        exact ⟨((BF.put 0 _).far (p := ⟨W2.heap.size + 1, 0, none⟩) (by simp) _), (BY.far (p := ⟨W2.heap.size, 0, none⟩) (by simp) _).put 0 _⟩
      · show ((V.setCell ⟨W2.heap.size, 0, none⟩ (.int .i64 nb)).setCell ⟨W2.heap.size + 1, 0, none⟩ (.int .i64 x.1.id)).heap[D1]? = _
        rw [Below.heap_setCell _ _ _ _ (by simp; omega), Below.heap_setCell _ _ _ _ (by simp; omega)]; exact HV.out.1.1
    have F0 := Lib.hid fin0
    have F1 := Lib.hid fin1
    clear fin0 fin1 HV HFO B1 B2 BF BY BO
    by_cases q1 : nb < f
    · gi_wp2_with gi_region
      all_goals exact F1.out (.inl q1) _
    · by_cases q2 : nb = f
      · have e2 : ((nb : Int) == f) = true := by simp [q2]
        by_cases q3 : nb ≤ most
        · by_cases q4 : y < 0
          · have G := Lib.hid (F1.out (.inr ⟨q2, q3, q4⟩))
            clear F0 F1 q2
            gi_wp2_with gi_region
            all_goals exact G.out _
          · have G := Lib.hid (F0.out (by omega))
            clear F0 F1 q2
            gi_wp2
            exact G.out _
        · have G := Lib.hid (F0.out (by omega))
          clear F0 F1 q2
          gi_wp2
          exact G.out _
      · have e2 : ((nb : Int) == f) = false := by simp [q2]
        have G := Lib.hid (F0.out (by omega))
        clear F0 F1 q2
        gi_wp2
        exact G.out _
  case done =>
    rintro D2 xs W6 hD2 hxs ⟨⟨B1, B2⟩, ⟨BF, BY⟩, ⟨hgg, hK1⟩, h56⟩ hK2
    have hfin : runI b 0 sg most bs = ((xs.foldl (runStep b 0 sg most) (mn + 1, -1)).1 - 1, (xs.foldl (runStep b 0 sg most) (mn + 1, -1)).2) := by
      have h1 : min most (1048576 - sg * along b 0) = mn := by
        have h2 := HB.out.2.2.2.2.2
        rw [← HMN.out, ← h2]; rfl
      unfold runI
      rw [h1, hxs]
    obtain ⟨st, hst⟩ : ∃ st, xs.foldl (runStep b 0 sg most) (mn + 1, -1) = st := ⟨_, rfl⟩
    have hfb := runFold_bd b 0 sg most hm.1 xs (mn + 1, -1) ⟨by simp only; omega, by have := HMN.out; simp only; omega⟩
    rw [hst] at hfin BF BY hfb
    obtain ⟨f, y⟩ := st
    simp only at hfin BF BY hfb
    have HF := Lib.hid hfin
    have HH := Lib.hid (And.intro hK1 (And.intro hK2 (And.intro hgg h56)))
    have HD := Lib.hid (show D1 < D2 ∧ w.heap.size ≤ D1 ∧ D2 < W6.heap.size from ⟨by omega, by omega, (Array.getElem?_eq_some_iff.1 hK2).1⟩)
    clear hfin hst hxs hK1 hK2 hgg h56 B1 B2 hsw hMw
    have k0 := cell_regrown (BF.cell (v := .int .i64 f) 0 rfl)
    have k1 := cell_regrown (BY.cell (v := .int .i64 y) 0 rfl)
    have wf : IntKind.i64.wrap (f - 1) = f - 1 := by rw [IntKind.wrap_i64]; omega
    dsimp only
    go_wp2
    refine wp_region_low2 noPosts 4 (by kernel_rfl) (by kernel_rfl) ?_
    simp only [List.take, List.drop]
    iterate 4 (refine low2_step (fun K hK => ?_); go_simp; first | (refine hK _ ?_; clear hK K) | (apply Exists.intro; refine ⟨fun p => ?_, hK _ ?_⟩; clear hK K))
    refine low2_nil ?_
    intro W7 hC
    go_wp2
    obtain ⟨hK1, hK2, hgg, h56⟩ := HH.out
    obtain ⟨d1, d2, d3⟩ := HD.out
    have hK2' := (hC.1.block D2 d3).trans hK2
    have hK1' := (hC.1.block D1 (by omega)).trans hK1
    have hK1'' : (W7.putObj D2 (.deferred none)).heap[D1]? = some (.deferred (some [])) := (World.putObj_heap_other (by omega)).trans hK1'
    refine ⟨by simp, .inl ⟨_, _, rfl, run_takeDeferred hK2', ⟨by simp, .inl ⟨_, _, rfl, run_takeDeferred hK1'', ?_⟩⟩⟩⟩
    refine ⟨_, results_tmp2 rfl _ _ _, ?_, ?_⟩
    · rw [HF.out]; rfl
    · exact (((below_cc (w := w) hC.1 hgg).1).trans (belowK_b (w := w) (Nat.le_refl _) W7 D2 _ _ (by omega) hK2' rfl rfl)).trans (belowK_b (w := w) (Nat.le_refl _) _ D1 _ _ (by omega) hK1'' rfl rfl)
set_option maxHeartbeats 8000000 in
theorem run1 (s : Option Addr × Nat × Nat) (ra : Option Addr) (rc : Nat) (gx gy : Int) (b : Bdy) (sg most : Int) (bs : List OB) (w : World) (hM : RM w) (hw : 2 ≤ w.heap.size) (hsg : sg = 1 ∨ sg = -1) (hb : okBdy b) (hm : 0 ≤ most ∧ most ≤ 4096) (hs : BodsAt w.heap.size w s (bs.map Subtype.val)) :
    Calls Tryz.prog 84 #[Mv s (ra, 0, rc) gx gy b 1 sg, .int .i64 most] w fun e w' => e = .returned (.tuple #[.int .i64 (runI b 1 sg most bs).1, .int .i64 (runI b 1 sg most bs).2]) ∧ Below w.heap.size w w' := by
  obtain ⟨s1, s2, s3⟩ := s
  have bz : -1048576 ≤ b.y ∧ b.y ≤ 1048576 := hb.2.1.2
  obtain ⟨sz, hsz⟩ : ∃ sz, sg * b.y = sz := ⟨_, rfl⟩
  have bsz : -1048576 ≤ sz ∧ sz ≤ 1048576 := by rw [← hsz]; rcases hsg with rfl | rfl <;> omega
  have w1 : IntKind.i64.wrap (sg * b.y) = sz := by rw [hsz, IntKind.wrap_i64]; omega
  have w2 : IntKind.i64.wrap (1048576 - sz) = 1048576 - sz := by rw [IntKind.wrap_i64]; omega
  have hix : ∀ (g q : Nat) (w : World), (Instr.index 139 (.agg #[.pointer (some ⟨g, q, none⟩), .pointer (some ⟨g, q + 1, none⟩)]) (.int .i64 1)).run Tryz.prog w = .ok (.pointer (some ⟨g, q + 1, none⟩)) w := fun g q w => by kernel_rfl
  have HB := Lib.hid (And.intro hM (And.intro hsg (And.intro hb (And.intro hs (And.intro hw hsz)))))
  clear hM hsg hb hs hw hsz bz
  unfold Mv
  refine (callsIn_wide (n := 5)).1 (callsIn_of_wp_marks Tryz.func84 rfl trivial ?_ rfl)
  simp only [Tryz.ntmps84, List.size_toArray, List.length_cons, List.length_nil, Nat.reduceAdd, Nat.reduceSub, Array.replicate_succ, Array.replicate_zero, List.push_toArray, List.append_toArray, List.nil_append, List.cons_append]
  refine wpIn_wide.2 ?_
  go_wp2
  refine wp_name (fun V => Bk V w.heap.size #[.slice s1 s2 s3, .slice ra 0 rc, .int .i64 gx, .int .i64 gy, .int .i64 b.id, .int .i64 b.x, .int .i64 b.y, .int .i64 b.vx, .int .i64 b.vy, .int .i64 b.w, .int .i64 b.h, .bool b.round, .bool b.fixed, .int .i64 1, .int .i64 sg] 143 ∧ Bk V (w.heap.size + 1) #[.int .i64 most] 3 ∧ Below w.heap.size w V) ⟨(Bk.made _ _ _).alloc _, Bk.at_ (by simp), by go_grown⟩ ?_
  rintro V ⟨B1, B2, hgg⟩
  have c1 := cell_regrown (B1.cell (v := .int .i64 sg) 14 rfl)
  have c2 := cell_regrown (B1.cell (v := .int .i64 b.y) 6 rfl)
  have c3 := cell_regrown (B1.cell (v := .int .i64 1) 13 rfl)
  refine wp_region_low2 noPosts 12 (by kernel_rfl) (by kernel_rfl) ?_
  simp only [List.take, List.drop]
  iterate 4 (refine low2_step (fun K hK => ?_); go_simp; first | (refine hK _ ?_; clear hK K) | (apply Exists.intro; refine ⟨fun p => ?_, hK _ ?_⟩; clear hK K))
  refine low2_reads 83 #[.pointer (some ⟨w.heap.size, 5, none⟩)] (.agg #[.pointer (some ⟨w.heap.size, 5, none⟩), .pointer (some ⟨w.heap.size, 5 + 1, none⟩)]) (by rfl) (fun w => by go_simp; try rfl) rfl (by kernel_rfl) (fun V1 hV hG => axes_any _ _ V1) ?_
  iterate 7 (refine low2_step (fun K hK => ?_); go_simp; first | (refine hK _ ?_; clear hK K) | (apply Exists.intro; refine ⟨fun p => ?_, hK _ ?_⟩; clear hK K))
  refine low2_nil ?_
  intro W2 hC
  replace B1 := B1.below hC.1
  replace B2 := B2.below hC.1
  obtain ⟨hgg, hs⟩ := below_cc (w := w) hC.1 hgg
  clear hC c1 c2 c3
  obtain ⟨f0, hf0⟩ : ∃ f0, min most (1048576 - sz) + 1 = f0 := ⟨_, rfl⟩
  obtain ⟨mn, hmn⟩ : ∃ mn, min most (1048576 - sz) = mn := ⟨_, rfl⟩
  have bmn : 0 ≤ mn ∧ mn ≤ 4096 := by omega
  obtain rfl : f0 = mn + 1 := by omega
  have HMN := Lib.hid hmn
  clear hf0 hmn
  have d0 := B1.cell (v := .slice s1 s2 s3) 0 rfl
  have d1 := B1.cell (v := .slice ra 0 rc) 1 rfl
  have d2 := B1.cell (v := .int .i64 gx) 2 rfl
  have d3 := B1.cell (v := .int .i64 gy) 3 rfl
  have d4 := B1.cell (v := .int .i64 b.id) 4 rfl
  have d5 := B1.cell (v := .int .i64 b.x) 5 rfl
  have d6 := B1.cell (v := .int .i64 b.y) 6 rfl
  have d7 := B1.cell (v := .int .i64 b.vx) 7 rfl
  have d8 := B1.cell (v := .int .i64 b.vy) 8 rfl
  have d9 := B1.cell (v := .int .i64 b.w) 9 rfl
  have d10 := B1.cell (v := .int .i64 b.h) 10 rfl
  have d11 := B1.cell (v := .bool b.round) 11 rfl
  have d12 := B1.cell (v := .bool b.fixed) 12 rfl
  have d13 := B1.cell (v := .int .i64 1) 13 rfl
  have d14 := B1.cell (v := .int .i64 sg) 14 rfl
  have p0 := B2.cell (v := .int .i64 most) 0 rfl
  have lt1 := B1.lt
  have lt2 := B2.lt
  have HX := Lib.hid (And.intro w1 (And.intro w2 hix))
  clear w1 w2 hix
  have EM := emk_any (s1, s2, s3) (ra, 0, rc) gx gy b 1 sg
  unfold Mv mcs at EM
  have HEM := Lib.hid EM
  clear EM
  go_wp2_with (refine wpList_min2 _ rfl _ _ _ rfl _ _ _ rfl rfl ?_; rw [HMN.out])
  refine Calls.mono (HEM.out _) ?_
  rintro e W3 ⟨rfl, hW3⟩
  have h3 : (Bk W3 w.heap.size #[.slice s1 s2 s3, .slice ra 0 rc, .int .i64 gx, .int .i64 gy, .int .i64 b.id, .int .i64 b.x, .int .i64 b.y, .int .i64 b.vx, .int .i64 b.vy, .int .i64 b.w, .int .i64 b.h, .bool b.round, .bool b.fixed, .int .i64 1, .int .i64 sg] 143 ∧ Bk W3 (w.heap.size + 1) #[.int .i64 most] 3) ∧ (Bk W3 W2.heap.size #[.int .i64 (mn + 1)] 3 ∧ Bk W3 (W2.heap.size + 1) #[.int .i64 (-1)] 3 ∧ Bk W3 (W2.heap.size + 1 + 1) #[.slice s1 s2 s3, .slice ra 0 rc, .int .i64 gx, .int .i64 gy, .int .i64 b.id, .int .i64 b.x, .int .i64 b.y, .int .i64 b.vx, .int .i64 b.vy, .int .i64 b.w, .int .i64 b.h, .bool b.round, .bool b.fixed, .int .i64 1, .int .i64 sg] 143) ∧ Below w.heap.size w W3 ∧ W3.heap.size = W2.heap.size + 3 := by
    rw [hW3]
    refine ⟨⟨((B1.alloc _).alloc _).alloc _, ((B2.alloc _).alloc _).alloc _⟩, ⟨((Bk.made _ _ _).alloc _).alloc _, (Bk.at_ (by simp)).alloc _, Bk.at_ (by simp)⟩, ?_, by simp⟩
    exact ((hgg.alloc hs _).alloc (by simp; omega) _).alloc (by simp; omega) _
  clear hW3 B1 B2 d0 d1 d2 d3 d4 d5 d6 d7 d8 d9 d10 d11 d12 d13 d14 p0 lt1 hgg
  obtain ⟨⟨B1, B2⟩, ⟨BF, BY, BM⟩, hgg, hz3⟩ := h3
  go_wp2
  refine (wpIn_wide (n := 5)).1 ?_
  refine wpIn_rangeFunc_ownH (F := Fence.wide) (n := 5) rfl (by decide) (gf := 134) (lb := #[.pointer (some ⟨W2.heap.size + 1 + 1, 0, none⟩)]) rfl trivial (enters_of Tryz.func134 (by kernel_rfl) rfl) (ends_stops 4 (W2.heap.size + 1 + 1) (s1, s2, s3) ra rc gx gy b 1 sg W3 BM) (fun _ _ => trivial) (fun _ _ _ _ _ _ _ _ => trivial) (Below.refl _ _) (fun x => x.elim)
    (fun _ W => Below W3.heap.size W3 W) (fun _ _ _ => False) (ownFrom_below (Nat.le_refl _) (Nat.le_refl _)) (fun _ _ _ _ _ hs _ _ => hs) (Below.refl _ _) (fun x => x.elim) (fun x => x.elim) (fun _ _ x => x.elim) (fun _ _ x => x.elim) ?done ?stop
  case stop => intro _ _ _ _ _ h; exact h.elim
  case done =>
  rintro D1 xs W4 hD1 - h4 hK1'
  have hK1 := Lib.hid hK1'
  replace B1 := B1.below h4
  replace B2 := B2.below h4
  replace BF := BF.below h4
  replace BY := BY.below h4
  obtain ⟨hgg, hz4⟩ := below_cc (w := w) h4 hgg
  have hz45 := h4.size
  clear h4 BM hK1'
  dsimp only
  have d0 := B1.cell (v := .slice s1 s2 s3) 0 rfl
  have d1 := B1.cell (v := .slice ra 0 rc) 1 rfl
  have d2 := B1.cell (v := .int .i64 gx) 2 rfl
  have d3 := B1.cell (v := .int .i64 gy) 3 rfl
  have d4 := B1.cell (v := .int .i64 b.id) 4 rfl
  have d5 := B1.cell (v := .int .i64 b.x) 5 rfl
  have d6 := B1.cell (v := .int .i64 b.y) 6 rfl
  have d7 := B1.cell (v := .int .i64 b.vx) 7 rfl
  have d8 := B1.cell (v := .int .i64 b.vy) 8 rfl
  have d9 := B1.cell (v := .int .i64 b.w) 9 rfl
  have d10 := B1.cell (v := .int .i64 b.h) 10 rfl
  have d11 := B1.cell (v := .bool b.round) 11 rfl
  have d12 := B1.cell (v := .bool b.fixed) 12 rfl
  have d13 := B1.cell (v := .int .i64 1) 13 rfl
  have d14 := B1.cell (v := .int .i64 sg) 14 rfl
  have BMK := bmk_any (s1, s2, s3) (ra, 0, rc) gx gy b 1 sg
  unfold Mv mcs at BMK
  have HBMK := Lib.hid BMK
  clear BMK
  go_wp2_with fail
  refine Calls.mono (HBMK.out _) ?_
  rintro e W5 ⟨rfl, hW5⟩
  have h5 : (Bk W5 w.heap.size #[.slice s1 s2 s3, .slice ra 0 rc, .int .i64 gx, .int .i64 gy, .int .i64 b.id, .int .i64 b.x, .int .i64 b.y, .int .i64 b.vx, .int .i64 b.vy, .int .i64 b.w, .int .i64 b.h, .bool b.round, .bool b.fixed, .int .i64 1, .int .i64 sg] 143 ∧ Bk W5 (w.heap.size + 1) #[.int .i64 most] 3) ∧ (Bk W5 W2.heap.size #[.int .i64 (mn + 1)] 3 ∧ Bk W5 (W2.heap.size + 1) #[.int .i64 (-1)] 3 ∧ Bk W5 W4.heap.size #[.slice s1 s2 s3, .slice ra 0 rc, .int .i64 gx, .int .i64 gy, .int .i64 b.id, .int .i64 b.x, .int .i64 b.y, .int .i64 b.vx, .int .i64 b.vy, .int .i64 b.w, .int .i64 b.h, .bool b.round, .bool b.fixed, .int .i64 1, .int .i64 sg] 143) ∧ Below w.heap.size w W5 ∧ W5.heap.size = W4.heap.size + 1 ∧ Hid (W5.heap[D1]? = some (.deferred (some []))) := by
    rw [hW5]
    refine ⟨⟨B1.alloc _, B2.alloc _⟩, ⟨BF.alloc _, BY.alloc _, Bk.made _ _ _⟩, hgg.alloc hz4 _, by simp, Lib.hid ((Below.heap_alloc _ _ _ (Array.getElem?_eq_some_iff.1 hK1.out).1).trans hK1.out)⟩
  have hD1W := (Array.getElem?_eq_some_iff.1 hK1.out).1
  clear hW5 B1 B2 d0 d1 d2 d3 d4 d5 d6 d7 d8 d9 d10 d11 d12 d13 d14 hgg BF BY hK1
  obtain ⟨⟨B1, B2⟩, ⟨BF, BY, BM⟩, hgg, hz5, hK1⟩ := h5
  go_wp2
  refine (wpIn_wide (n := 5)).1 ?_
  have hMw := HB.out.1
  have h2w := HB.out.2.2.2.2.1
  have hsw := HB.out.2.2.2.1
  have hn0 : 2 ≤ W2.heap.size ∧ W2.heap.size ≤ W5.heap.size := by omega
  refine rf_box (n := 5) (by decide) (gf := 139) (lb := #[.pointer (some ⟨W4.heap.size, 0, none⟩)]) rfl (enters_of Tryz.func139 (by kernel_rfl) rfl)
    (bodies_stops 4 W4.heap.size W2.heap.size (s1, s2, s3) (ra, 0, rc) gx gy b 1 sg bs W5 (hMw.below hgg) hn0 BM ((hsw.below hgg).more hs)) KpB.trans (kpB_b hn0.2)
    (fun pre W => (Bk W w.heap.size #[.slice s1 s2 s3, .slice ra 0 rc, .int .i64 gx, .int .i64 gy, .int .i64 b.id, .int .i64 b.x, .int .i64 b.y, .int .i64 b.vx, .int .i64 b.vy, .int .i64 b.w, .int .i64 b.h, .bool b.round, .bool b.fixed, .int .i64 1, .int .i64 sg] 143 ∧ Bk W (w.heap.size + 1) #[.int .i64 most] 3) ∧ (Bk W W2.heap.size #[.int .i64 (pre.foldl (runStep b 1 sg most) (mn + 1, -1)).1] 3 ∧ Bk W (W2.heap.size + 1) #[.int .i64 (pre.foldl (runStep b 1 sg most) (mn + 1, -1)).2] 3) ∧ (Below w.heap.size w W ∧ W.heap[D1]? = some (.deferred (some []))) ∧ Below w.heap.size W5 W)
    (fun _ _ _ => False)
    ((OwnFrom.and (bk_own _ _ _ _) (bk_own _ _ _ _)).and ((OwnFrom.and (bk_own _ _ _ _) (bk_own _ _ _ _)).and ((OwnFrom.and (ownFrom_below (Nat.le_refl _) (by omega)) (def_own (by omega))).and (ownFrom_below (by omega) (by omega)))))
    (fun _ _ _ _ _ hs _ _ => hs) ⟨⟨B1, B2⟩, ⟨BF, BY⟩, ⟨hgg, hK1.out⟩, Below.refl _ _⟩ 11 133 (fun x => bcs x.1)
    (fun pre W h => h.2.2.2.size) (fun W o h => ⟨(Below.refl _ _).alloc (by omega) _, fun cs t hB => hB.alloc _⟩) ?assign ?body ?done ?stop
  case stop => intro _ _ _ _ _ _ h; exact h.elim
  case assign =>
    intro l x W K hK
    have HK := Lib.hid hK
    clear hK
    simp only [Bv, List.setIfInBounds_toArray, List.set_cons_succ, List.set_cons_zero] at HK ⊢
    gi_wp2
    exact HK.out
  case body =>
    rintro l pre x gO W ⟨⟨B1, B2⟩, ⟨BF, BY⟩, ⟨hgg, hK1⟩, h56⟩ hgO BO -
    obtain ⟨nb, hnb⟩ : ∃ nb, blockedI b x.1 1 sg most = nb := ⟨_, rfl⟩
    have BL := blocked1 (s1, s2, s3) (ra, 0, rc) gx gy b x.1 sg most W (hMw.below hgg) HB.out.2.1 HB.out.2.2.1.2.1.1 HB.out.2.2.1.2.1.2 x.2.2.1.1 x.2.2.1.2 (by omega)
    rw [hnb] at BL
    obtain ⟨st, hst⟩ : ∃ st, pre.foldl (runStep b 1 sg most) (mn + 1, -1) = st := ⟨_, rfl⟩
    have hfold : (pre ++ [x]).foldl (runStep b 1 sg most) (mn + 1, -1) = if nb < st.1 ∨ (nb = st.1 ∧ nb ≤ most ∧ st.2 < 0) then (nb, x.1.id) else st := by
      rw [List.foldl_append, hst, ← hnb]; rfl
    rw [hst] at BF BY
    obtain ⟨f, y⟩ := st
    simp only at hfold BF BY
    have HFO := Lib.hid hfold
    have HBL := Lib.hid BL
    have HH := Lib.hid (And.intro hK1 (And.intro hgg h56))
    have hsz := h56.size
    clear hfold BL hst hnb hK1 hgg h56 hsw hMw
    unfold Mv Bv at HBL
    simp only [Bv, List.setIfInBounds_toArray, List.set_cons_succ, List.set_cons_zero]
    have d0 := B1.cell (v := .slice s1 s2 s3) 0 rfl
    have d1 := B1.cell (v := .slice ra 0 rc) 1 rfl
    have d2 := B1.cell (v := .int .i64 gx) 2 rfl
    have d3 := B1.cell (v := .int .i64 gy) 3 rfl
    have d4 := B1.cell (v := .int .i64 b.id) 4 rfl
    have d5 := B1.cell (v := .int .i64 b.x) 5 rfl
    have d6 := B1.cell (v := .int .i64 b.y) 6 rfl
    have d7 := B1.cell (v := .int .i64 b.vx) 7 rfl
    have d8 := B1.cell (v := .int .i64 b.vy) 8 rfl
    have d9 := B1.cell (v := .int .i64 b.w) 9 rfl
    have d10 := B1.cell (v := .int .i64 b.h) 10 rfl
    have d11 := B1.cell (v := .bool b.round) 11 rfl
    have d12 := B1.cell (v := .bool b.fixed) 12 rfl
    have d13 := B1.cell (v := .int .i64 1) 13 rfl
    have d14 := B1.cell (v := .int .i64 sg) 14 rfl
    have o0 := BO.cell (v := .int .i64 x.1.id) 0 rfl
    have o1 := BO.cell (v := .int .i64 x.1.x) 1 rfl
    have o2 := BO.cell (v := .int .i64 x.1.y) 2 rfl
    have o3 := BO.cell (v := .int .i64 x.1.vx) 3 rfl
    have o4 := BO.cell (v := .int .i64 x.1.vy) 4 rfl
    have o5 := BO.cell (v := .int .i64 x.1.w) 5 rfl
    have o6 := BO.cell (v := .int .i64 x.1.h) 6 rfl
    have o7 := BO.cell (v := .bool x.1.round) 7 rfl
    have o8 := BO.cell (v := .bool x.1.fixed) 8 rfl
    have p0 := B2.cell (v := .int .i64 most) 0 rfl
    gi_wp2_with fail
    refine ⟨trivial, (CallsIn.inRound l (callsIn_wide.2 HBL.out)).mono ?_⟩
    rintro e V ⟨rfl, hbV⟩
    clear d0 d1 d2 d3 d4 d5 d6 d7 d8 d9 d10 d11 d12 d13 d14 o0 o1 o2 o3 o4 o5 o6 o7 o8 p0
    replace B1 := B1.below hbV
    replace B2 := B2.below hbV
    replace BF := BF.below hbV
    replace BY := BY.below hbV
    replace BO := BO.below hbV
    have o0 := BO.cell (v := .int .i64 x.1.id) 0 rfl
    have p0 := B2.cell (v := .int .i64 most) 0 rfl
    have k0 := BF.cell (v := .int .i64 f) 0 rfl
    have k1 := BY.cell (v := .int .i64 y) 0 rfl
    have j0 := BF.free 0
    have j1 := BY.free 0
    have HV := Lib.hid (show (V.heap[D1]? = some (.deferred (some [])) ∧ Below w.heap.size w V ∧ Below w.heap.size W5 V) ∧ KeepsFrom W5.heap.size W V ∧ KpB W2.heap.size W4.heap.size W V from
      ⟨⟨(hbV.block D1 (Array.getElem?_eq_some_iff.1 HH.out.1).1).trans HH.out.1, (below_cc (w := w) hbV HH.out.2.1).1, HH.out.2.2.trans (hbV.mono (by omega))⟩, ⟨hbV.size, fun k o _ hk _ => (hbV.block k (Array.getElem?_eq_some_iff.1 hk).1).trans hk⟩, ⟨hbV.mono (by omega), fun cs t h => h.below hbV⟩⟩)
    have hVs := hbV.size
    have hz5a : W4.heap.size < W5.heap.size := by omega
    clear hbV HH HBL BM hz5
    have fin0 : ¬ (nb < f ∨ (nb = f ∧ nb ≤ most ∧ y < 0)) → ∀ a : Act, ownPostG W5.heap.size (KpB W2.heap.size W4.heap.size) (fun pre W => (Bk W w.heap.size #[.slice s1 s2 s3, .slice ra 0 rc, .int .i64 gx, .int .i64 gy, .int .i64 b.id, .int .i64 b.x, .int .i64 b.y, .int .i64 b.vx, .int .i64 b.vy, .int .i64 b.w, .int .i64 b.h, .bool b.round, .bool b.fixed, .int .i64 1, .int .i64 sg] 143 ∧ Bk W (w.heap.size + 1) #[.int .i64 most] 3) ∧ (Bk W W2.heap.size #[.int .i64 (pre.foldl (runStep b 1 sg most) (mn + 1, -1)).1] 3 ∧ Bk W (W2.heap.size + 1) #[.int .i64 (pre.foldl (runStep b 1 sg most) (mn + 1, -1)).2] 3) ∧ (Below w.heap.size w W ∧ W.heap[D1]? = some (.deferred (some []))) ∧ Below w.heap.size W5 W) (fun _ _ _ => False) (pre ++ [x]) W .normal a V := fun hno a => by
      refine ⟨HV.out.2.1, HV.out.2.2, ⟨B1, B2⟩, ?_, ⟨HV.out.1.2.1, HV.out.1.1⟩, HV.out.1.2.2⟩
      rw [HFO.out, if_neg hno]
      exact ⟨BF, BY⟩
    have fin1 : (nb < f ∨ (nb = f ∧ nb ≤ most ∧ y < 0)) → ∀ a : Act, ownPostG W5.heap.size (KpB W2.heap.size W4.heap.size) (fun pre W => (Bk W w.heap.size #[.slice s1 s2 s3, .slice ra 0 rc, .int .i64 gx, .int .i64 gy, .int .i64 b.id, .int .i64 b.x, .int .i64 b.y, .int .i64 b.vx, .int .i64 b.vy, .int .i64 b.w, .int .i64 b.h, .bool b.round, .bool b.fixed, .int .i64 1, .int .i64 sg] 143 ∧ Bk W (w.heap.size + 1) #[.int .i64 most] 3) ∧ (Bk W W2.heap.size #[.int .i64 (pre.foldl (runStep b 1 sg most) (mn + 1, -1)).1] 3 ∧ Bk W (W2.heap.size + 1) #[.int .i64 (pre.foldl (runStep b 1 sg most) (mn + 1, -1)).2] 3) ∧ (Below w.heap.size w W ∧ W.heap[D1]? = some (.deferred (some []))) ∧ Below w.heap.size W5 W) (fun _ _ _ => False) (pre ++ [x]) W .normal a (((V.setCell ⟨W2.heap.size, 0, none⟩ (.int .i64 nb)).setCell ⟨W2.heap.size + 1, 0, none⟩ (.int .i64 x.1.id)).drew) := fun hyes a => by
      refine ⟨((HV.out.2.1.trans ((KeepsOthers.setCell _ _ _).from _)).trans ((KeepsOthers.setCell _ _ _).from _)).trans ((KeepsOthers.drew _).from _), HV.out.2.2.trans ⟨(((Below.refl _ _).setCell (p := ⟨W2.heap.size, 0, none⟩) (Nat.le_refl _) _).setCell (p := ⟨W2.heap.size + 1, 0, none⟩) (Nat.le_succ _) _).drew, fun cs t h => (h.far (p := ⟨W2.heap.size, 0, none⟩) (by simp; omega) _).far (p := ⟨W2.heap.size + 1, 0, none⟩) (by simp; omega) _⟩, ⟨(B1.far (p := ⟨W2.heap.size, 0, none⟩) (by simp; omega) _).far (p := ⟨W2.heap.size + 1, 0, none⟩) (by simp; omega) _, (B2.far (p := ⟨W2.heap.size, 0, none⟩) (by simp; omega) _).far (p := ⟨W2.heap.size + 1, 0, none⟩) (by simp; omega) _⟩, ?_, ⟨((HV.out.1.2.1.setCell (p := ⟨W2.heap.size, 0, none⟩) (by simp; omega) _).setCell (p := ⟨W2.heap.size + 1, 0, none⟩) (by simp; omega) _).drew, ?_⟩, ((HV.out.1.2.2.setCell (p := ⟨W2.heap.size, 0, none⟩) (by simp; omega) _).setCell (p := ⟨W2.heap.size + 1, 0, none⟩) (by simp; omega) _).drew⟩
      · rw [HFO.out, if_pos hyes]
        exact ⟨((BF.put 0 _).far (p := ⟨W2.heap.size + 1, 0, none⟩) (by simp) _), (BY.far (p := ⟨W2.heap.size, 0, none⟩) (by simp) _).put 0 _⟩
      · show ((V.setCell ⟨W2.heap.size, 0, none⟩ (.int .i64 nb)).setCell ⟨W2.heap.size + 1, 0, none⟩ (.int .i64 x.1.id)).heap[D1]? = _
        rw [Below.heap_setCell _ _ _ _ (by simp; omega), Below.heap_setCell _ _ _ _ (by simp; omega)]; exact HV.out.1.1
    have F0 := Lib.hid fin0
    have F1 := Lib.hid fin1
    clear fin0 fin1 HV HFO B1 B2 BF BY BO
    by_cases q1 : nb < f
    · gi_wp2_with gi_region
      all_goals exact F1.out (.inl q1) _
    · by_cases q2 : nb = f
      · have e2 : ((nb : Int) == f) = true := by simp [q2]
        by_cases q3 : nb ≤ most
        · by_cases q4 : y < 0
          · have G := Lib.hid (F1.out (.inr ⟨q2, q3, q4⟩))
            clear F0 F1 q2
            gi_wp2_with gi_region
            all_goals exact G.out _
          · have G := Lib.hid (F0.out (by omega))
            clear F0 F1 q2
            gi_wp2
            exact G.out _
        · have G := Lib.hid (F0.out (by omega))
          clear F0 F1 q2
          gi_wp2
          exact G.out _
      · have e2 : ((nb : Int) == f) = false := by simp [q2]
        have G := Lib.hid (F0.out (by omega))
        clear F0 F1 q2
        gi_wp2
        exact G.out _
  case done =>
    rintro D2 xs W6 hD2 hxs ⟨⟨B1, B2⟩, ⟨BF, BY⟩, ⟨hgg, hK1⟩, h56⟩ hK2
    have hfin : runI b 1 sg most bs = ((xs.foldl (runStep b 1 sg most) (mn + 1, -1)).1 - 1, (xs.foldl (runStep b 1 sg most) (mn + 1, -1)).2) := by
      have h1 : min most (1048576 - sg * along b 1) = mn := by
        have h2 := HB.out.2.2.2.2.2
        rw [← HMN.out, ← h2]; rfl
      unfold runI
      rw [h1, hxs]
    obtain ⟨st, hst⟩ : ∃ st, xs.foldl (runStep b 1 sg most) (mn + 1, -1) = st := ⟨_, rfl⟩
    have hfb := runFold_bd b 1 sg most hm.1 xs (mn + 1, -1) ⟨by simp only; omega, by have := HMN.out; simp only; omega⟩
    rw [hst] at hfin BF BY hfb
    obtain ⟨f, y⟩ := st
    simp only at hfin BF BY hfb
    have HF := Lib.hid hfin
    have HH := Lib.hid (And.intro hK1 (And.intro hK2 (And.intro hgg h56)))
    have HD := Lib.hid (show D1 < D2 ∧ w.heap.size ≤ D1 ∧ D2 < W6.heap.size from ⟨by omega, by omega, (Array.getElem?_eq_some_iff.1 hK2).1⟩)
    clear hfin hst hxs hK1 hK2 hgg h56 B1 B2 hsw hMw
    have k0 := cell_regrown (BF.cell (v := .int .i64 f) 0 rfl)
    have k1 := cell_regrown (BY.cell (v := .int .i64 y) 0 rfl)
    have wf : IntKind.i64.wrap (f - 1) = f - 1 := by rw [IntKind.wrap_i64]; omega
    dsimp only
    go_wp2
    refine wp_region_low2 noPosts 4 (by kernel_rfl) (by kernel_rfl) ?_
    simp only [List.take, List.drop]
    iterate 4 (refine low2_step (fun K hK => ?_); go_simp; first | (refine hK _ ?_; clear hK K) | (apply Exists.intro; refine ⟨fun p => ?_, hK _ ?_⟩; clear hK K))
    refine low2_nil ?_
    intro W7 hC
    go_wp2
    obtain ⟨hK1, hK2, hgg, h56⟩ := HH.out
    obtain ⟨d1, d2, d3⟩ := HD.out
    have hK2' := (hC.1.block D2 d3).trans hK2
    have hK1' := (hC.1.block D1 (by omega)).trans hK1
    have hK1'' : (W7.putObj D2 (.deferred none)).heap[D1]? = some (.deferred (some [])) := (World.putObj_heap_other (by omega)).trans hK1'
    refine ⟨by simp, .inl ⟨_, _, rfl, run_takeDeferred hK2', ⟨by simp, .inl ⟨_, _, rfl, run_takeDeferred hK1'', ?_⟩⟩⟩⟩
    refine ⟨_, results_tmp2 rfl _ _ _, ?_, ?_⟩
    · rw [HF.out]; rfl
    · exact (((below_cc (w := w) hC.1 hgg).1).trans (belowK_b (w := w) (Nat.le_refl _) W7 D2 _ _ (by omega) hK2' rfl rfl)).trans (belowK_b (w := w) (Nat.le_refl _) _ D1 _ _ (by omega) hK1'' rfl rfl)
end Go.Proofs.YtlcjkomfjgddeaaGreatDoor
