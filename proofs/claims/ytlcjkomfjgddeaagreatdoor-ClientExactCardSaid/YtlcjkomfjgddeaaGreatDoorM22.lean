/- step.Step. -/
import Derived.Test.YtlcjkomfjgddeaaGreatDoorM20
import Derived.Deep.DeepCutAuto
set_option linter.unusedVariables false
set_option linter.unusedSimpArgs false
namespace Go.Proofs.YtlcjkomfjgddeaaGreatDoor
open Go Go.RowKit Go.Sort
set_option maxRecDepth 100000
attribute [local go_sem] opLow opUpon opLow2 opUpon2

def aCloneB (w0 : World) (l : List Bdy) : Array Value → Value → World → World → Prop := fun _ v w1 w2 => w0.heap.size ≤ w1.heap.size ∧ RowB w1.heap.size w2 v l
/-- the stops that a step has noted so far: what they are is left open -/
def Stops (base : Nat) (w : World) (v : Value) (m : Nat) : Prop := ∃ xs, w.ownsRow base 148 3 v m xs
theorem RowB.form' {base : Nat} {w : World} {s : Value} {l : List Bdy} (h : RowB base w s l) : ∃ a c, s = .slice a l.length c := by
  rcases h.1.2 with ⟨h1, h2⟩ | ⟨g, cap, cur, hv, hg, hh, h3⟩
  · exact ⟨_, _, by rw [h1, h2]⟩
  · exact ⟨_, _, hv⟩
theorem RowB.mono {base base' : Nat} {w : World} {s : Value} {l : List Bdy} (h : RowB base w s l) (hb : base' ≤ base) : RowB base' w s l := ⟨h.1.mono hb, h.2⟩
theorem RowB.set {base : Nat} {w : World} {s : Value} {l : List Bdy} {p : Addr} {cs : Array Value} {t : TypeId} (h : RowB base w s l) (hp : Bk w p.block cs t) (ht : t ≠ 133) (u : Value) : RowB base (w.setCell p u) s l :=
  ⟨ownsRow_setCell_other h.1 (fun e => bk_ne_row hp ht h.1 e.symm) u, h.2⟩
theorem Stops.set {base m : Nat} {w : World} {s : Value} {p : Addr} {cs : Array Value} {t : TypeId} (h : Stops base w s m) (hp : Bk w p.block cs t) (ht : t ≠ 148) (u : Value) : Stops base (w.setCell p u) s m := by
  obtain ⟨xs, h⟩ := h
  exact ⟨xs, ownsRow_setCell_other h (fun e => bk_ne_row hp ht h e.symm) u⟩
theorem Stops.below {base m : Nat} {w w' : World} {s : Value} (h : Stops base w s m) (hb : Below w.heap.size w w') : Stops base w' s m := by
  obtain ⟨xs, h⟩ := h
  exact ⟨xs, row_below h hb⟩
theorem Stops.form {base m : Nat} {w : World} {s : Value} (h : Stops base w s m) : ∃ a c, s = .slice a m c := by
  obtain ⟨xs, h⟩ := h
  rcases h.2 with ⟨h1, h2⟩ | ⟨g, cap, cur, hv, _⟩
  · exact ⟨_, _, by rw [h1, h2]⟩
  · exact ⟨_, _, hv⟩
/-- the body and its speeds behind a axes -/
def InSt (L : List Bdy) (k : Nat) (b : Bdy) (v0 v1 : Int) : Nat → Bdy → Int → Int → Prop
  | 0, c, u0, u1 => c = b ∧ u0 = v0 ∧ u1 = v1
  | 1, c, u0, u1 => c = (moveAx L b 0 v0).1 ∧ u0 = (moveAx L b 0 v0).2 ∧ u1 = v1
  | _, c, u0, u1 => c = (moveAx (L.set k (moveAx L b 0 v0).1) (moveAx L b 0 v0).1 1 v1).1 ∧ u0 = (moveAx L b 0 v0).2 ∧ u1 = (moveAx (L.set k (moveAx L b 0 v0).1) (moveAx L b 0 v0).1 1 v1).2
theorem InSt_ok {L : List Bdy} {k : Nat} {b c : Bdy} {v0 v1 u0 u1 : Int} {a : Nat} (h : InSt L k b v0 v1 a c u0 u1) (hb : okBdy b) (hf : b.fixed = false) (h0 : -4096 ≤ v0 ∧ v0 ≤ 4096) (h1 : -4096 ≤ v1 ∧ v1 ≤ 4096) :
    okBdy c ∧ c.fixed = false ∧ c.id = b.id ∧ (-4096 ≤ u0 ∧ u0 ≤ 4096) ∧ (-4096 ≤ u1 ∧ u1 ≤ 4096) := by
  have a1 := moveAx_ok L b 0 v0 (.inl rfl) hb hf h0
  have a2 := moveAx_ok (L.set k (moveAx L b 0 v0).1) (moveAx L b 0 v0).1 1 v1 (.inr rfl) a1.1 a1.2.1 h1
  rcases a with _ | _ | a
  · obtain ⟨rfl, rfl, rfl⟩ := h; exact ⟨hb, hf, rfl, h0, h1⟩
  · obtain ⟨rfl, rfl, rfl⟩ := h; exact ⟨a1.1, a1.2.1, a1.2.2.1, a1.2.2.2, h1⟩
  · obtain ⟨rfl, rfl, rfl⟩ := h; exact ⟨a2.1, a2.2.1, a2.2.2.1.trans a1.2.2.1, a1.2.2.2, a2.2.2.2⟩
theorem rowB_bk {base : Nat} {w : World} {g n cap : Nat} {l : List Bdy} (h : RowB base w (.slice (some ⟨g, 0, none⟩) n cap) l) : ∃ cur, Bk w g cur 133 := by
  rcases h.1.2 with ⟨h1, h2⟩ | ⟨g', cap', cur, hv, hg, hh, h3⟩
  · cases h1
  · cases hv; exact ⟨cur, hh⟩
theorem bk_types {w : World} {g g' : Nat} {c c' : Array Value} {t t' : TypeId} (h : Bk w g c t) (h' : Bk w g' c' t') (ht : t ≠ t') : g ≠ g' := by
  rintro rfl
  unfold Bk at h h'
  rw [h] at h'
  injection h' with h'
  injection h' with _ h2 _
  exact ht h2
theorem grown9 {w : World} {g : Nat} (a b c d e f i j k : Nat) (v0 v1 v2 v3 v4 v5 v6 v7 v8 : Value) : w.grownBy (((((((((w.setCell ⟨g, a, none⟩ v0).setCell ⟨g, b, none⟩ v1).setCell ⟨g, c, none⟩ v2).setCell ⟨g, d, none⟩ v3).setCell ⟨g, e, none⟩ v4).setCell ⟨g, f, none⟩ v5).setCell ⟨g, i, none⟩ v6).setCell ⟨g, j, none⟩ v7).setCell ⟨g, k, none⟩ v8) (some g) :=
  grown_set _ (grown_set _ (grown_set _ (grown_set _ (grown_set _ (grown_set _ (grown_set _ (grown_set _ (grown_set _ ⟨rfl, rfl, rfl, Nat.le_refl _, fun _ _ _ => rfl⟩))))))))
structure StepInv (w : World) (l : List Bdy) (gx gy : Int) (s : Option Addr × Nat × Nat) (k : Nat) (s5 : Value) (W : World) : Prop where
  b1 : Bk W w.heap.size #[.slice s.1 s.2.1 s.2.2, .slice none 0 0, .int .i64 gx, .int .i64 gy] 106
  b2 : Bk W (w.heap.size + 1) #[.slice none 0 0, .slice none 0 0, .int .i64 0, .int .i64 0] 106
  row : RowB w.heap.size W (.slice s.1 s.2.1 s.2.2) l
  stops : ∃ m, m ≤ k ∧ Stops w.heap.size W s5 m
  bel : Below w.heap.size w W
theorem Bk.store4 {B g : Nat} {t : TypeId} {w1 w : World} {x0 x1 x2 x3 y0 y1 y2 y3 : Value} (h : Bk w g #[x0, x1, x2, x3] t) (hB : Below B w1 w) (hg : B ≤ g) :
    Bk ((((w.setCell ⟨g, 0, none⟩ y0).setCell ⟨g, 1, none⟩ y1).setCell ⟨g, 2, none⟩ y2).setCell ⟨g, 3, none⟩ y3) g #[y0, y1, y2, y3] t ∧ Below B w1 ((((w.setCell ⟨g, 0, none⟩ y0).setCell ⟨g, 1, none⟩ y1).setCell ⟨g, 2, none⟩ y2).setCell ⟨g, 3, none⟩ y3) := by
  have P1 : Bk (w.setCell ⟨g, 0, none⟩ y0) g #[y0, x1, x2, x3] t := h.put 0 y0
  have G1 := hB.setCell (p := ⟨g, 0, none⟩) hg y0
  have P2 : Bk ((w.setCell ⟨g, 0, none⟩ y0).setCell ⟨g, 1, none⟩ y1) g #[y0, y1, x2, x3] t := P1.put 1 y1
  have G2 := G1.setCell (p := ⟨g, 1, none⟩) hg y1
  have P3 : Bk (((w.setCell ⟨g, 0, none⟩ y0).setCell ⟨g, 1, none⟩ y1).setCell ⟨g, 2, none⟩ y2) g #[y0, y1, y2, x3] t := P2.put 2 y2
  have G3 := G2.setCell (p := ⟨g, 2, none⟩) hg y2
  have P4 : Bk ((((w.setCell ⟨g, 0, none⟩ y0).setCell ⟨g, 1, none⟩ y1).setCell ⟨g, 2, none⟩ y2).setCell ⟨g, 3, none⟩ y3) g #[y0, y1, y2, y3] t := P3.put 3 y3
  have G4 := G3.setCell (p := ⟨g, 3, none⟩) hg y3
  exact ⟨P4, G4⟩
theorem StepInv.below {w : World} {l : List Bdy} {gx gy : Int} {s : Option Addr × Nat × Nat} {k : Nat} {s5 : Value} {W W' : World} (h : StepInv w l gx gy s k s5 W) (hb : Below W.heap.size W W') : StepInv w l gx gy s k s5 W' := by
  obtain ⟨m, h1, h2⟩ := h.stops
  exact ⟨h.b1.below hb, h.b2.below hb, h.row.below hb, ⟨m, h1, h2.below hb⟩, (below_cc hb h.bel).1⟩
theorem StepInv.grown {w : World} {l l' : List Bdy} {gx gy : Int} {gb n cap k : Nat} {s5 : Value} {W W' : World} (h : StepInv w l gx gy (some ⟨gb, 0, none⟩, n, cap) k s5 W) (hg : W.grownBy W' (some gb)) (hr : RowB w.heap.size W' (.slice (some ⟨gb, 0, none⟩) n cap) l') (hgb : w.heap.size ≤ gb) : StepInv w l' gx gy (some ⟨gb, 0, none⟩, n, cap) k s5 W' := by
  obtain ⟨cur, hcur⟩ := rowB_bk h.row
  obtain ⟨m, h1, xs, h2⟩ := h.stops
  have e1 := bk_types h.b1 hcur (by decide)
  have e2 := bk_types h.b2 hcur (by decide)
  have e3 := bk_ne_row hcur (by decide) h2
  exact ⟨(hg.block _ h.b1.lt (fun e => e1 (Option.some.inj e))).trans h.b1, (hg.block _ h.b2.lt (fun e => e2 (Option.some.inj e))).trans h.b2, hr, ⟨m, h1, xs, h2.kept hg (.inr fun e => e3 e.symm)⟩, h.bel.grown hg h.bel.size (fun k e => by cases e; exact hgb)⟩
theorem StepInv.mono {w : World} {l : List Bdy} {gx gy : Int} {s : Option Addr × Nat × Nat} {k k' : Nat} {s5 : Value} {W : World} (h : StepInv w l gx gy s k s5 W) (hk : k ≤ k') : StepInv w l gx gy s k' s5 W := by
  obtain ⟨m, h1, h2⟩ := h.stops
  exact ⟨h.b1, h.b2, h.row, ⟨m, by omega, h2⟩, h.bel⟩
theorem StepInv.app {w : World} {l : List Bdy} {gx gy : Int} {gb n cap k m : Nat} {s5 v' : Value} {xs xs' : List Value} {W W' : World} (h : StepInv w l gx gy (some ⟨gb, 0, none⟩, n, cap) k s5 W) (hg : W.grownBy W' s5.ownBlock) (h2 : W.ownsRow w.heap.size 148 3 s5 m xs) (hm : m ≤ k) (h3 : W'.ownsRow w.heap.size 148 3 v' (m + 1) xs') : StepInv w l gx gy (some ⟨gb, 0, none⟩, n, cap) (k + 1) v' W' := by
  obtain ⟨cur, hcur⟩ := rowB_bk h.row
  have e1 := bk_ne_row h.b1 (by decide) h2
  have e2 := bk_ne_row h.b2 (by decide) h2
  have e3 := bk_ne_row hcur (by decide) h2
  exact ⟨(hg.block _ h.b1.lt e1).trans h.b1, (hg.block _ h.b2.lt e2).trans h.b2, ⟨h.row.1.kept hg (.inr e3), h.row.2⟩, ⟨m + 1, by omega, xs', h3⟩, h.bel.grown hg h.bel.size (fun k e => (h2.lt k e).1)⟩
theorem moveAx_is {L : List Bdy} {b : Bdy} {ax v mo fa : Int} (hmo : max v (-v) = mo) (hfa : (runB b ax (signI v) mo L).1 = fa) : moveAx L b ax v = (shI b ax (signI v * fa), if fa < mo then 0 else v) := by
  unfold moveAx; rw [hmo, hfa]
def StepPost (w : World) (l : List Bdy) (gx gy : Int) (e : Ending) (w' : World) : Prop :=
  ∃ (a sa : Option Addr) (n c sn sc : Nat), e = .returned (.tuple #[Sv a n c gx gy, .slice sa sn sc, .int .i64 0]) ∧ BodiesAt w' (.slice a n c) (stepB gx gy l l.length) ∧ Below w.heap.size w w'
set_option maxHeartbeats 8000000 in
theorem step_any (a : Option Addr) (n c : Nat) (l : List Bdy) (gx gy : Int) (w : World) (hM : RM w) (hw : 2 ≤ w.heap.size) (h : BodiesAt w (.slice a n c) l) (hok : ∀ x ∈ l, okBdy x) (hr : Rises (l.map Bdy.id)) (hlen : l.length ≤ 64) (hg : okG gx gy) :
    Calls Tryz.prog 59 #[Sv a n c gx gy] w (StepPost w l gx gy) := by
  have IV := fun V hV => ivalid_any a n c l gx gy V (h.below hV) hok hr hlen hg
  have HIV := Lib.hid IV
  have HH := Lib.hid (And.intro h (And.intro hok (And.intro hr (And.intro hg (And.intro hM hw)))))
  have hn : n = l.length := ListAt.len h
  have HN := Lib.hid hn
  have hn64 : n ≤ 64 := by omega
  clear IV h hok hr hg hM hn hlen hw
  go_enter Tryz.func59, Tryz.ntmps59
  go_wp2_with fail
  refine Calls.mono (HIV.out _ (((Below.refl _ _).alloc (Nat.le_refl _) _).alloc (by simp) _)) ?_
  rintro e W1 ⟨rfl, hb1⟩
  have B1 : Bk W1 w.heap.size #[.slice a n c, .slice none 0 0, .int .i64 gx, .int .i64 gy] 106 := Bk.below ((Bk.made _ _ _).alloc _) hb1
  have B2 : Bk W1 (w.heap.size + 1) #[.slice none 0 0, .slice none 0 0, .int .i64 0, .int .i64 0] 106 := Bk.below (Bk.at_ (by simp)) hb1
  obtain ⟨hgg, hs⟩ := below_cc (w := w) hb1 (by go_grown)
  clear hb1
  go_wp2
  have p0 := cell_regrown (B1.cell (v := .slice a n c) 0 rfl)
  have p1 := cell_regrown (B1.cell (v := .slice none 0 0) 1 rfl)
  have hT : (post1 80 (aCloneB w l)) 81 = none := by first | rfl | (unfold post1; rfl)
  refine wp_region_low2 (post1 80 (aCloneB w l)) 7 (by kernel_rfl) (by kernel_rfl) ?_
  simp only [List.take, List.drop]
  iterate 2 (refine low2_step (fun K hK => ?_); go_simp; first | (refine hK _ ?_; clear hK K) | (apply Exists.intro; refine ⟨fun p => ?_, hK _ ?_⟩; clear hK K))
  refine low2_call 80 #[.slice a n c] (aCloneB w l) (by rfl) (fun w => by go_simp) (by first | rfl | exact post1_same _ _) (fun V hV hG => by
    have hw1 : Below w.heap.size w V := (below_cc hV hgg).1
    exact (cloneB_any (.slice a n c) l V (HH.out.1.below hw1)).mono fun e w' ⟨v, he, hR, hb⟩ => ⟨v, he, ⟨hw1.size, hR⟩, hb⟩) ?_
  rintro vB ⟨_, _, -, h6⟩
  obtain ⟨ab, cb, rfl⟩ := h6.form'
  clear h6
  iterate 2 (refine low2_step (fun K hK => ?_); go_simp; first | (refine hK _ ?_; clear hK K) | (apply Exists.intro; refine ⟨fun p => ?_, hK _ ?_⟩; clear hK K))
  refine low2_reads 81 #[.slice none 0 0] (.slice none 0 0) (by rfl) (fun w => by go_simp; try rfl) hT (by kernel_rfl) (fun V1 hV hG => cloneR_any V1) ?_
  iterate 1 (refine low2_step (fun K hK => ?_); go_simp; first | (refine hK _ ?_; clear hK K) | (apply Exists.intro; refine ⟨fun p => ?_, hK _ ?_⟩; clear hK K))
  refine low2_nil ?_
  intro W2 hC
  obtain ⟨u1, u2, hA, hu1, hu2⟩ := hC.made 2 _ rfl
  have hRow : RowB w.heap.size W2 (.slice ab l.length cb) l := (hA.2.below hu2).mono hA.1
  replace B1 := B1.below hC.1
  replace B2 := B2.below hC.1
  obtain ⟨hgg, hs2⟩ := below_cc (w := w) hC.1 hgg
  clear hC hA hu1 hu2 p0 p1 hT hs
  have p0 := B1.cell (v := .slice a n c) 0 rfl
  have p1 := B1.cell (v := .slice none 0 0) 1 rfl
  have f0 := B1.free 0
  have f1 := B1.free 1
  have lt := B1.lt
  go_upto_region 4 with fail
  have n12 : w.heap.size + 1 ≠ w.heap.size := by omega
  have hInv : StepInv w l gx gy (ab, l.length, cb) 0 (.slice none 0 0) ((W2.setCell ⟨w.heap.size, 0, none⟩ (.slice ab l.length cb)).setCell ⟨w.heap.size, 1, none⟩ (.slice none 0 0)) := by
    have e1 : Bk (W2.setCell ⟨w.heap.size, 0, none⟩ (.slice ab l.length cb)) w.heap.size #[.slice ab l.length cb, .slice none 0 0, .int .i64 gx, .int .i64 gy] 106 := B1.put 0 _
    exact ⟨e1.put 1 _, (B2.far (p := ⟨w.heap.size, 0, none⟩) n12 _).far (p := ⟨w.heap.size, 1, none⟩) n12 _, (hRow.set (p := ⟨w.heap.size, 0, none⟩) B1 (by decide) _).set (p := ⟨w.heap.size, 1, none⟩) e1 (by decide) _, ⟨0, Nat.zero_le _, [], World.ownsRow_nil _ _ _ _⟩, (hgg.setCell (p := ⟨w.heap.size, 0, none⟩) (Nat.le_refl _) _).setCell (p := ⟨w.heap.size, 1, none⟩) (Nat.le_refl _) _⟩
  refine wp_name (fun V => StepInv w l gx gy (ab, l.length, cb) 0 (.slice none 0 0) V) hInv ?_
  clear hInv B1 B2 p0 p1 f0 f1 lt hgg hRow
  intro W3 HI
  have p0 := HI.b1.cell (v := .slice ab l.length cb) 0 rfl
  have HI := Lib.hid HI
  have HS5 := Lib.hid (rfl : stepB gx gy l 0 = l)
  obtain ⟨nl, hnl⟩ : ∃ nl, l.length = nl := ⟨_, rfl⟩
  rw [hnl] at p0 HI ⊢
  have hnl64 : nl ≤ 64 := by have := HN.out; omega
  have HNL := Lib.hid hnl
  clear hnl
  go_wp2
  go_loopw [5, 30] (fun v5 v30 wr => ∃ k : Nat, (k ≤ nl ∧ v30 = .int .i64 k) ∧ StepInv w (stepB gx gy l k) gx gy (ab, nl, cb) (2 * k) v5 wr) (fun _ v30 _ => nl - (intOf v30).toNat)
  case atStart => exact ⟨0, ⟨Nat.zero_le _, rfl⟩, HI.out⟩
  case round =>
    obtain ⟨k, ⟨hk, rfl⟩, HI⟩ := hrel
    obtain ⟨m, hm, hst⟩ := HI.stops
    obtain ⟨sa, sc, rfl⟩ := hst.form
    clear hst p0
    obtain ⟨L, hL⟩ : ∃ L, stepB gx gy l k = L := ⟨_, rfl⟩
    have hok := stepB_ok (gx := gx) (gy := gy) HH.out.2.1 k
    rw [hL] at HI hok
    have HOK := Lib.hid hok
    have HLE := Lib.hid hL
    have HI := Lib.hid HI
    clear hL hok
    by_cases hlt : k < nl
    · obtain ⟨b, hb⟩ := get_lt (l := L) (i := k) (by have := HOK.out.2.1; have := HNL.out; omega)
      have hob := HOK.out.1 b (List.mem_iff_getElem?.2 ⟨k, hb⟩)
      obtain ⟨gb, cb', hv, hgb, hgl, hfz⟩ := HI.out.row.form (by have := (List.getElem?_eq_some_iff.1 hb).1; omega)
      cases hv
      have hcell := HI.out.row.at hb
      obtain ⟨x0, x1, x2, x3, x4, x5, x6, x7, x8⟩ := hcell
      have HBK := Lib.hid (And.intro hb hob)
      have p0 := HI.out.b1.cell (v := .slice (some ⟨gb, 0, none⟩) L.length cb) 0 rfl
      clear hb hob hfz
      obtain ⟨bi, bx, by', bvx, bvy, bw, bh, br, bf⟩ := b
      simp only at x0 x1 x2 x3 x4 x5 x6 x7 x8
      go_upto_region 8 with fail
      refine wp_name (fun V => Bk V wr.heap.size #[.int .i64 bi, .int .i64 bx, .int .i64 by', .int .i64 bvx, .int .i64 bvy, .int .i64 bw, .int .i64 bh, .bool br, .bool bf] 133 ∧ StepInv w L gx gy (some ⟨gb, 0, none⟩, L.length, cb) (2 * k) (.slice sa m sc) V ∧ V.heap.size = wr.heap.size + 1) ⟨Bk.made _ _ _, HI.out.below ((Below.refl _ _).alloc (Nat.le_refl _) _), by simp⟩ ?_
      have HI0 := HI.out.bel.size
      clear x0 x1 x2 x3 x4 x5 x6 x7 x8 p0 HI
      rintro V ⟨B7, HI, hVs⟩
      obtain ⟨g7, hg7e⟩ : ∃ g, wr.heap.size = g := ⟨_, rfl⟩
      rw [hg7e] at B7 hVs hgl HI0 ⊢
      clear hg7e
      have HI := Lib.hid HI
      have y6 := B7.cell (v := .bool bf) 8 rfl
      cases bf
      · have SP := fun V => speed_any ⟨bi, bx, by', bvx, bvy, bw, bh, br, false⟩ gx gy V HBK.out.2 rfl HH.out.2.2.2.1
        unfold Bv at SP
        simp only at SP
        obtain ⟨vx0, hvx0⟩ : ∃ v, clampV (bvx + gx) = v := ⟨_, rfl⟩
        obtain ⟨vy0, hvy0⟩ : ∃ v, clampV (bvy + gy) = v := ⟨_, rfl⟩
        have bvx0 := clampV_bd (bvx + gx)
        have bvy0 := clampV_bd (bvy + gy)
        rw [hvx0] at SP bvx0
        rw [hvy0] at SP bvy0
        have HSP := Lib.hid SP
        have HVV := Lib.hid (And.intro hvx0 hvy0)
        clear SP hvx0 hvy0 y6
        have y0 := B7.cell (v := .int .i64 bi) 0 rfl
        have y1 := B7.cell (v := .int .i64 bx) 1 rfl
        have y2 := B7.cell (v := .int .i64 by') 2 rfl
        have y3 := B7.cell (v := .int .i64 bvx) 3 rfl
        have y4 := B7.cell (v := .int .i64 bvy) 4 rfl
        have y5 := B7.cell (v := .int .i64 bw) 5 rfl
        have y6 := B7.cell (v := .int .i64 bh) 6 rfl
        have y7 := B7.cell (v := .bool br) 7 rfl
        have y8 := B7.cell (v := .bool false) 8 rfl
        have q2 := HI.out.b1.cell (v := .int .i64 gx) 2 rfl
        have q3 := HI.out.b1.cell (v := .int .i64 gy) 3 rfl
        go_wp2_with fail
        refine Calls.mono (HSP.out _) ?_
        rintro e V1 ⟨rfl, hb1⟩
        replace B7 := B7.below hb1
        replace HI := Lib.hid (HI.out.below hb1)
        have hs1 := hb1.size
        clear hb1 y0 y1 y2 y3 y4 y5 y6 y7 y8 q2 q3
        go_wp2_with fail
        refine Calls.mono (axes_any _ _ _) ?_
        rintro e V2 ⟨rfl, hb1⟩
        have B8 : Bk V2 V1.heap.size #[.int .i64 vx0, .int .i64 vy0] 23 := Bk.below (Bk.made _ _ _) hb1
        replace B7 := (B7.alloc (.cells #[.int .i64 vx0, .int .i64 vy0] 23)).below hb1
        replace HI := Lib.hid ((HI.out.below ((Below.refl _ _).alloc (Nat.le_refl _) (.cells #[.int .i64 vx0, .int .i64 vy0] 23))).below hb1)
        have hg7 : w.heap.size ≤ g7 := HI0
        obtain ⟨g8, hg8⟩ : ∃ g, V1.heap.size = g := ⟨_, rfl⟩
        have hg8w : w.heap.size ≤ g8 := by omega
        rw [hg8] at B8 ⊢
        clear hb1 hg8 hs1 hVs
        go_wp2_with fail
        have hix0 : ∀ (g q : Nat) (w : World), (Instr.index 139 (.agg #[.pointer (some ⟨g, q, none⟩), .pointer (some ⟨g, q + 1, none⟩)]) (.int .i64 0)).run Tryz.prog w = .ok (.pointer (some ⟨g, q, none⟩)) w := fun g q w => by kernel_rfl
        have hix1 : ∀ (g q : Nat) (w : World), (Instr.index 139 (.agg #[.pointer (some ⟨g, q, none⟩), .pointer (some ⟨g, q + 1, none⟩)]) (.int .i64 1)).run Tryz.prog w = .ok (.pointer (some ⟨g, q + 1, none⟩)) w := fun g q w => by kernel_rfl
        have HIX := Lib.hid (And.intro hix0 hix1)
        clear hix0 hix1
        have hst0 : ∃ (c : Bdy) (u0 u1 : Int), Hid (InSt L k ⟨bi, bx, by', bvx, bvy, bw, bh, br, false⟩ vx0 vy0 0 c u0 u1) ∧ (Bk V2 g8 #[.int .i64 u0, .int .i64 u1] 23 ∧ Bk V2 g7 #[.int .i64 bi, .int .i64 bx, .int .i64 by', .int .i64 bvx, .int .i64 bvy, .int .i64 bw, .int .i64 bh, .bool br, .bool false] 133) ∧ StepInv w (L.set k c) gx gy (some ⟨gb, 0, none⟩, L.length, cb) (2 * k + 0) (.slice sa m sc) V2 :=
          ⟨⟨bi, bx, by', bvx, bvy, bw, bh, br, false⟩, vx0, vy0, Lib.hid ⟨rfl, rfl, rfl⟩, ⟨B8, B7⟩, by rw [set_self HBK.out.1]; exact HI.out⟩
        have HST0 := Lib.hid hst0
        have HSZ := Lib.hid (And.intro hgb (And.intro hgl hg7))
        clear hst0 B7 B8 HI
        go_loopw [5, 42] (fun v5 v42 W => ∃ (jj : Nat) (xj : Int), (jj ≤ 2 ∧ v42 = .int .i64 xj ∧ xj = jj) ∧ ∃ (cc : Bdy) (u0 u1 : Int), Hid (InSt L k ⟨bi, bx, by', bvx, bvy, bw, bh, br, false⟩ vx0 vy0 jj cc u0 u1) ∧ (Bk W g8 #[.int .i64 u0, .int .i64 u1] 23 ∧ Bk W g7 #[.int .i64 bi, .int .i64 bx, .int .i64 by', .int .i64 bvx, .int .i64 bvy, .int .i64 bw, .int .i64 bh, .bool br, .bool false] 133) ∧ StepInv w (L.set k cc) gx gy (some ⟨gb, 0, none⟩, L.length, cb) (2 * k + jj) v5 W) (fun _ v42 _ => 2 - (intOf v42).toNat)
        case atStart => exact ⟨0, 0, ⟨by omega, rfl, rfl⟩, HST0.out⟩
        case round =>
          obtain ⟨jj, xj, ⟨ha, rfl, hxj⟩, cc, u0, u1, HIN, ⟨B8, B7⟩, HI⟩ := hrel
          obtain ⟨m2, hm2, hst⟩ := HI.stops
          obtain ⟨sa2, sc2, rfl⟩ := hst.form
          clear hst
          have HI := Lib.hid HI
          have hcok := InSt_ok HIN.out HBK.out.2 rfl bvx0 bvy0
          have hcbd := hcok.2.2.2
          have HCO := Lib.hid hcok
          clear hcok
          have hsz := (Lib.hid (And.intro HI.out.bel.size (And.intro B7.lt B8.lt))).out
          rcases (by omega : jj = 0 ∨ jj = 1 ∨ jj = 2) with rfl | rfl | rfl
          · obtain rfl : xj = 0 := by simpa using hxj
            clear hxj
            have hix := HIX.out.1
            have p0 := cell_regrown (HI.out.b1.cell (v := .slice (some ⟨gb, 0, none⟩) L.length cb) 0 rfl)
            have p1 := cell_regrown (HI.out.b1.cell (v := .slice none 0 0) 1 rfl)
            have p2 := cell_regrown (HI.out.b1.cell (v := .int .i64 gx) 2 rfl)
            have p3 := cell_regrown (HI.out.b1.cell (v := .int .i64 gy) 3 rfl)
            have hat : BodyAt wr gb (k * 9) cc := by
              have h1 : RowB w.heap.size wr (.slice (some ⟨gb, 0, none⟩) L.length cb) (L.set k cc) := HI.out.row
              exact h1.at (List.getElem?_set_self hlt)
            obtain ⟨z0, z1, z2, z3, z4, z5, z6, z7, z8⟩ := hat
            replace z0 := cell_regrown z0
            replace z1 := cell_regrown z1
            replace z2 := cell_regrown z2
            replace z3 := cell_regrown z3
            replace z4 := cell_regrown z4
            replace z5 := cell_regrown z5
            replace z6 := cell_regrown z6
            replace z7 := cell_regrown z7
            replace z8 := cell_regrown z8
            go_wp2
            refine wp_region_low2 noPosts 9 (by kernel_rfl) (by kernel_rfl) ?_
            simp only [List.take, List.drop]
            iterate 8 (refine low2_step (fun K hK => ?_); go_simp; first | (refine hK _ ?_; clear hK K) | (apply Exists.intro; refine ⟨fun p => ?_, hK _ ?_⟩; clear hK K))
            refine low2_new (.cells #[.slice none 0 0, .slice none 0 0, .int .i64 0, .int .i64 0, .int .i64 0, .int .i64 0, .int .i64 0, .int .i64 0, .int .i64 0, .int .i64 0, .int .i64 0, .bool false, .bool false, .int .i64 0, .int .i64 0] 143) (by rfl) (fun w => by go_simp; try rfl) ?_
            intro g11
            refine low2_nil ?_
            intro W3 hC
            obtain ⟨zg, B11⟩ : _ ∧ Bk W3 g11 #[.slice none 0 0, .slice none 0 0, .int .i64 0, .int .i64 0, .int .i64 0, .int .i64 0, .int .i64 0, .int .i64 0, .int .i64 0, .int .i64 0, .int .i64 0, .bool false, .bool false, .int .i64 0, .int .i64 0] 143 := hC.made 8 _ rfl
            have hb3 := hC.1
            clear hC p0 p1 p2 p3 z0 z1 z2 z3 z4 z5 z6 z7 z8 hix
            have hstt := Bk.store15 (y0 := .slice (some ⟨gb, 0, none⟩) L.length cb) (y1 := .slice none 0 0) (y2 := .int .i64 gx) (y3 := .int .i64 gy) (y4 := .int .i64 cc.id) (y5 := .int .i64 cc.x) (y6 := .int .i64 cc.y) (y7 := .int .i64 cc.vx) (y8 := .int .i64 cc.vy) (y9 := .int .i64 cc.w) (y10 := .int .i64 cc.h) (y11 := .bool cc.round) (y12 := .bool cc.fixed) (y13 := .int .i64 0) (y14 := .int .i64 1) B11 hb3 zg
            have HST := Lib.hid hstt
            have s0 := B11.cell (v := .slice none 0 0) 0 rfl
            have sf0 := B11.free 0
            have s1 := B11.cell (v := .slice none 0 0) 1 rfl
            have sf1 := B11.free 1
            have s2 := B11.cell (v := .int .i64 0) 2 rfl
            have sf2 := B11.free 2
            have s3 := B11.cell (v := .int .i64 0) 3 rfl
            have sf3 := B11.free 3
            have s4 := B11.cell (v := .int .i64 0) 4 rfl
            have sf4 := B11.free 4
            have s5 := B11.cell (v := .int .i64 0) 5 rfl
            have sf5 := B11.free 5
            have s6 := B11.cell (v := .int .i64 0) 6 rfl
            have sf6 := B11.free 6
            have s7 := B11.cell (v := .int .i64 0) 7 rfl
            have sf7 := B11.free 7
            have s8 := B11.cell (v := .int .i64 0) 8 rfl
            have sf8 := B11.free 8
            have s9 := B11.cell (v := .int .i64 0) 9 rfl
            have sf9 := B11.free 9
            have s10 := B11.cell (v := .int .i64 0) 10 rfl
            have sf10 := B11.free 10
            have s11 := B11.cell (v := .bool false) 11 rfl
            have sf11 := B11.free 11
            have s12 := B11.cell (v := .bool false) 12 rfl
            have sf12 := B11.free 12
            have s13 := B11.cell (v := .int .i64 0) 13 rfl
            have sf13 := B11.free 13
            have s14 := B11.cell (v := .int .i64 0) 14 rfl
            have sf14 := B11.free 14
            have lt11 := B11.lt
            clear hstt hb3
            go_upto_region 14 with fail
            refine wp_name (fun V => Bk V g11 #[.slice (some ⟨gb, 0, none⟩) L.length cb, .slice none 0 0, .int .i64 gx, .int .i64 gy, .int .i64 cc.id, .int .i64 cc.x, .int .i64 cc.y, .int .i64 cc.vx, .int .i64 cc.vy, .int .i64 cc.w, .int .i64 cc.h, .bool cc.round, .bool cc.fixed, .int .i64 0, .int .i64 1] 143 ∧ Below wr.heap.size wr V) HST.out ?_
            clear s0 sf0 s1 sf1 s2 sf2 s3 sf3 s4 sf4 s5 sf5 s6 sf6 s7 sf7 s8 sf8 s9 sf9 s10 sf10 s11 sf11 s12 sf12 s13 sf13 s14 sf14 B11 HST lt11
            rintro V4 ⟨B11, hb4⟩
            have hs4 := hb4.size
            have HB4 := Lib.hid hb4
            have e0 := (B8.below hb4).cell (v := .int .i64 u0) 0 rfl
            clear hb4
            go_upto_if 57 with fail
            go_cut [11] (fun v11 wx => (v11 = .pointer (some ⟨g11, 0, none⟩) ∧ Bk wx g11 #[.slice (some ⟨gb, 0, none⟩) L.length cb, .slice none 0 0, .int .i64 gx, .int .i64 gy, .int .i64 cc.id, .int .i64 cc.x, .int .i64 cc.y, .int .i64 cc.vx, .int .i64 cc.vy, .int .i64 cc.w, .int .i64 cc.h, .bool cc.round, .bool cc.fixed, .int .i64 0, .int .i64 (signI u0)] 143) ∧ Below wr.heap.size wr wx)
            case first =>
              have s14 := B11.cell (v := .int .i64 1) 14 rfl
              have sf14 := B11.free 14
              by_cases hneg : u0 < 0
              · have hsg : signI u0 = -1 := by unfold signI; rw [if_pos hneg]
                have HSG := Lib.hid hsg
                have B11' := B11.put 14 (.int .i64 (-1))
                have HB11 := Lib.hid B11'
                clear hsg B11'
                go_wp2
                go_meet
                case rel => exact ⟨⟨rfl, by rw [HSG.out]; exact HB11.out⟩, HB4.out.setCell (p := ⟨g11, 14, none⟩) zg _⟩
              · have hsg : signI u0 = 1 := by unfold signI; rw [if_neg hneg]
                have HSG := Lib.hid hsg
                clear hsg
                go_wp2
                go_meet
                case rel => exact ⟨⟨rfl, by rw [HSG.out]; exact B11⟩, HB4.out⟩
            case rest =>
            obtain ⟨⟨rfl, B11⟩, hb5⟩ := hcut
            clear e0 hs4 HB4 zg
            replace B8 := B8.below hb5
            replace B7 := B7.below hb5
            replace HI := Lib.hid (HI.out.below hb5)
            clear hb5
            obtain ⟨mo, hmo⟩ : ∃ mo, max u0 (-u0) = mo := ⟨_, rfl⟩
            have bmo : 0 ≤ mo ∧ mo ≤ 4096 := by omega
            have HMO := Lib.hid hmo
            have wn : IntKind.i64.wrap (-u0) = -u0 := by rw [IntKind.wrap_i64]; omega
            have e0 := cell_regrown (B8.cell (v := .int .i64 u0) 0 rfl)
            clear hmo
            go_wp2
            refine wp_region_low2 noPosts 8 (by kernel_rfl) (by kernel_rfl) ?_
            simp only [List.take, List.drop]
            iterate 7 (refine low2_step (fun K hK => ?_); go_simp; first | (refine hK _ ?_; clear hK K) | (apply Exists.intro; refine ⟨fun p => ?_, hK _ ?_⟩; clear hK K))
            refine low2_max _ _ _ (by rfl) rfl .i64 u0 (-u0) rfl rfl ?_
            rw [HMO.out]
            refine low2_nil ?_
            intro W5 hC
            replace B8 := B8.below hC.1
            replace B7 := B7.below hC.1
            replace B11 := B11.below hC.1
            replace HI := Lib.hid (HI.out.below hC.1)
            clear hC e0 wn
            have hokL : ∀ x ∈ L.set k cc, okBdy x := fun x hx => by
              rcases List.mem_or_eq_of_mem_set hx with h | rfl
              · exact HOK.out.1 x h
              · exact HCO.out.1
            have hsgn : signI u0 = 1 ∨ signI u0 = -1 := by unfold signI; split <;> simp
            have RN := run_any (some ⟨gb, 0, none⟩, L.length, cb) gx gy cc 0 (signI u0) mo (L.set k cc) W5 (HH.out.2.2.2.2.1.below HI.out.bel) (Nat.le_trans HH.out.2.2.2.2.2 HI.out.bel.size) (by decide) hsgn HCO.out.1 bmo hokL (RowB.bods (s := (some ⟨gb, 0, none⟩, L.length, cb)) HI.out.row)
            obtain ⟨fa, hfa⟩ : ∃ f, (runB cc 0 (signI u0) mo (L.set k cc)).1 = f := ⟨_, rfl⟩
            obtain ⟨bb, hbb⟩ : ∃ f, (runB cc 0 (signI u0) mo (L.set k cc)).2 = f := ⟨_, rfl⟩
            rw [hfa, hbb] at RN
            unfold Mv at RN
            have HRN := Lib.hid RN
            have HFA := Lib.hid hfa
            clear RN hfa hbb hokL
            have s0 := B11.cell (v := .slice (some ⟨gb, 0, none⟩) L.length cb) 0 rfl
            have s1 := B11.cell (v := .slice none 0 0) 1 rfl
            have s2 := B11.cell (v := .int .i64 gx) 2 rfl
            have s3 := B11.cell (v := .int .i64 gy) 3 rfl
            have s4 := B11.cell (v := .int .i64 cc.id) 4 rfl
            have s5 := B11.cell (v := .int .i64 cc.x) 5 rfl
            have s6 := B11.cell (v := .int .i64 cc.y) 6 rfl
            have s7 := B11.cell (v := .int .i64 cc.vx) 7 rfl
            have s8 := B11.cell (v := .int .i64 cc.vy) 8 rfl
            have s9 := B11.cell (v := .int .i64 cc.w) 9 rfl
            have s10 := B11.cell (v := .int .i64 cc.h) 10 rfl
            have s11 := B11.cell (v := .bool cc.round) 11 rfl
            have s12 := B11.cell (v := .bool cc.fixed) 12 rfl
            have s13 := B11.cell (v := .int .i64 0) 13 rfl
            have s14 := B11.cell (v := .int .i64 (signI u0)) 14 rfl
            go_wp2_with fail
            refine Calls.mono HRN.out ?_
            rintro e W6 ⟨rfl, hb6⟩
            replace B8 := B8.below hb6
            replace B7 := B7.below hb6
            replace B11 := B11.below hb6
            replace HI := Lib.hid (HI.out.below hb6)
            clear hb6 s0 s1 s2 s3 s4 s5 s6 s7 s8 s9 s10 s11 s12 s13 s14
            have hfb : 0 ≤ fa ∧ fa ≤ mo := by
              have h1 := runB_bd cc 0 (signI u0) mo (L.set k cc) bmo.1 (by
                have h2 := HCO.out.1.2.1
                unfold along
                rcases hsgn with h | h <;> rw [h] <;> simp <;> omega)
              rw [HFA.out] at h1
              exact ⟨h1.1, h1.2.1⟩
            obtain ⟨q, hq⟩ : ∃ q, shI cc 0 (signI u0 * fa) = q := ⟨_, rfl⟩
            have MA := fun V => mat_any (some ⟨gb, 0, none⟩, L.length, cb) (none, 0, 0) gx gy cc 0 (signI u0) fa (by decide) hsgn (by have := HCO.out.1.2.1.1; omega) (by have := HCO.out.1.2.1.2; omega) (by omega) V
            rw [hq] at MA
            unfold Mv Bv at MA
            have HMA := Lib.hid MA
            have HQ := Lib.hid hq
            clear MA hq
            have p0 := cell_regrown (HI.out.b1.cell (v := .slice (some ⟨gb, 0, none⟩) L.length cb) 0 rfl)
            have s0 := cell_regrown (B11.cell (v := .slice (some ⟨gb, 0, none⟩) L.length cb) 0 rfl)
            have s1 := cell_regrown (B11.cell (v := .slice none 0 0) 1 rfl)
            have s2 := cell_regrown (B11.cell (v := .int .i64 gx) 2 rfl)
            have s3 := cell_regrown (B11.cell (v := .int .i64 gy) 3 rfl)
            have s4 := cell_regrown (B11.cell (v := .int .i64 cc.id) 4 rfl)
            have s5 := cell_regrown (B11.cell (v := .int .i64 cc.x) 5 rfl)
            have s6 := cell_regrown (B11.cell (v := .int .i64 cc.y) 6 rfl)
            have s7 := cell_regrown (B11.cell (v := .int .i64 cc.vx) 7 rfl)
            have s8 := cell_regrown (B11.cell (v := .int .i64 cc.vy) 8 rfl)
            have s9 := cell_regrown (B11.cell (v := .int .i64 cc.w) 9 rfl)
            have s10 := cell_regrown (B11.cell (v := .int .i64 cc.h) 10 rfl)
            have s11 := cell_regrown (B11.cell (v := .bool cc.round) 11 rfl)
            have s12 := cell_regrown (B11.cell (v := .bool cc.fixed) 12 rfl)
            have s13 := cell_regrown (B11.cell (v := .int .i64 0) 13 rfl)
            have s14 := cell_regrown (B11.cell (v := .int .i64 (signI u0)) 14 rfl)
            go_wp2
            refine wp_region_low2 noPosts 7 (by kernel_rfl) (by kernel_rfl) ?_
            simp only [List.take, List.drop]
            iterate 5 (refine low2_step (fun K hK => ?_); go_simp; first | (refine hK _ ?_; clear hK K) | (apply Exists.intro; refine ⟨fun p => ?_, hK _ ?_⟩; clear hK K))
            refine low2_reads 85 #[.agg #[.slice (some ⟨gb, 0, none⟩) L.length cb, .slice none 0 0, .int .i64 gx, .int .i64 gy, .int .i64 cc.id, .int .i64 cc.x, .int .i64 cc.y, .int .i64 cc.vx, .int .i64 cc.vy, .int .i64 cc.w, .int .i64 cc.h, .bool cc.round, .bool cc.fixed, .int .i64 0, .int .i64 (signI u0)], .int .i64 fa] (.agg #[.int .i64 q.id, .int .i64 q.x, .int .i64 q.y, .int .i64 q.vx, .int .i64 q.vy, .int .i64 q.w, .int .i64 q.h, .bool q.round, .bool q.fixed]) (by rfl) (fun w => by go_simp; try rfl) rfl (by kernel_rfl) (fun V1 hV hG => HMA.out V1) ?_
            iterate 1 (refine low2_step (fun K hK => ?_); go_simp; first | (refine hK _ ?_; clear hK K) | (apply Exists.intro; refine ⟨fun p => ?_, hK _ ?_⟩; clear hK K))
            refine low2_nil ?_
            intro W7 hC
            replace B8 := B8.below hC.1
            replace B7 := B7.below hC.1
            replace HI := Lib.hid (HI.out.below hC.1)
            clear hC p0 s0 s1 s2 s3 s4 s5 s6 s7 s8 s9 s10 s11 s12 s13 s14 B11
            have hat : BodyAt W7 gb (k * 9) cc := by
              have h1 : RowB w.heap.size W7 (.slice (some ⟨gb, 0, none⟩) L.length cb) (L.set k cc) := HI.out.row
              exact h1.at (List.getElem?_set_self hlt)
            obtain ⟨z0, z1, z2, z3, z4, z5, z6, z7, z8⟩ := hat
            obtain ⟨cur, hcur⟩ := rowB_bk HI.out.row
            have hgl7 := hcur.lt
            have hfz := hcur.free
            have hfz0 := hfz (k * 9)
            have hfz1 := hfz (k * 9 + 1)
            have hfz2 := hfz (k * 9 + 2)
            have hfz3 := hfz (k * 9 + 3)
            have hfz4 := hfz (k * 9 + 4)
            have hfz5 := hfz (k * 9 + 5)
            have hfz6 := hfz (k * 9 + 6)
            have hfz7 := hfz (k * 9 + 7)
            have hfz8 := hfz (k * 9 + 8)
            have HFZ := Lib.hid hfz
            clear hfz
            have hrow' : RowB w.heap.size W7 (.slice (some ⟨gb, 0, none⟩) L.length cb) (L.set k cc) := HI.out.row
            have hst9 := hrow'.store (List.getElem?_set_self hlt) q
            rw [List.set_set] at hst9
            have HS9 := Lib.hid hst9
            have n8 : g8 ≠ gb := bk_types B8 hcur (by decide)
            have n7 : g7 ≠ gb := by have := HSZ.out.2.1; omega
            clear hrow' hst9 hcur
            go_upto_region 19 with fail
            refine wp_name (fun V => StepInv w (L.set k q) gx gy (some ⟨gb, 0, none⟩, L.length, cb) (2 * k + 0) (.slice sa2 m2 sc2) V ∧ Bk V g8 #[.int .i64 u0, .int .i64 u1] 23 ∧ Bk V g7 #[.int .i64 bi, .int .i64 bx, .int .i64 by', .int .i64 bvx, .int .i64 bvy, .int .i64 bw, .int .i64 bh, .bool br, .bool false] 133) ⟨HI.out.grown (grown9 _ _ _ _ _ _ _ _ _ _ _ _ _ _ _ _ _ _) HS9.out HSZ.out.1, (((((((((B8.far (p := ⟨gb, k * 9, none⟩) n8 _).far (p := ⟨gb, k * 9 + 1, none⟩) n8 _).far (p := ⟨gb, k * 9 + 2, none⟩) n8 _).far (p := ⟨gb, k * 9 + 3, none⟩) n8 _).far (p := ⟨gb, k * 9 + 4, none⟩) n8 _).far (p := ⟨gb, k * 9 + 5, none⟩) n8 _).far (p := ⟨gb, k * 9 + 6, none⟩) n8 _).far (p := ⟨gb, k * 9 + 7, none⟩) n8 _).far (p := ⟨gb, k * 9 + 8, none⟩) n8 _), (((((((((B7.far (p := ⟨gb, k * 9, none⟩) n7 _).far (p := ⟨gb, k * 9 + 1, none⟩) n7 _).far (p := ⟨gb, k * 9 + 2, none⟩) n7 _).far (p := ⟨gb, k * 9 + 3, none⟩) n7 _).far (p := ⟨gb, k * 9 + 4, none⟩) n7 _).far (p := ⟨gb, k * 9 + 5, none⟩) n7 _).far (p := ⟨gb, k * 9 + 6, none⟩) n7 _).far (p := ⟨gb, k * 9 + 7, none⟩) n7 _).far (p := ⟨gb, k * 9 + 8, none⟩) n7 _)⟩ ?_
            rintro V8 ⟨HI, B8, B7⟩
            clear hfz0 hfz1 hfz2 hfz3 hfz4 hfz5 hfz6 hfz7 hfz8 HFZ HS9 n8 n7 z0 z1 z2 z3 z4 z5 z6 z7 z8 hgl7
            have HI := Lib.hid HI
            have hmv : ∀ (u' : Int), u' = (if fa < mo then 0 else u0) → InSt L k ⟨bi, bx, by', bvx, bvy, bw, bh, br, false⟩ vx0 vy0 (0 + 1) q u' u1 := fun u' hu' => by
              have h1 := moveAx_is HMO.out HFA.out
              rw [HQ.out, ← hu'] at h1
              have h2 := HIN.out
              obtain ⟨rfl, rfl, rfl⟩ := h2
              rw [set_self HBK.out.1] at h1
              exact ⟨by rw [h1], by rw [h1], rfl⟩
            have HMV := Lib.hid hmv
            clear hmv
            by_cases hfm : fa < mo
            · rw [if_pos hfm] at HMV
              have G := Lib.hid (HMV.out _ rfl)
              have wj : IntKind.i64.wrap (0 + 1) = 0 + 1 := by rw [IntKind.wrap_i64]; omega
              have hiy : ∀ (w : World), (Instr.index 146 (.agg #[.int .u8 1, .int .u8 2]) (.int .i64 0)).run Tryz.prog w = .ok (.int .u8 (0 + 1)) w := fun w => by kernel_rfl
              have c7 := cell_regrown (B7.cell (v := .int .i64 bi) 0 rfl)
              obtain ⟨i0, hi, hz0, hz1, hz2⟩ := info_parts infoS
              obtain ⟨m3, hm3, xs, hxs⟩ := HI.out.stops
              obtain rfl : m3 = m2 := by
                rcases hxs.2 with ⟨h1, h2⟩ | ⟨g', cap', cur', h1, _⟩
                · cases h1; exact h2
                · cases h1; rfl
              have HXS := Lib.hid hxs
              have HIi := Lib.hid hi
              clear HMV hxs hi
              go_wp2
              refine wp_region_low2 noPosts 9 (by kernel_rfl) (by kernel_rfl) ?_
              simp only [List.take, List.drop]
              iterate 8 (refine low2_step (fun K hK => ?_); go_simp; first | (refine hK _ ?_; clear hK K) | (apply Exists.intro; refine ⟨fun p => ?_, hK _ ?_⟩; clear hK K))
              refine low2_slice 1 1 (.cells #[.int .i64 bi, .int .u8 (0 + 1), .int .i64 bb] 148) (by rfl) (fun w => by go_simp; try rfl) ?_
              intro g9
              refine low2_nil ?_
              intro W9 hC
              obtain ⟨z9, B9⟩ : _ ∧ Bk W9 g9 #[.int .i64 bi, .int .u8 (0 + 1), .int .i64 bb] 148 := hC.made 8 _ rfl
              replace B8 := B8.below hC.1
              replace B7 := B7.below hC.1
              replace HXS := Lib.hid (row_below HXS.out hC.1)
              replace HI := Lib.hid (HI.out.below hC.1)
              have hk64 : k < 64 := by omega
              clear hC c7 hiy
              refine wpList_append_mine _ rfl _ _ 73 rfl w.heap.size 148 i0 (.agg #[.int .i64 0, .int .u8 0, .int .i64 0]) 3 24 Tryz.underlying73 HIi.out hz0 hz1 hz2 rfl (by decide) _ _ _ rfl HXS.out ⟨g9, 0, none⟩ 1 1 [.int .i64 bi, .int .u8 (0 + 1), .int .i64 bb] rfl rfl ?c1 ?c2 (by decide) ?c4 ?c5 HI.out.bel.size ?_
              case c1 =>
                intro j u hj
                match j, hj with
                | 0, hj => simp at hj; subst hj; exact B9.cell 0 rfl
                | 1, hj => simp at hj; subst hj; simp [Addr.add]; exact B9.cell 1 rfl
                | 2, hj => simp at hj; subst hj; simp [Addr.add]; exact B9.cell 2 rfl
              case c2 => intro u hu; simp at hu; rcases hu with rfl | rfl | rfl <;> rfl
              case c4 => unfold maxLen; omega
              case c5 => omega
              intro gS capS wS hownS hgS hlS
              have I2 := HI.out.app hgS HXS.out (by omega) hownS
              have D8 : Bk wS g8 #[.int .i64 u0, .int .i64 u1] 23 := (hgS.block _ B8.lt (bk_ne_row B8 (by decide) HXS.out)).trans B8
              have D7 : Bk wS g7 #[.int .i64 bi, .int .i64 bx, .int .i64 by', .int .i64 bvx, .int .i64 bvy, .int .i64 bw, .int .i64 bh, .bool br, .bool false] 133 := (hgS.block _ B7.lt (bk_ne_row B7 (by decide) HXS.out)).trans B7
              have I2 := Lib.hid I2
              clear hgS hownS hlS HXS HIi hz0 hz1 hz2 B9 z9 HI B7 B8
              have c8 := D8.cell (v := .int .i64 u0) 0 rfl
              have f8 := D8.free 0
              have lt8 := D8.lt
              have D8' := D8.put 0 (.int .i64 0)
              have HD8 := Lib.hid D8'
              have hbg : ∀ g (c : Array Value) t, Bk wS g c t → g ≠ g8 → Bk (wS.setCell ⟨g8, 0, none⟩ (.int .i64 0)) g c t := fun g c t h hne => h.far (p := ⟨g8, 0, none⟩) hne _
              have I3 : StepInv w (L.set k q) gx gy (some ⟨gb, 0, none⟩, L.length, cb) (2 * k + 0 + 1) (.slice (some ⟨gS, 0, none⟩) (m3 + 1) capS) (wS.setCell ⟨g8, 0, none⟩ (.int .i64 0)) := by
                obtain ⟨m4, h4, h5⟩ := I2.out.stops
                exact ⟨hbg _ _ _ I2.out.b1 (bk_types I2.out.b1 D8 (by decide)), hbg _ _ _ I2.out.b2 (bk_types I2.out.b2 D8 (by decide)), I2.out.row.set (p := ⟨g8, 0, none⟩) D8 (by decide) _, ⟨m4, h4, h5.set (p := ⟨g8, 0, none⟩) D8 (by decide) _⟩, I2.out.bel.setCell (p := ⟨g8, 0, none⟩) hg8w _⟩
              have I3 := Lib.hid I3
              have D7' := Lib.hid (hbg _ _ _ D7 (bk_types D7 D8 (by decide)))
              clear I2 D8' hbg D7 D8
              go_wp2
              go_roundw
              case rel => exact ⟨0 + 1, 0 + 1, ⟨by omega, by go_num, by rfl⟩, q, 0, u1, G, ⟨HD8.out, D7'.out⟩, I3.out⟩
              case measure => simp [intOf]
            · rw [if_neg hfm] at HMV
              have G := Lib.hid (HMV.out _ rfl)
              have wj : IntKind.i64.wrap (0 + 1) = 0 + 1 := by rw [IntKind.wrap_i64]; omega
              clear HMV
              go_wp2
              go_roundw
              case rel => exact ⟨0 + 1, 0 + 1, ⟨by omega, by go_num, by rfl⟩, q, u0, u1, G, ⟨B8, B7⟩, HI.out.mono (by omega)⟩
              case measure => simp [intOf]

          · obtain rfl : xj = 1 := by simpa using hxj
            clear hxj
            have hix := HIX.out.2
            have p0 := cell_regrown (HI.out.b1.cell (v := .slice (some ⟨gb, 0, none⟩) L.length cb) 0 rfl)
            have p1 := cell_regrown (HI.out.b1.cell (v := .slice none 0 0) 1 rfl)
            have p2 := cell_regrown (HI.out.b1.cell (v := .int .i64 gx) 2 rfl)
            have p3 := cell_regrown (HI.out.b1.cell (v := .int .i64 gy) 3 rfl)
            have hat : BodyAt wr gb (k * 9) cc := by
              have h1 : RowB w.heap.size wr (.slice (some ⟨gb, 0, none⟩) L.length cb) (L.set k cc) := HI.out.row
              exact h1.at (List.getElem?_set_self hlt)
            obtain ⟨z0, z1, z2, z3, z4, z5, z6, z7, z8⟩ := hat
            replace z0 := cell_regrown z0
            replace z1 := cell_regrown z1
            replace z2 := cell_regrown z2
            replace z3 := cell_regrown z3
            replace z4 := cell_regrown z4
            replace z5 := cell_regrown z5
            replace z6 := cell_regrown z6
            replace z7 := cell_regrown z7
            replace z8 := cell_regrown z8
            go_wp2
            refine wp_region_low2 noPosts 9 (by kernel_rfl) (by kernel_rfl) ?_
            simp only [List.take, List.drop]
            iterate 8 (refine low2_step (fun K hK => ?_); go_simp; first | (refine hK _ ?_; clear hK K) | (apply Exists.intro; refine ⟨fun p => ?_, hK _ ?_⟩; clear hK K))
            refine low2_new (.cells #[.slice none 0 0, .slice none 0 0, .int .i64 0, .int .i64 0, .int .i64 0, .int .i64 0, .int .i64 0, .int .i64 0, .int .i64 0, .int .i64 0, .int .i64 0, .bool false, .bool false, .int .i64 0, .int .i64 0] 143) (by rfl) (fun w => by go_simp; try rfl) ?_
            intro g11
            refine low2_nil ?_
            intro W3 hC
            obtain ⟨zg, B11⟩ : _ ∧ Bk W3 g11 #[.slice none 0 0, .slice none 0 0, .int .i64 0, .int .i64 0, .int .i64 0, .int .i64 0, .int .i64 0, .int .i64 0, .int .i64 0, .int .i64 0, .int .i64 0, .bool false, .bool false, .int .i64 0, .int .i64 0] 143 := hC.made 8 _ rfl
            have hb3 := hC.1
            clear hC p0 p1 p2 p3 z0 z1 z2 z3 z4 z5 z6 z7 z8 hix
            have hstt := Bk.store15 (y0 := .slice (some ⟨gb, 0, none⟩) L.length cb) (y1 := .slice none 0 0) (y2 := .int .i64 gx) (y3 := .int .i64 gy) (y4 := .int .i64 cc.id) (y5 := .int .i64 cc.x) (y6 := .int .i64 cc.y) (y7 := .int .i64 cc.vx) (y8 := .int .i64 cc.vy) (y9 := .int .i64 cc.w) (y10 := .int .i64 cc.h) (y11 := .bool cc.round) (y12 := .bool cc.fixed) (y13 := .int .i64 1) (y14 := .int .i64 1) B11 hb3 zg
            have HST := Lib.hid hstt
            have s0 := B11.cell (v := .slice none 0 0) 0 rfl
            have sf0 := B11.free 0
            have s1 := B11.cell (v := .slice none 0 0) 1 rfl
            have sf1 := B11.free 1
            have s2 := B11.cell (v := .int .i64 0) 2 rfl
            have sf2 := B11.free 2
            have s3 := B11.cell (v := .int .i64 0) 3 rfl
            have sf3 := B11.free 3
            have s4 := B11.cell (v := .int .i64 0) 4 rfl
            have sf4 := B11.free 4
            have s5 := B11.cell (v := .int .i64 0) 5 rfl
            have sf5 := B11.free 5
            have s6 := B11.cell (v := .int .i64 0) 6 rfl
            have sf6 := B11.free 6
            have s7 := B11.cell (v := .int .i64 0) 7 rfl
            have sf7 := B11.free 7
            have s8 := B11.cell (v := .int .i64 0) 8 rfl
            have sf8 := B11.free 8
            have s9 := B11.cell (v := .int .i64 0) 9 rfl
            have sf9 := B11.free 9
            have s10 := B11.cell (v := .int .i64 0) 10 rfl
            have sf10 := B11.free 10
            have s11 := B11.cell (v := .bool false) 11 rfl
            have sf11 := B11.free 11
            have s12 := B11.cell (v := .bool false) 12 rfl
            have sf12 := B11.free 12
            have s13 := B11.cell (v := .int .i64 0) 13 rfl
            have sf13 := B11.free 13
            have s14 := B11.cell (v := .int .i64 0) 14 rfl
            have sf14 := B11.free 14
            have lt11 := B11.lt
            clear hstt hb3
            go_upto_region 14 with fail
            refine wp_name (fun V => Bk V g11 #[.slice (some ⟨gb, 0, none⟩) L.length cb, .slice none 0 0, .int .i64 gx, .int .i64 gy, .int .i64 cc.id, .int .i64 cc.x, .int .i64 cc.y, .int .i64 cc.vx, .int .i64 cc.vy, .int .i64 cc.w, .int .i64 cc.h, .bool cc.round, .bool cc.fixed, .int .i64 1, .int .i64 1] 143 ∧ Below wr.heap.size wr V) HST.out ?_
            clear s0 sf0 s1 sf1 s2 sf2 s3 sf3 s4 sf4 s5 sf5 s6 sf6 s7 sf7 s8 sf8 s9 sf9 s10 sf10 s11 sf11 s12 sf12 s13 sf13 s14 sf14 B11 HST lt11
            rintro V4 ⟨B11, hb4⟩
            have hs4 := hb4.size
            have HB4 := Lib.hid hb4
            have e0 := (B8.below hb4).cell (v := .int .i64 u1) 1 rfl
            clear hb4
            go_upto_if 57 with fail
            go_cut [11] (fun v11 wx => (v11 = .pointer (some ⟨g11, 0, none⟩) ∧ Bk wx g11 #[.slice (some ⟨gb, 0, none⟩) L.length cb, .slice none 0 0, .int .i64 gx, .int .i64 gy, .int .i64 cc.id, .int .i64 cc.x, .int .i64 cc.y, .int .i64 cc.vx, .int .i64 cc.vy, .int .i64 cc.w, .int .i64 cc.h, .bool cc.round, .bool cc.fixed, .int .i64 1, .int .i64 (signI u1)] 143) ∧ Below wr.heap.size wr wx)
            case first =>
              have s14 := B11.cell (v := .int .i64 1) 14 rfl
              have sf14 := B11.free 14
              by_cases hneg : u1 < 0
              · have hsg : signI u1 = -1 := by unfold signI; rw [if_pos hneg]
                have HSG := Lib.hid hsg
                have B11' := B11.put 14 (.int .i64 (-1))
                have HB11 := Lib.hid B11'
                clear hsg B11'
                go_wp2
                go_meet
                case rel => exact ⟨⟨rfl, by rw [HSG.out]; exact HB11.out⟩, HB4.out.setCell (p := ⟨g11, 14, none⟩) zg _⟩
              · have hsg : signI u1 = 1 := by unfold signI; rw [if_neg hneg]
                have HSG := Lib.hid hsg
                clear hsg
                go_wp2
                go_meet
                case rel => exact ⟨⟨rfl, by rw [HSG.out]; exact B11⟩, HB4.out⟩
            case rest =>
            obtain ⟨⟨rfl, B11⟩, hb5⟩ := hcut
            clear e0 hs4 HB4 zg
            replace B8 := B8.below hb5
            replace B7 := B7.below hb5
            replace HI := Lib.hid (HI.out.below hb5)
            clear hb5
            obtain ⟨mo, hmo⟩ : ∃ mo, max u1 (-u1) = mo := ⟨_, rfl⟩
            have bmo : 0 ≤ mo ∧ mo ≤ 4096 := by omega
            have HMO := Lib.hid hmo
            have wn : IntKind.i64.wrap (-u1) = -u1 := by rw [IntKind.wrap_i64]; omega
            have e0 := cell_regrown (B8.cell (v := .int .i64 u1) 1 rfl)
            clear hmo
            go_wp2
            refine wp_region_low2 noPosts 8 (by kernel_rfl) (by kernel_rfl) ?_
            simp only [List.take, List.drop]
            iterate 7 (refine low2_step (fun K hK => ?_); go_simp; first | (refine hK _ ?_; clear hK K) | (apply Exists.intro; refine ⟨fun p => ?_, hK _ ?_⟩; clear hK K))
            refine low2_max _ _ _ (by rfl) rfl .i64 u1 (-u1) rfl rfl ?_
            rw [HMO.out]
            refine low2_nil ?_
            intro W5 hC
            replace B8 := B8.below hC.1
            replace B7 := B7.below hC.1
            replace B11 := B11.below hC.1
            replace HI := Lib.hid (HI.out.below hC.1)
            clear hC e0 wn
            have hokL : ∀ x ∈ L.set k cc, okBdy x := fun x hx => by
              rcases List.mem_or_eq_of_mem_set hx with h | rfl
              · exact HOK.out.1 x h
              · exact HCO.out.1
            have hsgn : signI u1 = 1 ∨ signI u1 = -1 := by unfold signI; split <;> simp
            have RN := run_any (some ⟨gb, 0, none⟩, L.length, cb) gx gy cc 1 (signI u1) mo (L.set k cc) W5 (HH.out.2.2.2.2.1.below HI.out.bel) (Nat.le_trans HH.out.2.2.2.2.2 HI.out.bel.size) (by decide) hsgn HCO.out.1 bmo hokL (RowB.bods (s := (some ⟨gb, 0, none⟩, L.length, cb)) HI.out.row)
            obtain ⟨fa, hfa⟩ : ∃ f, (runB cc 1 (signI u1) mo (L.set k cc)).1 = f := ⟨_, rfl⟩
            obtain ⟨bb, hbb⟩ : ∃ f, (runB cc 1 (signI u1) mo (L.set k cc)).2 = f := ⟨_, rfl⟩
            rw [hfa, hbb] at RN
            unfold Mv at RN
            have HRN := Lib.hid RN
            have HFA := Lib.hid hfa
            clear RN hfa hbb hokL
            have s0 := B11.cell (v := .slice (some ⟨gb, 0, none⟩) L.length cb) 0 rfl
            have s1 := B11.cell (v := .slice none 0 0) 1 rfl
            have s2 := B11.cell (v := .int .i64 gx) 2 rfl
            have s3 := B11.cell (v := .int .i64 gy) 3 rfl
            have s4 := B11.cell (v := .int .i64 cc.id) 4 rfl
            have s5 := B11.cell (v := .int .i64 cc.x) 5 rfl
            have s6 := B11.cell (v := .int .i64 cc.y) 6 rfl
            have s7 := B11.cell (v := .int .i64 cc.vx) 7 rfl
            have s8 := B11.cell (v := .int .i64 cc.vy) 8 rfl
            have s9 := B11.cell (v := .int .i64 cc.w) 9 rfl
            have s10 := B11.cell (v := .int .i64 cc.h) 10 rfl
            have s11 := B11.cell (v := .bool cc.round) 11 rfl
            have s12 := B11.cell (v := .bool cc.fixed) 12 rfl
            have s13 := B11.cell (v := .int .i64 1) 13 rfl
            have s14 := B11.cell (v := .int .i64 (signI u1)) 14 rfl
            go_wp2_with fail
            refine Calls.mono HRN.out ?_
            rintro e W6 ⟨rfl, hb6⟩
            replace B8 := B8.below hb6
            replace B7 := B7.below hb6
            replace B11 := B11.below hb6
            replace HI := Lib.hid (HI.out.below hb6)
            clear hb6 s0 s1 s2 s3 s4 s5 s6 s7 s8 s9 s10 s11 s12 s13 s14
            have hfb : 0 ≤ fa ∧ fa ≤ mo := by
              have h1 := runB_bd cc 1 (signI u1) mo (L.set k cc) bmo.1 (by
                have h2 := HCO.out.1.2.1
                unfold along
                rcases hsgn with h | h <;> rw [h] <;> simp <;> omega)
              rw [HFA.out] at h1
              exact ⟨h1.1, h1.2.1⟩
            obtain ⟨q, hq⟩ : ∃ q, shI cc 1 (signI u1 * fa) = q := ⟨_, rfl⟩
            have MA := fun V => mat_any (some ⟨gb, 0, none⟩, L.length, cb) (none, 0, 0) gx gy cc 1 (signI u1) fa (by decide) hsgn (by have := HCO.out.1.2.1.1; omega) (by have := HCO.out.1.2.1.2; omega) (by omega) V
            rw [hq] at MA
            unfold Mv Bv at MA
            have HMA := Lib.hid MA
            have HQ := Lib.hid hq
            clear MA hq
            have p0 := cell_regrown (HI.out.b1.cell (v := .slice (some ⟨gb, 0, none⟩) L.length cb) 0 rfl)
            have s0 := cell_regrown (B11.cell (v := .slice (some ⟨gb, 0, none⟩) L.length cb) 0 rfl)
            have s1 := cell_regrown (B11.cell (v := .slice none 0 0) 1 rfl)
            have s2 := cell_regrown (B11.cell (v := .int .i64 gx) 2 rfl)
            have s3 := cell_regrown (B11.cell (v := .int .i64 gy) 3 rfl)
            have s4 := cell_regrown (B11.cell (v := .int .i64 cc.id) 4 rfl)
            have s5 := cell_regrown (B11.cell (v := .int .i64 cc.x) 5 rfl)
            have s6 := cell_regrown (B11.cell (v := .int .i64 cc.y) 6 rfl)
            have s7 := cell_regrown (B11.cell (v := .int .i64 cc.vx) 7 rfl)
            have s8 := cell_regrown (B11.cell (v := .int .i64 cc.vy) 8 rfl)
            have s9 := cell_regrown (B11.cell (v := .int .i64 cc.w) 9 rfl)
            have s10 := cell_regrown (B11.cell (v := .int .i64 cc.h) 10 rfl)
            have s11 := cell_regrown (B11.cell (v := .bool cc.round) 11 rfl)
            have s12 := cell_regrown (B11.cell (v := .bool cc.fixed) 12 rfl)
            have s13 := cell_regrown (B11.cell (v := .int .i64 1) 13 rfl)
            have s14 := cell_regrown (B11.cell (v := .int .i64 (signI u1)) 14 rfl)
            go_wp2
            refine wp_region_low2 noPosts 7 (by kernel_rfl) (by kernel_rfl) ?_
            simp only [List.take, List.drop]
            iterate 5 (refine low2_step (fun K hK => ?_); go_simp; first | (refine hK _ ?_; clear hK K) | (apply Exists.intro; refine ⟨fun p => ?_, hK _ ?_⟩; clear hK K))
            refine low2_reads 85 #[.agg #[.slice (some ⟨gb, 0, none⟩) L.length cb, .slice none 0 0, .int .i64 gx, .int .i64 gy, .int .i64 cc.id, .int .i64 cc.x, .int .i64 cc.y, .int .i64 cc.vx, .int .i64 cc.vy, .int .i64 cc.w, .int .i64 cc.h, .bool cc.round, .bool cc.fixed, .int .i64 1, .int .i64 (signI u1)], .int .i64 fa] (.agg #[.int .i64 q.id, .int .i64 q.x, .int .i64 q.y, .int .i64 q.vx, .int .i64 q.vy, .int .i64 q.w, .int .i64 q.h, .bool q.round, .bool q.fixed]) (by rfl) (fun w => by go_simp; try rfl) rfl (by kernel_rfl) (fun V1 hV hG => HMA.out V1) ?_
            iterate 1 (refine low2_step (fun K hK => ?_); go_simp; first | (refine hK _ ?_; clear hK K) | (apply Exists.intro; refine ⟨fun p => ?_, hK _ ?_⟩; clear hK K))
            refine low2_nil ?_
            intro W7 hC
            replace B8 := B8.below hC.1
            replace B7 := B7.below hC.1
            replace HI := Lib.hid (HI.out.below hC.1)
            clear hC p0 s0 s1 s2 s3 s4 s5 s6 s7 s8 s9 s10 s11 s12 s13 s14 B11
            have hat : BodyAt W7 gb (k * 9) cc := by
              have h1 : RowB w.heap.size W7 (.slice (some ⟨gb, 0, none⟩) L.length cb) (L.set k cc) := HI.out.row
              exact h1.at (List.getElem?_set_self hlt)
            obtain ⟨z0, z1, z2, z3, z4, z5, z6, z7, z8⟩ := hat
            obtain ⟨cur, hcur⟩ := rowB_bk HI.out.row
            have hgl7 := hcur.lt
            have hfz := hcur.free
            have hfz0 := hfz (k * 9)
            have hfz1 := hfz (k * 9 + 1)
            have hfz2 := hfz (k * 9 + 2)
            have hfz3 := hfz (k * 9 + 3)
            have hfz4 := hfz (k * 9 + 4)
            have hfz5 := hfz (k * 9 + 5)
            have hfz6 := hfz (k * 9 + 6)
            have hfz7 := hfz (k * 9 + 7)
            have hfz8 := hfz (k * 9 + 8)
            have HFZ := Lib.hid hfz
            clear hfz
            have hrow' : RowB w.heap.size W7 (.slice (some ⟨gb, 0, none⟩) L.length cb) (L.set k cc) := HI.out.row
            have hst9 := hrow'.store (List.getElem?_set_self hlt) q
            rw [List.set_set] at hst9
            have HS9 := Lib.hid hst9
            have n8 : g8 ≠ gb := bk_types B8 hcur (by decide)
            have n7 : g7 ≠ gb := by have := HSZ.out.2.1; omega
            clear hrow' hst9 hcur
            go_upto_region 19 with fail
            refine wp_name (fun V => StepInv w (L.set k q) gx gy (some ⟨gb, 0, none⟩, L.length, cb) (2 * k + 1) (.slice sa2 m2 sc2) V ∧ Bk V g8 #[.int .i64 u0, .int .i64 u1] 23 ∧ Bk V g7 #[.int .i64 bi, .int .i64 bx, .int .i64 by', .int .i64 bvx, .int .i64 bvy, .int .i64 bw, .int .i64 bh, .bool br, .bool false] 133) ⟨HI.out.grown (grown9 _ _ _ _ _ _ _ _ _ _ _ _ _ _ _ _ _ _) HS9.out HSZ.out.1, (((((((((B8.far (p := ⟨gb, k * 9, none⟩) n8 _).far (p := ⟨gb, k * 9 + 1, none⟩) n8 _).far (p := ⟨gb, k * 9 + 2, none⟩) n8 _).far (p := ⟨gb, k * 9 + 3, none⟩) n8 _).far (p := ⟨gb, k * 9 + 4, none⟩) n8 _).far (p := ⟨gb, k * 9 + 5, none⟩) n8 _).far (p := ⟨gb, k * 9 + 6, none⟩) n8 _).far (p := ⟨gb, k * 9 + 7, none⟩) n8 _).far (p := ⟨gb, k * 9 + 8, none⟩) n8 _), (((((((((B7.far (p := ⟨gb, k * 9, none⟩) n7 _).far (p := ⟨gb, k * 9 + 1, none⟩) n7 _).far (p := ⟨gb, k * 9 + 2, none⟩) n7 _).far (p := ⟨gb, k * 9 + 3, none⟩) n7 _).far (p := ⟨gb, k * 9 + 4, none⟩) n7 _).far (p := ⟨gb, k * 9 + 5, none⟩) n7 _).far (p := ⟨gb, k * 9 + 6, none⟩) n7 _).far (p := ⟨gb, k * 9 + 7, none⟩) n7 _).far (p := ⟨gb, k * 9 + 8, none⟩) n7 _)⟩ ?_
            rintro V8 ⟨HI, B8, B7⟩
            clear hfz0 hfz1 hfz2 hfz3 hfz4 hfz5 hfz6 hfz7 hfz8 HFZ HS9 n8 n7 z0 z1 z2 z3 z4 z5 z6 z7 z8 hgl7
            have HI := Lib.hid HI
            have hmv : ∀ (u' : Int), u' = (if fa < mo then 0 else u1) → InSt L k ⟨bi, bx, by', bvx, bvy, bw, bh, br, false⟩ vx0 vy0 (1 + 1) q u0 u' := fun u' hu' => by
              have h1 := moveAx_is HMO.out HFA.out
              rw [HQ.out, ← hu'] at h1
              have h2 := HIN.out
              obtain ⟨h3, h4, rfl⟩ := h2
              rw [h3] at h1
              exact ⟨by rw [h1], h4, by rw [h1]⟩
            have HMV := Lib.hid hmv
            clear hmv
            by_cases hfm : fa < mo
            · rw [if_pos hfm] at HMV
              have G := Lib.hid (HMV.out _ rfl)
              have wj : IntKind.i64.wrap (1 + 1) = 1 + 1 := by rw [IntKind.wrap_i64]; omega
              have hiy : ∀ (w : World), (Instr.index 146 (.agg #[.int .u8 1, .int .u8 2]) (.int .i64 1)).run Tryz.prog w = .ok (.int .u8 (1 + 1)) w := fun w => by kernel_rfl
              have c7 := cell_regrown (B7.cell (v := .int .i64 bi) 0 rfl)
              obtain ⟨i0, hi, hz0, hz1, hz2⟩ := info_parts infoS
              obtain ⟨m3, hm3, xs, hxs⟩ := HI.out.stops
              obtain rfl : m3 = m2 := by
                rcases hxs.2 with ⟨h1, h2⟩ | ⟨g', cap', cur', h1, _⟩
                · cases h1; exact h2
                · cases h1; rfl
              have HXS := Lib.hid hxs
              have HIi := Lib.hid hi
              clear HMV hxs hi
              go_wp2
              refine wp_region_low2 noPosts 9 (by kernel_rfl) (by kernel_rfl) ?_
              simp only [List.take, List.drop]
              iterate 8 (refine low2_step (fun K hK => ?_); go_simp; first | (refine hK _ ?_; clear hK K) | (apply Exists.intro; refine ⟨fun p => ?_, hK _ ?_⟩; clear hK K))
              refine low2_slice 1 1 (.cells #[.int .i64 bi, .int .u8 (1 + 1), .int .i64 bb] 148) (by rfl) (fun w => by go_simp; try rfl) ?_
              intro g9
              refine low2_nil ?_
              intro W9 hC
              obtain ⟨z9, B9⟩ : _ ∧ Bk W9 g9 #[.int .i64 bi, .int .u8 (1 + 1), .int .i64 bb] 148 := hC.made 8 _ rfl
              replace B8 := B8.below hC.1
              replace B7 := B7.below hC.1
              replace HXS := Lib.hid (row_below HXS.out hC.1)
              replace HI := Lib.hid (HI.out.below hC.1)
              have hk64 : k < 64 := by omega
              clear hC c7 hiy
              refine wpList_append_mine _ rfl _ _ 73 rfl w.heap.size 148 i0 (.agg #[.int .i64 0, .int .u8 0, .int .i64 0]) 3 24 Tryz.underlying73 HIi.out hz0 hz1 hz2 rfl (by decide) _ _ _ rfl HXS.out ⟨g9, 0, none⟩ 1 1 [.int .i64 bi, .int .u8 (1 + 1), .int .i64 bb] rfl rfl ?c1 ?c2 (by decide) ?c4 ?c5 HI.out.bel.size ?_
              case c1 =>
                intro j u hj
                match j, hj with
                | 0, hj => simp at hj; subst hj; exact B9.cell 0 rfl
                | 1, hj => simp at hj; subst hj; simp [Addr.add]; exact B9.cell 1 rfl
                | 2, hj => simp at hj; subst hj; simp [Addr.add]; exact B9.cell 2 rfl
              case c2 => intro u hu; simp at hu; rcases hu with rfl | rfl | rfl <;> rfl
              case c4 => unfold maxLen; omega
              case c5 => omega
              intro gS capS wS hownS hgS hlS
              have I2 := HI.out.app hgS HXS.out (by omega) hownS
              have D8 : Bk wS g8 #[.int .i64 u0, .int .i64 u1] 23 := (hgS.block _ B8.lt (bk_ne_row B8 (by decide) HXS.out)).trans B8
              have D7 : Bk wS g7 #[.int .i64 bi, .int .i64 bx, .int .i64 by', .int .i64 bvx, .int .i64 bvy, .int .i64 bw, .int .i64 bh, .bool br, .bool false] 133 := (hgS.block _ B7.lt (bk_ne_row B7 (by decide) HXS.out)).trans B7
              have I2 := Lib.hid I2
              clear hgS hownS hlS HXS HIi hz0 hz1 hz2 B9 z9 HI B7 B8
              have c8 := D8.cell (v := .int .i64 u1) 1 rfl
              have f8 := D8.free 1
              have lt8 := D8.lt
              have D8' := D8.put 1 (.int .i64 0)
              have HD8 := Lib.hid D8'
              have hbg : ∀ g (c : Array Value) t, Bk wS g c t → g ≠ g8 → Bk (wS.setCell ⟨g8, 1, none⟩ (.int .i64 0)) g c t := fun g c t h hne => h.far (p := ⟨g8, 1, none⟩) hne _
              have I3 : StepInv w (L.set k q) gx gy (some ⟨gb, 0, none⟩, L.length, cb) (2 * k + 1 + 1) (.slice (some ⟨gS, 0, none⟩) (m3 + 1) capS) (wS.setCell ⟨g8, 1, none⟩ (.int .i64 0)) := by
                obtain ⟨m4, h4, h5⟩ := I2.out.stops
                exact ⟨hbg _ _ _ I2.out.b1 (bk_types I2.out.b1 D8 (by decide)), hbg _ _ _ I2.out.b2 (bk_types I2.out.b2 D8 (by decide)), I2.out.row.set (p := ⟨g8, 1, none⟩) D8 (by decide) _, ⟨m4, h4, h5.set (p := ⟨g8, 1, none⟩) D8 (by decide) _⟩, I2.out.bel.setCell (p := ⟨g8, 1, none⟩) hg8w _⟩
              have I3 := Lib.hid I3
              have D7' := Lib.hid (hbg _ _ _ D7 (bk_types D7 D8 (by decide)))
              clear I2 D8' hbg D7 D8
              go_wp2
              go_roundw
              case rel => exact ⟨1 + 1, 1 + 1, ⟨by omega, by go_num, by rfl⟩, q, u0, 0, G, ⟨HD8.out, D7'.out⟩, I3.out⟩
              case measure => simp [intOf]
            · rw [if_neg hfm] at HMV
              have G := Lib.hid (HMV.out _ rfl)
              have wj : IntKind.i64.wrap (1 + 1) = 1 + 1 := by rw [IntKind.wrap_i64]; omega
              clear HMV
              go_wp2
              go_roundw
              case rel => exact ⟨1 + 1, 1 + 1, ⟨by omega, by go_num, by rfl⟩, q, u0, u1, G, ⟨B8, B7⟩, HI.out.mono (by omega)⟩
              case measure => simp [intOf]

          · obtain rfl : xj = 2 := by simpa using hxj
            clear hxj
            have h2 := HIN.out
            have hnext : stepB gx gy l (k + 1) = (L.set k cc).set k { cc with vx := u0, vy := u1 } := by
              unfold stepB
              rw [HLE.out, HBK.out.1]
              simp only [moveB, Bool.false_eq_true, if_false]
              rw [HVV.out.1, HVV.out.2]
              obtain ⟨h3, h4, h5⟩ := h2
              rw [← h3, ← h4, ← h5, List.set_set, List.set_set]
            have HNX := Lib.hid hnext
            clear hnext h2
            have hrow' : RowB w.heap.size wr (.slice (some ⟨gb, 0, none⟩) L.length cb) (L.set k cc) := HI.out.row
            have hsv := hrow'.storeV (List.getElem?_set_self hlt) u0 u1
            obtain ⟨cur, hcur⟩ := rowB_bk hrow'
            obtain ⟨z0, z1, z2, z3, z4, z5, z6, z7, z8⟩ := hrow'.at (List.getElem?_set_self hlt)
            clear z0 z1 z2 z5 z6 z7 z8
            have f3 := hcur.free (k * 9 + 3)
            have f4 := hcur.free (k * 9 + 3 + 1)
            have f4' := hcur.free (k * 9 + 4)
            have lg := hcur.lt
            have p0 := HI.out.b1.cell (v := .slice (some ⟨gb, 0, none⟩) L.length cb) 0 rfl
            have e0 := B8.cell (v := .int .i64 u0) 0 rfl
            have e1 := B8.cell (v := .int .i64 u1) 1 rfl
            have I5 := HI.out.grown (grown_set (.int .i64 u1) (grown_set (.int .i64 u0) ⟨rfl, rfl, rfl, Nat.le_refl _, fun _ _ _ => rfl⟩)) hsv HSZ.out.1
            have I5 := Lib.hid I5
            clear hrow' hsv hcur HI B7 B8 HIN
            go_wp2
            go_roundw
            case rel => exact ⟨k + 1, ⟨by omega, by go_num⟩, by rw [HNX.out]; exact I5.out.mono (by omega)⟩
            case measure => simp [intOf]; omega
      · clear B7
        have hnext : stepB gx gy l (k + 1) = L := by
          unfold stepB; rw [HLE.out, HBK.out.1]; rfl
        have HNX := Lib.hid hnext
        clear hnext
        go_wp2
        go_roundw
        case rel => exact ⟨k + 1, ⟨by omega, by go_num⟩, by rw [HNX.out]; exact ⟨HI.out.b1, HI.out.b2, HI.out.row, ⟨m, by omega, by obtain ⟨m', h1, h2⟩ := HI.out.stops; obtain ⟨a', c', h3⟩ := h2.form; cases h3; exact h2⟩, HI.out.bel⟩⟩
        case measure => simp [intOf]; omega
    · obtain rfl : k = nl := by omega
      have B1 := HI.out.b1
      have B2 := HI.out.b2
      have hgg := HI.out.bel
      have q0 := B1.cell (v := .slice ab k cb) 0 rfl
      have q1 := B1.cell (v := .slice none 0 0) 1 rfl
      have q2 := B1.cell (v := .int .i64 gx) 2 rfl
      have q3 := B1.cell (v := .int .i64 gy) 3 rfl
      have r0 := B2.cell (v := .slice none 0 0) 0 rfl
      have r1 := B2.cell (v := .slice none 0 0) 1 rfl
      have r2 := B2.cell (v := .int .i64 0) 2 rfl
      have r3 := B2.cell (v := .int .i64 0) 3 rfl
      have f0 := B2.free 0
      have f1 := B2.free 1
      have f2 := B2.free 2
      have f3 := B2.free 3
      have lt := B2.lt
      have G4 := Bk.store4 (y0 := .slice ab k cb) (y1 := .slice none 0 0) (y2 := .int .i64 gx) (y3 := .int .i64 gy) B2 hgg (Nat.le_succ _)
      have HG4 := Lib.hid G4
      have hrow := HI.out.row.bodies
      have hfar : ∀ V, V = ((((wr.setCell ⟨w.heap.size + 1, 0, none⟩ (.slice ab k cb)).setCell ⟨w.heap.size + 1, 1, none⟩ (.slice none 0 0)).setCell ⟨w.heap.size + 1, 2, none⟩ (.int .i64 gx)).setCell ⟨w.heap.size + 1, 3, none⟩ (.int .i64 gy)) → RowB w.heap.size V (.slice ab k cb) L := fun V hV => by
        subst hV
        have e1 := B2.put 0 (.slice ab k cb)
        have e2 := e1.put 1 (.slice none 0 0)
        have e3 := e2.put 2 (.int .i64 gx)
        exact (((HI.out.row.set (p := ⟨w.heap.size + 1, 0, none⟩) B2 (by decide) _).set (p := ⟨w.heap.size + 1, 1, none⟩) e1 (by decide) _).set (p := ⟨w.heap.size + 1, 2, none⟩) e2 (by decide) _).set (p := ⟨w.heap.size + 1, 3, none⟩) e3 (by decide) _
      have HFR := Lib.hid hfar
      have HLL : Hid (stepB gx gy l l.length = L) := Lib.hid (by rw [HNL.out]; exact HLE.out)
      clear G4 hfar hrow B1 B2 hlt hgg
      go_wp2
      refine post_name (fun V => (Bk V (w.heap.size + 1) #[.slice ab k cb, .slice none 0 0, .int .i64 gx, .int .i64 gy] 106 ∧ Below w.heap.size w V) ∧ RowB w.heap.size V (.slice ab k cb) L) ⟨HG4.out, HFR.out _ rfl⟩ ?_
      rintro V ⟨⟨BV, hbV⟩, hRV⟩
      clear q0 q1 q2 q3 r0 r1 r2 r3 f0 f1 f2 f3 lt
      have y0 := BV.cell (v := .slice ab k cb) 0 rfl
      have y1 := BV.cell (v := .slice none 0 0) 1 rfl
      have y2 := BV.cell (v := .int .i64 gx) 2 rfl
      have y3 := BV.cell (v := .int .i64 gy) 3 rfl
      exact bodyPost_ret (v := .tuple #[Sv ab k cb gx gy, .slice sa m sc, .int .i64 0]) (by simp [results, Tryz.results59, go_sem, y0, y1, y2, y3]; try rfl) rfl ⟨ab, sa, k, cb, m, sc, rfl, by rw [HLL.out]; exact hRV.bodies, hbV⟩
end Go.Proofs.YtlcjkomfjgddeaaGreatDoor
