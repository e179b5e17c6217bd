/- step.World without ropes. Package client: number, pull, of, copied. slices.Index and slices.Contains of components; the closure of client.of. Inputs in memory; slices.Clone of inputs; the closure of client.Receive, IndexFunc over it. -/
import Derived.Test.YtlcjkomfjgddeaaGreatDoorM23
import Derived.Test.YtlcjkomfjgddeaaGreatDoorM21
import Derived.Test.YtlcjkomfjgddeaaGreatDoorM11
set_option linter.unusedVariables false
set_option linter.unusedSimpArgs false
namespace Go.Proofs.YtlcjkomfjgddeaaGreatDoor
open Go Go.RowKit Go.Sort
set_option maxRecDepth 100000
attribute [local go_sem] opLow opUpon opLow2 opUpon2

/-- the entities behind a step -/
def worldM (gx gy : Int) (es : List Ent) : List Ent := es.map (backE (stepB gx gy (bodiesM es) (bodiesM es).length))
theorem fits_box {x : Cmp} (h : fits x = true) (hk : x.k = 3) : (1 ≤ x.a ∧ x.a ≤ 16384) ∧ (1 ≤ x.b ∧ x.b ≤ 16384) ∧ (0 ≤ x.c ∧ x.c ≤ 1) ∧ (0 ≤ x.d ∧ x.d ≤ 1) ∧ (x.c = 0 ∨ x.a = x.b) := by
  obtain ⟨k, a, b, c, d⟩ := x
  simp only at hk
  subst hk
  simp only [fits, inLim, Cmp.v, Bool.and_eq_true, decide_eq_true_eq] at h
  obtain ⟨⟨⟨h1, h2⟩, ⟨⟨⟨h3, h4⟩, h5⟩, h6⟩⟩, h7⟩ := h
  have e1 : lim 3 0 = (1, 16384) := by decide
  have e2 : lim 3 1 = (1, 16384) := by decide
  have e3 : lim 3 2 = (0, 1) := by decide
  have e4 : lim 3 3 = (0, 1) := by decide
  rw [e1] at h3; rw [e2] at h4; rw [e3] at h5; rw [e4] at h6
  refine ⟨h3, h4, h5, h6, ?_⟩
  simp only [extra] at h7
  rw [if_pos (by simp)] at h7
  simpa using h7
theorem find_fits {e : Ent} {k : Int} {x : Cmp} (hf : ∀ x ∈ e.cs, fits x = true) (h : e.cs.find? (keyC k) = some x) : fits x = true ∧ x.k = k :=
  ⟨hf x (List.mem_of_find?_eq_some h), by have := List.find?_some h; unfold keyC at this; simpa using this⟩
theorem bodyM_ok {e : Ent} {b : Bdy} (hid : 1 ≤ e.id ∧ e.id ≤ 65536) (hf : ∀ x ∈ e.cs, fits x = true) (h : bodyM e = some b) : okBdy b ∧ b.id = e.id := by
  unfold bodyM at h
  split at h
  · rename_i p q v h1 h3 h2
    injection h with h
    subst h
    obtain ⟨fp, kp⟩ := find_fits hf h1
    obtain ⟨fb, kb⟩ := find_fits hf h3
    obtain ⟨fv, kv⟩ := find_fits hf h2
    have hp := fits_pos' fp kp
    have hb := fits_box fb kb
    have hv := fits_vel fv kv
    refine ⟨⟨⟨by simp only; omega, by simp only; omega⟩, hp, ⟨?_, ?_⟩, ⟨hb.1, hb.2.1⟩, ?_, ?_⟩, rfl⟩
    · simp only; split <;> omega
    · simp only; split <;> omega
    · intro hr
      simp only [isOne, decide_eq_true_eq] at hr ⊢
      have := hb.2.2.2.2
      omega
    · intro hd
      simp only at hd ⊢
      rw [if_pos hd, if_pos hd]
      exact ⟨rfl, rfl⟩
  · rename_i p q h1 h3 h2
    injection h with h
    subst h
    obtain ⟨fp, kp⟩ := find_fits hf h1
    obtain ⟨fb, kb⟩ := find_fits hf h3
    have hp := fits_pos' fp kp
    have hb := fits_box fb kb
    refine ⟨⟨⟨by simp only; omega, by simp only; omega⟩, hp, ⟨by simp only; omega, by simp only; omega⟩, ⟨hb.1, hb.2.1⟩, ?_, fun _ => ⟨rfl, rfl⟩⟩, rfl⟩
    intro hr
    simp only [isOne, decide_eq_true_eq] at hr ⊢
    have := hb.2.2.2.2
    omega
  · cases h
theorem rises_pw {l : List Int} (h : Rises l) : l.Pairwise (· < ·) := by
  rw [List.pairwise_iff_getElem]
  intro i j hi hj hij
  have := rises_lt h hij hj
  simpa [List.getD, hi, hj] using this
theorem pw_rises {l : List Int} (h : l.Pairwise (· < ·)) : Rises l := by
  intro i hi
  rw [List.pairwise_iff_getElem] at h
  have := h i (i + 1) (by omega) (by omega) (by omega)
  simpa [List.getD, show i < l.length by omega, show i + 1 < l.length by omega] using this
theorem bodies_ids : ∀ (es : List Ent), (∀ e ∈ es, ∀ b, bodyM e = some b → b.id = e.id) → ((bodiesM es).map Bdy.id).Sublist (es.map Ent.id)
  | [], _ => List.Sublist.slnil
  | e :: es, h => by
    have ih := bodies_ids es (fun x hx => h x (List.mem_cons_of_mem _ hx))
    unfold bodiesM at ih ⊢
    rw [List.filterMap_cons]
    cases hb : bodyM e with
    | none => exact List.Sublist.cons _ ih
    | some b =>
      simp only [List.map_cons]
      rw [h e List.mem_cons_self b hb]
      exact List.Sublist.cons_cons _ ih
theorem bodies_len (es : List Ent) : (bodiesM es).length ≤ es.length := List.length_filterMap_le _ _
def WorldPost (w : World) (t gx gy : Int) (es : List Ent) (e : Ending) (w' : World) : Prop :=
  ∃ a n c sa sn sc, e = .returned (.tuple #[Wv t a n c, .slice sa sn sc, .int .i64 0]) ∧ Fresh w.heap.size w' (.slice a n c) (worldM gx gy es) ∧ Below w.heap.size w w'
set_option maxHeartbeats 4000000 in
theorem world_any (t : Int) (es : List Ent) (ea : Option Addr) (en ec : Nat) (gx gy : Int) (w : World) (hM : RM w) (hw : 2 ≤ w.heap.size) (h : EntsAt w (.slice ea en ec) es) (hlen : es.length ≤ 64) (hid : ∀ e ∈ es, 1 ≤ e.id ∧ e.id ≤ 65536) (hfit : ∀ e ∈ es, ∀ x ∈ e.cs, fits x = true) (hr : Rises (es.map Ent.id)) (hg : okG gx gy) :
    Calls Tryz.prog 29 #[Wv t ea en ec, .slice none 0 0, V2 gx gy] w (WorldPost w t gx gy es) := by
  have hok : ∀ b ∈ bodiesM es, okBdy b := fun b hb => by
    obtain ⟨e, he, hm⟩ := List.mem_filterMap.1 hb
    exact (bodyM_ok (hid e he) (hfit e he) hm).1
  have hbr : Rises ((bodiesM es).map Bdy.id) := pw_rises (List.Pairwise.sublist (bodies_ids es (fun e he b hb => (bodyM_ok (hid e he) (hfit e he) hb).2)) (rises_pw hr))
  have hbl : (bodiesM es).length ≤ 64 := Nat.le_trans (bodies_len es) hlen
  have BO := Lib.hid (fun V (hV : Below w.heap.size w V) => bodies_any t es ea en ec gx gy V (h.below hV) hlen)
  have ST := Lib.hid (fun V (hV : Below w.heap.size w V) a n c (hB : BodiesAt V (.slice a n c) (bodiesM es)) => step_any a n c (bodiesM es) gx gy V (hM.low hV hw) (Nat.le_trans hw hV.size) hB hok hbr hbl hg)
  have BK := Lib.hid (fun V (hV : Below w.heap.size w V) a n c (hB : BodiesAt V (.slice a n c) (stepB gx gy (bodiesM es) (bodiesM es).length)) => back_any t es ea en ec (stepB gx gy (bodiesM es) (bodiesM es).length) a n c gx gy V (h.below hV) hlen hB hfit)
  obtain ⟨L1, hL1⟩ : ∃ L, stepB gx gy (bodiesM es) (bodiesM es).length = L := ⟨_, rfl⟩
  have hWM : worldM gx gy es = es.map (backE L1) := by unfold worldM; rw [hL1]
  rw [hL1] at BK
  have HL := Lib.hid (And.intro hL1 hWM)
  clear hM h hlen hid hfit hr hg hok hbr hbl hL1 hWM
  unfold Wv V2
  go_enter Tryz.func29, Tryz.ntmps29
  go_wp2_with fail
  refine (BO.out _ (by go_grown)).mono ?_
  rintro e V1 ⟨a1, n1, c1, rfl, hRow, hb1⟩
  have B1 : Bk V1 w.heap.size #[.int .i64 t, .slice ea en ec] 26 := (((Bk.made _ _ _).alloc _).alloc _).below hb1
  have B3 : Bk V1 (w.heap.size + 1 + 1) #[.int .i64 0, .slice none 0 0] 26 := Bk.below (Bk.at_ (by simp)) hb1
  obtain ⟨hb, hs⟩ := below_cc (w := w) hb1 (by go_grown)
  have hBo := hRow.bodies
  clear hb1 hRow
  have HB := Lib.hid (And.intro hb hBo)
  clear hBo
  unfold Sv
  go_wp2_with fail
  refine (ST.out _ HB.out.1 a1 n1 c1 HB.out.2).mono ?_
  rintro e V2' ⟨a2, sa, n2, c2, sn, sc, rfl, hBo, hb2⟩
  replace B1 := B1.below hb2
  replace B3 := B3.below hb2
  obtain ⟨hb, hs⟩ := below_cc hb2 hb
  rw [HL.out.1] at hBo
  have HB := Lib.hid (And.intro hb hBo)
  clear hb2 hBo ST BO
  unfold Sv
  have p0 := B1.cell (v := .int .i64 t) 0 rfl
  have p1 := B1.cell (v := .slice ea en ec) 1 rfl
  have ltp := B1.lt
  go_wp2_with fail
  refine (BK.out _ (HB.out.1.alloc hs _) a2 n2 c2 (HB.out.2.below ((Below.refl _ _).alloc (Nat.le_refl _) _))).mono ?_
  rintro e V3 ⟨a3, n3, c3, rfl, hF, hb3⟩
  have hb4 : Below V2'.heap.size V2' V3 := ((Below.refl V2'.heap.size V2').alloc (Nat.le_refl _) _).trans (hb3.mono (by simp))
  replace B3 := B3.below hb4
  have hFm := hF.mono (base' := w.heap.size) (by simp; omega)
  obtain ⟨hb, hs⟩ := below_cc hb4 HB.out.1
  clear hb3 hb4 hF HB BK p0 p1 ltp B1
  have q0 := B3.cell (v := .int .i64 0) 0 rfl
  have q1 := B3.cell (v := .slice none 0 0) 1 rfl
  have f0 := B3.free 0
  have f1 := B3.free 1
  have lt := B3.lt
  have HX := Lib.hid (And.intro ((B3.put 0 (.int .i64 t)).put 1 (.slice a3 n3 c3)) (And.intro ((hFm.set (p := ⟨w.heap.size + 1 + 1, 0, none⟩) B3 (by decide) (by decide) (.int .i64 t)).set (p := ⟨w.heap.size + 1 + 1, 1, none⟩) (B3.put 0 (.int .i64 t)) (by decide) (by decide) (.slice a3 n3 c3)) ((hb.setCell (p := ⟨w.heap.size + 1 + 1, 0, none⟩) (Nat.le_trans (Nat.le_succ _) (Nat.le_succ _)) (.int .i64 t)).setCell (p := ⟨w.heap.size + 1 + 1, 1, none⟩) (Nat.le_trans (Nat.le_succ _) (Nat.le_succ _)) (.slice a3 n3 c3))))
  clear hFm hb B3
  go_wp2
  refine post_name (fun V => Bk V (w.heap.size + 1 + 1) #[.int .i64 t, .slice a3 n3 c3] 26 ∧ Fresh w.heap.size V (.slice a3 n3 c3) (es.map (backE L1)) ∧ Below w.heap.size w V) HX.out ?_
  clear HX q0 q1 f0 f1 lt
  rintro V4 ⟨BV, hFR, hbV⟩
  have y0 := BV.cell (v := .int .i64 t) 0 rfl
  have y1 := BV.cell (v := .slice a3 n3 c3) 1 rfl
  exact bodyPost_ret (v := .tuple #[Wv t a3 n3 c3, .slice sa sn sc, .int .i64 0]) (by simp [results, Tryz.results29, go_sem, y0, y1]; try rfl) rfl ⟨a3, n3, c3, sa, sn, sc, rfl, by rw [HL.out.2]; exact hFR, hbV⟩
end Go.Proofs.YtlcjkomfjgddeaaGreatDoor
namespace Go.Proofs.YtlcjkomfjgddeaaGreatDoor
open Go Go.RowKit Go.Sort
set_option maxRecDepth 100000
attribute [local go_sem] opLow opUpon opLow2 opUpon2

/-- whether a number is that of a client -/
def numB (n : Int) : Bool := decide (1 ≤ n) && decide (n ≤ 8)
/-- whether a gravity is one -/
def pullB (x y : Int) : Bool := decide (max x y ≤ 4096) && decide (-4096 ≤ min x y)
theorem number_any (n : Int) (w : World) : Calls Tryz.prog 35 #[.int .i64 n] w fun e w' => e = .returned (.bool (numB n)) ∧ Below w.heap.size w w' := by
  unfold numB
  by_cases h1 : 1 ≤ n
  · have d1 : decide (1 ≤ n) = true := by simpa using h1
    by_cases h2 : n ≤ 8
    · have d2 : decide (n ≤ 8) = true := by simpa using h2
      rw [d1, d2]
      go_enter Tryz.func35, Tryz.ntmps35
      go_wp2
      go_returns
      exact ⟨rfl, by go_grown⟩
    · have d2 : decide (n ≤ 8) = false := by simpa using h2
      rw [d1, d2]
      go_enter Tryz.func35, Tryz.ntmps35
      go_wp2
      go_returns
      exact ⟨rfl, by go_grown⟩
  · have d1 : decide (1 ≤ n) = false := by simpa using h1
    rw [d1, Bool.false_and]
    go_enter Tryz.func35, Tryz.ntmps35
    go_wp2
    go_returns
    exact ⟨rfl, by go_grown⟩
theorem cpull_any (x y : Int) (w : World) : Calls Tryz.prog 36 #[.agg #[.int .i64 x, .int .i64 y]] w fun e w' => e = .returned (.bool (pullB x y)) ∧ Below w.heap.size w w' := by
  unfold pullB
  obtain ⟨m, hm⟩ : ∃ m, max x y = m := ⟨_, rfl⟩
  obtain ⟨n, hn⟩ : ∃ n, min x y = n := ⟨_, rfl⟩
  rw [hm, hn]
  have HM := Lib.hid hm
  have HN := Lib.hid hn
  clear hm hn
  by_cases h1 : m ≤ 4096
  · have d1 : decide (m ≤ 4096) = true := by simpa using h1
    by_cases h2 : -4096 ≤ n
    · have d2 : decide (-4096 ≤ n) = true := by simpa using h2
      rw [d1, d2]
      go_enter Tryz.func36, Tryz.ntmps36
      go_wp2_with (first | (refine wpList_max2 _ rfl _ _ _ rfl _ _ _ rfl rfl ?_; rw [HM.out]) | (refine wpList_minW _ _ _ _ rfl _ _ _ rfl rfl (by simp [Region.wanted, yielded, go_sem]; done) ?_; rw [HN.out]))
      go_returns
      exact ⟨rfl, by go_grown⟩
    · have d2 : decide (-4096 ≤ n) = false := by simpa using h2
      rw [d1, d2]
      go_enter Tryz.func36, Tryz.ntmps36
      go_wp2_with (first | (refine wpList_max2 _ rfl _ _ _ rfl _ _ _ rfl rfl ?_; rw [HM.out]) | (refine wpList_minW _ _ _ _ rfl _ _ _ rfl rfl (by simp [Region.wanted, yielded, go_sem]; done) ?_; rw [HN.out]))
      go_returns
      exact ⟨rfl, by go_grown⟩
  · have d1 : decide (m ≤ 4096) = false := by simpa using h1
    rw [d1, Bool.false_and]
    go_enter Tryz.func36, Tryz.ntmps36
    go_wp2_with (first | (refine wpList_max2 _ rfl _ _ _ rfl _ _ _ rfl rfl ?_; rw [HM.out]) | (refine wpList_minW _ _ _ _ rfl _ _ _ rfl rfl (by simp [Region.wanted, yielded, go_sem]; done) ?_; rw [HN.out]))
    go_returns
    exact ⟨rfl, by go_grown⟩
/-- what client.of returns: the closure over the component -/
def OfPost (w : World) (id : Int) (e : Ending) (w' : World) : Prop := ∃ g, e = .returned (.func (.func 62) #[] #[.pointer (some ⟨g, 0, none⟩)]) ∧ Bk w' g #[.int .u8 4, .int .i64 id, .int .i64 0, .int .i64 0, .int .i64 0] 48 ∧ Below w.heap.size w w'
theorem cof_any (id : Int) (w : World) : Calls Tryz.prog 37 #[.int .i64 id] w (OfPost w id) := by
  go_enter Tryz.func37, Tryz.ntmps37
  go_wp2
  go_returns
  exact ⟨w.heap.size, rfl, Bk.made _ _ _, by go_grown⟩
set_option maxHeartbeats 4000000 in
theorem ccopied_any (W : Wld) (a : Option Addr) (n c : Nat) (w : World) (h : EntsAt w (.slice a n c) W.es) :
    Calls Tryz.prog 33 #[Wv W.t a n c] w fun e w' => ∃ a' n' c', e = .returned (Wv W.t a' n' c') ∧ Fresh w.heap.size w' (.slice a' n' c') W.es ∧ Below w.heap.size w w' := by
  obtain ⟨t, es⟩ := W
  simp only at h
  have hlen := h.len
  have HL := Lib.hid hlen
  have hn : n < 1099511627776 := by
    rcases h with ⟨_, rfl⟩ | ⟨b, off, cap, _, hl, _⟩
    · rw [hlen]; simp
    · rw [hlen]; exact hl
  obtain ⟨i0, hi, hz0, hz1, hz2⟩ := info_parts infoE
  have HH := Lib.hid h
  clear hlen h
  go_enter Tryz.func33, Tryz.ntmps33
  go_wp2
  go_loopw [12] (fun v12 wr => ∃ (k : Nat) (a' : Option Addr) (n' c' : Nat), k ≤ n ∧ v12 = .int .i64 k ∧ Bk wr (w.heap.size + 1) #[.int .i64 0, .slice none 0 0] 26 ∧ Bk wr (w.heap.size + 1 + 1) #[.int .i64 t, .slice a' n' c'] 26 ∧ Fresh w.heap.size wr (.slice a' n' c') (es.take k) ∧ Below w.heap.size w wr) (fun v12 _ => n - (intOf v12).toNat)
  case atStart => exact ⟨0, none, 0, 0, by omega, rfl, ((Bk.at_ (by simp)).alloc _), Bk.at_ (by simp), Fresh.nil _ _, by go_grown⟩
  case round =>
    obtain ⟨k, a', n', c', hk, rfl, B1, B2, hF, hb⟩ := hrel
    have hs := hb.size
    have lt1 := B1.lt
    have lt2 := B2.lt
    by_cases hlt : k < n
    · obtain ⟨x, hx⟩ := at_lt (l := es) (i := k) (by rw [← HL.out]; exact hlt)
      rcases HH.out with ⟨h, hnil⟩ | ⟨b, off, cap, h, hl, hc⟩
      · rw [hnil] at hx; cases hx
      · injection h with h1 h2 h3
        subst h1 h3
        obtain ⟨x0, xa, xn, xc, x1, xh⟩ := hc k x hx
        have HX := Lib.hid hx
        replace x0 := cell_later hb x0
        replace x1 := cell_later hb x1
        replace xh := xh.below hb
        clear hx h2 hc hl
        go_wp2
        refine wp_name (fun W1 => Bk W1 wr.heap.size #[.int .i64 x.id, .slice xa xn xc] 43 ∧ Bk W1 (w.heap.size + 1) #[.int .i64 0, .slice none 0 0] 26 ∧ Bk W1 (w.heap.size + 1 + 1) #[.int .i64 t, .slice a' n' c'] 26 ∧ Fresh w.heap.size W1 (.slice a' n' c') (es.take k) ∧ CompsAt W1 (.slice xa xn xc) x.cs ∧ Below w.heap.size w W1) ⟨Bk.made _ _ _, B1.alloc _, B2.alloc _, hF.below ((Below.refl _ _).alloc (Nat.le_refl _) _), xh.below ((Below.refl _ _).alloc (Nat.le_refl _) _), hb.alloc hs _⟩ ?_
        rintro W1 ⟨Be, B1', B2', hF', xh', hb1⟩
        clear B1 B2 hF xh hb hs lt1 lt2 x0 x1
        have k0 := cell_regrown (B2'.cell (v := .int .i64 t) 0 rfl)
        have k1 := cell_regrown (B2'.cell (v := .slice a' n' c') 1 rfl)
        have k2 := cell_regrown (Be.cell (v := .int .i64 x.id) 0 rfl)
        have k3 := cell_regrown (Be.cell (v := .slice xa xn xc) 1 rfl)
        refine wp_region_low2 (post1 42 (aClone W1 x.cs)) 9 (by kernel_rfl) (by kernel_rfl) ?_
        simp only [List.take, List.drop]
        iterate 6 (refine low2_step (fun K hK => ?_); go_simp; first | (refine hK _ ?_; clear hK K) | (apply Exists.intro; refine ⟨fun p => ?_, hK _ ?_⟩; clear hK K))
        refine low2_call 42 #[.slice xa xn xc] (aClone W1 x.cs) (by rfl) (fun w => by go_simp) (post1_same _ _) (fun V hV _ => ?_) ?_
        · refine (cloneC_any _ x.cs V (xh'.below hV)).mono ?_
          rintro e V' ⟨v, rfl, h1, h2⟩
          exact ⟨v, rfl, ⟨hV.size, h1⟩, h2⟩
        rintro v6 ⟨_, _, -, h6⟩
        obtain ⟨a6, n6, c6, rfl⟩ := h6.form
        clear h6
        iterate 1 (refine low2_step (fun K hK => ?_); go_simp; first | (refine hK _ ?_; clear hK K) | (apply Exists.intro; refine ⟨fun p => ?_, hK _ ?_⟩; clear hK K))
        refine low2_slice 1 1 (.cells #[.int .i64 x.id, .slice a6 n6 c6] 43) (by rfl) (fun w => by go_simp) ?_
        intro g8
        refine low2_nil ?_
        intro W2 hC
        have hb2 := hC.1
        obtain ⟨z8, B8⟩ : _ ∧ Bk W2 g8 #[.int .i64 x.id, .slice a6 n6 c6] 43 := hC.made 8 _ rfl
        obtain ⟨u1, u2, hA, hu1, hu2⟩ := hC.made 6 _ rfl
        have hRow : RowC W1.heap.size W2 (.slice a6 n6 c6) x.cs := (hA.2.below hu2).mono hA.1
        have C1 := B1'.below hb2
        have C2 := B2'.below hb2
        obtain ⟨hkl, ss, h1, h2, h3, h4⟩ := hF'
        have h2' := row_below h2 hb2
        have hkk : (es.take k).length = k := by rw [List.length_take, ← HL.out]; omega
        have hS1 := hb1.size
        have hS2 := hb2.size
        refine wpList_append_mine _ rfl _ _ 24 rfl w.heap.size 43 i0 (.agg #[.int .i64 0, .slice none 0 0]) 2 32 Tryz.underlying24 hi hz0 hz1 hz2 rfl (by decide) _ _ _ rfl h2' ⟨g8, 0, none⟩ 1 1 [.int .i64 x.id, .slice a6 n6 c6] rfl rfl ?c1 ?c2 (by decide) ?c4 ?c5 (by omega) ?_
        case c1 =>
          intro j u hj
          match j, hj with
          | 0, hj => simp at hj; subst hj; exact B8.cell 0 rfl
          | 1, hj => simp at hj; subst hj; simp [Addr.add]; exact B8.cell 1 rfl
        case c2 => intro u hu; simp at hu; rcases hu with rfl | rfl <;> rfl
        case c4 => rw [hkk]; unfold maxLen; omega
        case c5 => rw [hkk]; omega
        intro gb cap' w1 hown' hgrow hgb
        change W2.grownBy w1 (Value.slice a' n' c').ownBlock at hgrow
        have D1 : Bk w1 (w.heap.size + 1) #[.int .i64 0, .slice none 0 0] 26 := (hgrow.block _ C1.lt (bk_ne_row C1 (by decide) h2')).trans C1
        have D2 : Bk w1 (w.heap.size + 1 + 1) #[.int .i64 t, .slice a' n' c'] 26 := (hgrow.block _ C2.lt (bk_ne_row C2 (by decide) h2')).trans C2
        have hRow' := hRow.grown hgrow h2' (by decide)
        have hFr : Fresh w.heap.size w1 (.slice (some ⟨gb, 0, none⟩) ((es.take k).length + 1) cap') (es.take k ++ [x]) :=
          Fresh.push (w := W1) ⟨ss, h1, h3, h4, hown'⟩ (by rw [hkk]; omega) hRow' hS1 (fun b hb' ⟨cs, hcs⟩ => (hgrow.block b (Nat.lt_of_lt_of_le hb' hS2) (cells_ne_row (hcs.symm ▸ hb2.block b hb') (by decide) h2')).trans (hb2.block b hb'))
        have hbw : Below w.heap.size w w1 := (hb1.trans (hb2.mono hS1)).grown hgrow (Nat.le_trans hS1 hS2) (fun b hb' => (h2'.lt b hb').1)
        rw [hkk] at hFr ⊢
        clear hown' hgrow hRow hRow' h1 h2 h2' h3 h4 hA hu1 hu2 hC B8 z8 C1 C2 B1' B2' Be xh' hb1 hb2 hkl hS1 hS2 hgb k0 k1 k2 k3
        have d1 := D2.cell (v := .slice a' n' c') 1 rfl
        have e1 := D2.free 1
        have lt2 := D2.lt
        go_wp2
        go_roundw
        case rel => exact ⟨k + 1, _, _, _, by omega, by go_num, D1.far (p := ⟨w.heap.size + 1 + 1, 1, none⟩) (by simp) _, D2.put 1 _, by rw [take_succ HX.out]; exact hFr.set (p := ⟨w.heap.size + 1 + 1, 1, none⟩) D2 (by decide) (by decide) _, hbw.setCell (p := ⟨w.heap.size + 1 + 1, 1, none⟩) (by show w.heap.size ≤ w.heap.size + 1 + 1; omega) _⟩
        case measure => simp [intOf]; omega
    · obtain rfl : k = n := by omega
      have hall : es.take k = es := List.take_of_length_le (by rw [← HL.out]; omega)
      rw [hall] at hF
      have c0 := B2.cell (v := .int .i64 t) 0 rfl
      have c1 := B2.cell (v := .slice a' n' c') 1 rfl
      have d0 := B1.cell (v := .int .i64 0) 0 rfl
      have d1 := B1.cell (v := .slice none 0 0) 1 rfl
      have f0 := B1.free 0
      have f1 := B1.free 1
      go_wp2
      refine post_name (fun V => Bk V (w.heap.size + 1) #[.int .i64 t, .slice a' n' c'] 26 ∧ Fresh w.heap.size V (.slice a' n' c') es ∧ Below w.heap.size w V) ⟨(B1.put 0 _).put 1 _, (hF.set (p := ⟨w.heap.size + 1, 0, none⟩) B1 (by decide) (by decide) _).set (p := ⟨w.heap.size + 1, 1, none⟩) (B1.put 0 _) (by decide) (by decide) _, by go_grown⟩ ?_
      rintro V ⟨BV, hFV, hbV⟩
      clear c0 c1 d0 d1 f0 f1
      have d0 := BV.cell (v := .int .i64 t) 0 rfl
      have d1 := BV.cell (v := .slice a' n' c') 1 rfl
      refine bodyPost_ret (v := Wv t a' n' c') (by simp [results, Tryz.results33, go_sem, d0, d1]; try rfl) rfl ⟨a', n', c', rfl, hFV, hbV⟩
end Go.Proofs.YtlcjkomfjgddeaaGreatDoor
namespace Go.Proofs.YtlcjkomfjgddeaaGreatDoor
open Go Go.RowKit Go.Sort
set_option maxRecDepth 100000
attribute [local go_sem] opLow opUpon opLow2 opUpon2

/-- whether two components are equal -/
def eqC (y x : Cmp) : Bool := decide (y.k = x.k) && (decide (y.a = x.a) && (decide (y.b = x.b) && (decide (y.c = x.c) && decide (y.d = x.d))))
theorem eqC_iff (y x : Cmp) : eqC y x = true ↔ y = x := by
  obtain ⟨k, a, b, c, d⟩ := y
  obtain ⟨k', a', b', c', d'⟩ := x
  simp [eqC]
theorem eql_arr4 (d : Nat) (a b c e a' b' c' e' : Int) (w : World) : (Op.equalIn (d + 2) 46 (.agg #[.int .i64 a, .int .i64 b, .int .i64 c, .int .i64 e]) (.agg #[.int .i64 a', .int .i64 b', .int .i64 c', .int .i64 e'])).run Tryz.prog w = .ok (a == a' && (b == b' && (c == c' && e == e'))) w := by
  have hu : Tryz.prog.underlying 46 = some (.array 4 3) := by kernel_rfl
  rw [show d + 2 = (d + 1) + 1 from rfl, Op.equalIn]
  simp only [Sem.run_bind, run_underlying hu, Result.andThen_ok]
  cases h1 : a == a' <;> cases h2 : b == b' <;> cases h3 : c == c' <;> cases h4 : e == e' <;>
  simp [Std.Legacy.Range.forIn_eq_forIn_range', List.range', go_sem, h1, h2, h3, h4]
attribute [local go_sem] eql_arr4
theorem eql_C (y x : Cmp) (w : World) : (binOp .eql 48 (C y) (C x)).run Tryz.prog w = .ok (.bool (eqC y x)) w := by
  obtain ⟨k, a, b, c, d⟩ := y
  obtain ⟨k', a', b', c', d'⟩ := x
  unfold eqC
  simp only
  by_cases h1 : k = k'
  · by_cases h2 : a = a'
    · by_cases h3 : b = b'
      · by_cases h4 : c = c'
        · by_cases h5 : d = d'
          · subst h1 h2 h3 h4 h5; simp [go_sem]
          · simp [go_sem, h1, h2, h3, h4, h5]
        · simp [go_sem, h1, h2, h3, h4]
      · simp [go_sem, h1, h2, h3]
    · simp [go_sem, h1, h2]
  · simp [go_sem, h1]
theorem eqlv_C (y x : Cmp) (t : Bool) (h : eqC y x = t) (w : World) : (binOp .eql 48 (.agg #[.int .u8 y.k, .int .i64 y.a, .int .i64 y.b, .int .i64 y.c, .int .i64 y.d]) (.agg #[.int .u8 x.k, .int .i64 x.a, .int .i64 x.b, .int .i64 x.c, .int .i64 x.d])).run Tryz.prog w = .ok (.bool t) w := by rw [← h]; exact eql_C y x w
set_option maxHeartbeats 4000000 in
theorem indexC_any (l : List Cmp) (v : Value) (w : World) (h : CompsAt w v l) (y : Cmp) :
    Calls Tryz.prog 94 #[v, C y] w fun e w' => e = .returned (.int .i64 (firstOf (eqC y) l)) ∧ Below w.heap.size w w' := by
  rcases h with ⟨⟨a0, rfl⟩, rfl⟩ | ⟨b, off, cap, rfl, hl, hc⟩
  · go_enter Tryz.func94, Tryz.ntmps94
    go_wp2
    refine wp_loop_rounds 1 ?_
    rw [rounds_succ]
    go_wp2
    go_returns
    exact ⟨rfl, by go_grown⟩
  · obtain ⟨n, hn⟩ : ∃ n, l.length = n := ⟨_, rfl⟩
    have HN := Lib.hid hn
    rw [hn] at hl ⊢
    clear hn
    go_enter Tryz.func94, Tryz.ntmps94
    go_wp2
    go_loopw [8] (fun v8 wr => ∃ j : Nat, j ≤ n ∧ v8 = .int .i64 j ∧ Hid (∀ i x, i < j → l[i]? = some x → eqC y x = false) ∧ Bk wr w.heap.size #[.int .u8 y.k, .int .i64 y.a, .int .i64 y.b, .int .i64 y.c, .int .i64 y.d] 48 ∧ Below w.heap.size w wr) (fun v8 _ => n - (intOf v8).toNat)
    case atStart => exact ⟨0, by omega, rfl, Lib.hid (fun i x hi => absurd hi (by omega)), Bk.made _ _ _, by go_grown⟩
    case round =>
      obtain ⟨j, hj, rfl, HJ, B, hb⟩ := hrel
      by_cases hlt : j < n
      · obtain ⟨x, hx⟩ := at_lt (l := l) (i := j) (by rw [HN.out]; omega)
        obtain ⟨⟨x0, x1, x2, x3, x4⟩, xk⟩ := hc j x hx
        have HX := Lib.hid hx
        clear hx
        replace x0 := cell_regrown (cell_later hb x0)
        replace x1 := cell_regrown (cell_later hb x1)
        replace x2 := cell_regrown (cell_later hb x2)
        replace x3 := cell_regrown (cell_later hb x3)
        replace x4 := cell_regrown (cell_later hb x4)
        have y0 := cell_regrown (B.cell (v := .int .u8 y.k) 0 rfl)
        have y1 := cell_regrown (B.cell (v := .int .i64 y.a) 1 rfl)
        have y2 := cell_regrown (B.cell (v := .int .i64 y.b) 2 rfl)
        have y3 := cell_regrown (B.cell (v := .int .i64 y.c) 3 rfl)
        have y4 := cell_regrown (B.cell (v := .int .i64 y.d) 4 rfl)
        go_wp2
        refine wp_region_low2 noPosts 5 (by kernel_rfl) (by kernel_rfl) ?_
        simp only [List.take, List.drop]
        iterate 5 (refine low2_step (fun K hK => ?_); go_simp; first | (refine hK _ ?_; clear hK K) | (apply Exists.intro; refine ⟨fun p => ?_, hK _ ?_⟩; clear hK K))
        refine low2_nil ?_
        intro V hC
        have hbV := hC.1
        clear hC x0 x1 x2 x3 x4 y0 y1 y2 y3 y4
        replace B := B.below hbV
        obtain ⟨hb', hs'⟩ := below_c (w := w) hbV hb
        clear hbV hb
        by_cases hbad : eqC y x = true
        · have HB := Lib.hid hbad
          have heq := eqlv_C y x true hbad
          clear hbad
          go_wp2
          go_returns
          exact ⟨ret_i64 (firstOf_yes HX.out HB.out HJ.out).symm, hb'⟩
        · have hbad : eqC y x = false := by simpa using hbad
          have HB := Lib.hid hbad
          have heq := eqlv_C y x false hbad
          clear hbad
          go_wp2
          go_roundw
          case rel => exact ⟨j + 1, by omega, by go_num, Lib.hid (fun i y hi hy => by
            rcases Nat.lt_succ_iff_lt_or_eq.1 hi with h | h
            · exact HJ.out i y h hy
            · subst h
              rw [HX.out] at hy
              cases hy
              exact HB.out), B, hb'⟩
          case measure => simp [intOf]; omega
      · go_wp2
        go_returns
        exact ⟨ret_i64 (firstOf_no (fun i x hx => HJ.out i x (by have := (List.getElem?_eq_some_iff.1 hx).1; have := HN.out; omega) hx)).symm, hb⟩
theorem containsC_any (l : List Cmp) (v : Value) (w : World) (h : CompsAt w v l) (y : Cmp) :
    Calls Tryz.prog 63 #[v, C y] w fun e w' => e = .returned (.bool (l.any (eqC y))) ∧ Below w.heap.size w w' := by
  have hi := firstOf_iff (eqC y) l
  have I1 := fun W hW => indexC_any l v W (h.below hW) y
  obtain ⟨i, hif⟩ : ∃ i, firstOf (eqC y) l = i := ⟨_, rfl⟩
  rw [hif] at hi I1
  have HI := Lib.hid I1
  clear I1 h
  by_cases hz : 0 ≤ i
  · have hb := hi.1 hz
    rw [hb]
    clear hi hb hif
    go_enter Tryz.func63, Tryz.ntmps63
    go_wp2_with (refine (HI.out _ ((Below.refl _ _).alloc (Nat.le_refl _) _)).mono ?_; rintro e V ⟨rfl, hbV⟩)
    go_returns
    exact ⟨rfl, ((Below.refl w.heap.size w).alloc (Nat.le_refl _) _).trans (hbV.mono (by simp))⟩
  · have hb : l.any (eqC y) = false := by
      rcases hq : l.any (eqC y) with _ | _
      · rfl
      · exact absurd (hi.2 hq) hz
    have d1 : decide (0 ≤ i) = false := by simpa using hz
    rw [hb]
    clear hi hb hif hz
    go_enter Tryz.func63, Tryz.ntmps63
    go_wp2_with (refine (HI.out _ ((Below.refl _ _).alloc (Nat.le_refl _) _)).mono ?_; rintro e V ⟨rfl, hbV⟩)
    go_returns
    exact ⟨rfl, ((Below.refl w.heap.size w).alloc (Nat.le_refl _) _).trans (hbV.mono (by simp))⟩
/-- whether an entity belongs to a client -/
def ownB (id : Int) (e : Ent) : Bool := e.cs.any (eqC ⟨4, id, 0, 0, 0⟩)
theorem own1_any (e : Ent) (a : Option Addr) (n c : Nat) (id : Int) (g : Nat) (w : World) (h : CompsAt w (.slice a n c) e.cs) (hg : Bk w g #[.int .u8 4, .int .i64 id, .int .i64 0, .int .i64 0, .int .i64 0] 48) :
    Calls Tryz.prog 62 #[.agg #[.int .i64 e.id, .slice a n c], .pointer (some ⟨g, 0, none⟩)] w fun e' w' => e' = .returned (.bool (ownB id e)) ∧ Below w.heap.size w w' := by
  have CC := fun W hW => containsC_any e.cs (.slice a n c) W (h.below hW) ⟨4, id, 0, 0, 0⟩
  have HC := Lib.hid CC
  have g0 := hg.cell (v := .int .u8 4) 0 rfl
  have g1 := hg.cell (v := .int .i64 id) 1 rfl
  have g2 := hg.cell (v := .int .i64 0) 2 rfl
  have g3 := hg.cell (v := .int .i64 0) 3 rfl
  have g4 := hg.cell (v := .int .i64 0) 4 rfl
  have lt := hg.lt
  have hob : e.cs.any (eqC ⟨4, id, 0, 0, 0⟩) = ownB id e := rfl
  rw [hob] at HC
  clear CC h hg hob
  go_enter Tryz.func62, Tryz.ntmps62
  go_wp2_with (refine (HC.out _ ((Below.refl _ _).alloc (Nat.le_refl _) _)).mono ?_; rintro e' V ⟨rfl, hbV⟩)
  go_returns
  exact ⟨rfl, ((Below.refl w.heap.size w).alloc (Nat.le_refl _) _).trans (hbV.mono (by simp))⟩
end Go.Proofs.YtlcjkomfjgddeaaGreatDoor
namespace Go.Proofs.YtlcjkomfjgddeaaGreatDoor
open Go Go.RowKit Go.Sort
set_option maxRecDepth 100000
attribute [local go_sem] opLow opUpon opLow2 opUpon2

structure Inp where
  c : Int
  s : Int
  t : Int
  mx : Int
  my : Int
  fire : Bool
  ax : Int
  ay : Int
  seen : Int
  part : Int
/-- the cells of an input -/
def InpAt (w : World) (g o : Nat) (b : Inp) : Prop :=
  w.cell? ⟨g, o, none⟩ = some (.int .i64 b.c) ∧ w.cell? ⟨g, o + 1, none⟩ = some (.int .i64 b.s) ∧ w.cell? ⟨g, o + 2, none⟩ = some (.int .i64 b.t) ∧ w.cell? ⟨g, o + 3, none⟩ = some (.int .i64 b.mx) ∧ w.cell? ⟨g, o + 4, none⟩ = some (.int .i64 b.my) ∧ w.cell? ⟨g, o + 5, none⟩ = some (.bool b.fire) ∧ w.cell? ⟨g, o + 6, none⟩ = some (.int .i64 b.ax) ∧ w.cell? ⟨g, o + 7, none⟩ = some (.int .i64 b.ay) ∧ w.cell? ⟨g, o + 8, none⟩ = some (.int .i64 b.seen) ∧ w.cell? ⟨g, o + 9, none⟩ = some (.int .i64 b.part)
theorem inp_kept {w w' : World} {n g o : Nat} {b : Inp} (h : InpAt w g o b) (hb : Below n w w') (hg : g < n) : InpAt w' g o b := by
  obtain ⟨h0, h1, h2, h3, h4, h5, h6, h7, h8, h9⟩ := h
  refine ⟨?_, ?_, ?_, ?_, ?_, ?_, ?_, ?_, ?_, ?_⟩ <;> (refine Eq.trans (hb.cell ?_) ‹_›; exact hg)
abbrev Iv (x : Inp) : Value := .agg #[.int .i64 x.c, .int .i64 x.s, .int .i64 x.t, .int .i64 x.mx, .int .i64 x.my, .bool x.fire, .int .i64 x.ax, .int .i64 x.ay, .int .i64 x.seen, .int .i64 x.part]
def iv (b : Inp) : List Value := [.int .i64 b.c, .int .i64 b.s, .int .i64 b.t, .int .i64 b.mx, .int .i64 b.my, .bool b.fire, .int .i64 b.ax, .int .i64 b.ay, .int .i64 b.seen, .int .i64 b.part]
def ivs (l : List Inp) : List Value := l.flatMap iv
theorem iv_len (x : Inp) : (iv x).length = 10 := rfl
theorem ivs_len (l : List Inp) : (ivs l).length = l.length * 10 := flat_len iv 10 iv_len l
theorem ivs_one (l : List Inp) : ∀ u ∈ ivs l, u.oneCell' = true := by
  intro u hu
  obtain ⟨x, -, hx⟩ := List.mem_flatMap.1 hu
  simp only [iv, List.mem_cons, List.not_mem_nil, or_false] at hx
  rcases hx with rfl | rfl | rfl | rfl | rfl | rfl | rfl | rfl | rfl | rfl <;> rfl
def InpsAt : World → Value → List Inp → Prop := ListAt InpAt 10
theorem InpAt.below' {w w' : World} (hb : Below w.heap.size w w') (g o : Nat) (b : Inp) (h : InpAt w g o b) : InpAt w' g o b :=
  inp_kept h hb (World.block_lt_of_cell? w _ h.1)
theorem InpsAt.below {w w' : World} {v : Value} {l : List Inp} (h : InpsAt w v l) (hb : Below w.heap.size w w') : InpsAt w' v l := ListAt.below (InpAt.below' hb) h
theorem InpsAt.len64 {w : World} {v : Value} {l : List Inp} (h : InpsAt w v l) : l.length < 1099511627776 := by
  rcases h with ⟨_, rfl⟩ | ⟨b, off, cap, _, hl, hc⟩
  · simp
  · exact hl
theorem inp_cell {w : World} {g o : Nat} {b : Inp} (h : InpAt w g o b) {r : Nat} {u : Value} (hr : r < 10) (hu : (iv b)[r]? = some u) : w.cell? ⟨g, o + r, none⟩ = some u := by
  obtain ⟨h0, h1, h2, h3, h4, h5, h6, h7, h8, h9⟩ := h
  rcases (by omega : r = 0 ∨ r = 1 ∨ r = 2 ∨ r = 3 ∨ r = 4 ∨ r = 5 ∨ r = 6 ∨ r = 7 ∨ r = 8 ∨ r = 9) with rfl | rfl | rfl | rfl | rfl | rfl | rfl | rfl | rfl | rfl <;> simp only [iv, List.getElem?_cons_zero, List.getElem?_cons_succ, Option.some.injEq] at hu <;> subst hu <;> assumption
theorem InpsAt.cell {w : World} {p : Addr} {n cap : Nat} {l : List Inp} (h : InpsAt w (.slice (some p) n cap) l) : ∀ j u, (ivs l)[j]? = some u → w.cell? (p.add j) = some u := by
  rcases h with ⟨_, rfl⟩ | ⟨b', off', cap', h, hl, hc⟩
  · intro j u hu; simp [ivs] at hu
  · cases h
    intro j u hu
    obtain ⟨i, r, x, rfl, hr, hx, hu⟩ := flat_of iv 10 iv_len l j u hu
    rw [Addr.add_lit, ← Nat.add_assoc]
    exact inp_cell (hc i x hx) hr hu
/-- bodies that the call owns -/
def RowI (base : Nat) (w : World) (s : Value) (l : List Inp) : Prop := w.ownsRow base 37 10 s l.length (ivs l) ∧ l.length < 1099511627776
theorem RowI.below {base : Nat} {w w' : World} {s : Value} {l : List Inp} (h : RowI base w s l) (hb : Below w.heap.size w w') : RowI base w' s l := ⟨row_below h.1 hb, h.2⟩
theorem inpAt_of {w : World} {g o : Nat} {b : Inp} (key : ∀ r, r < 10 → w.cell? ⟨g, o + r, none⟩ = (iv b)[r]?) : InpAt w g o b :=
  ⟨key 0 (by omega), key 1 (by omega), key 2 (by omega), key 3 (by omega), key 4 (by omega), key 5 (by omega), key 6 (by omega), key 7 (by omega), key 8 (by omega), key 9 (by omega)⟩
theorem RowI.len {base : Nat} {w : World} {a : Option Addr} {n cap : Nat} {l : List Inp} (h : RowI base w (.slice a n cap) l) : n = l.length := by
  rcases h.1.2 with ⟨h1, h2⟩ | ⟨g, cap', cur, h1, _⟩
  · cases h1; exact h2.symm
  · cases h1; rfl
theorem RowI.at {base : Nat} {w : World} {g n cap : Nat} {l : List Inp} (h : RowI base w (.slice (some ⟨g, 0, none⟩) n cap) l) {i : Nat} {x : Inp} (hx : l[i]? = some x) : InpAt w g (i * 10) x := by
  have hi := (List.getElem?_eq_some_iff.1 hx).1
  obtain rfl := h.len
  have hrow : w.ownsRow base 37 10 (.slice (some ⟨g, 0, none⟩) l.length cap) l.length (ivs l) := h.1
  exact inpAt_of fun r hr => by
    rw [hrow.cellAt (i * 10 + r) (by omega)]
    exact flat_at iv 10 iv_len l i r x hx hr
theorem RowI.inps {base : Nat} {w : World} {s : Value} {l : List Inp} (h : RowI base w s l) : InpsAt w s l := by
  have h0 := h
  rcases h.1.2 with ⟨h1, h2⟩ | ⟨g, cap, cur, hv, hg, hh, h3⟩
  · exact .inl ⟨⟨_, h1⟩, List.eq_nil_of_length_eq_zero h2⟩
  · subst hv
    exact .inr ⟨g, 0, cap, rfl, h.2, fun i x hx => by rw [Nat.zero_add]; exact h0.at hx⟩
theorem infoI : (Tryz.prog.info? 37).map (fun i => (i.zero, i.size, i.bytes)) = some (some (.agg #[.int .i64 0, .int .i64 0, .int .i64 0, .int .i64 0, .int .i64 0, .bool false, .int .i64 0, .int .i64 0, .int .i64 0, .int .i64 0]), 10, 80) := by kernel_rfl
set_option maxHeartbeats 1000000 in
theorem cloneI_any (s : Value) (l : List Inp) (w : World) (h : InpsAt w s l) :
    Calls Tryz.prog 65 #[s] w fun e w' => ∃ v, e = .returned v ∧ RowI w.heap.size w' v l ∧ Below w.heap.size w w' := by
  have hkk := h.len64
  have hk := hkk
  obtain ⟨i0, hi, hz0, hz1, hz2⟩ := info_parts infoI
  by_cases hn : s = .slice none 0 0
  · subst hn
    have hl : l = [] := by
      rcases h with ⟨_, h⟩ | ⟨b, off, cap, h, _⟩
      · exact h
      · cases h
    subst hl
    have heq : ∀ w : World, (binOp .eql 27 (.slice none 0 0) (.slice none 0 0)).run Tryz.prog w = .ok (.bool true) w := fun w => by kernel_rfl
    go_enter Tryz.func65, Tryz.ntmps65
    go_wp2
    go_returns
    exact ⟨_, rfl, ⟨World.ownsRow_nil _ _ _ _, hk⟩, by go_grown⟩
  · obtain ⟨q, cap, rfl⟩ : ∃ q cap, s = .slice (some q) l.length cap := by
      rcases h with ⟨⟨a0, h⟩, h2⟩ | ⟨b, off, cap, h, _⟩
      · cases a0 with
        | none => exact absurd h hn
        | some q => exact ⟨q, 0, by rw [h, h2]; rfl⟩
      · exact ⟨_, cap, h⟩
    obtain ⟨n, hn2⟩ : ∃ n, l.length = n := ⟨_, rfl⟩
    have HN := Lib.hid hn2
    rw [hn2] at h hkk ⊢
    have heq : ∀ w : World, (binOp .eql 27 (.slice (some q) n cap) (.slice none 0 0)).run Tryz.prog w = .ok (.bool false) w := fun w => Lib.run_eql_slice_nil w _ 37 (some q) n cap 0 0 Tryz.underlying27
    have HO := Lib.hid (show (w.alloc (.cells #[] 37)).ownsRow w.heap.size 37 10 (.slice (some ⟨w.heap.size, 0, none⟩) 0 0) 0 [] from World.ownsRow_made w #[] 0 (Nat.le_refl _) (by decide) (by decide))
    have HCl := Lib.hid (h.below ((Below.refl _ _).alloc (Nat.le_refl _) (.cells #[] 37))).cell
    have HK := Lib.hid hk
    clear hk hn hn2
    go_enter Tryz.func65, Tryz.ntmps65
    go_wp2_with (at_builtin; refine wpList_append_own _ rfl _ _ 27 rfl w.heap.size 37 i0 (.agg #[.int .i64 0, .int .i64 0, .int .i64 0, .int .i64 0, .int .i64 0, .bool false, .int .i64 0, .int .i64 0, .int .i64 0, .int .i64 0]) 10 80 Tryz.underlying27 hi hz0 hz1 hz2 rfl (by decide) _ 0 [] rfl HO.out q n cap (ivs l) rfl (by rw [ivs_len, HN.out]) HCl.out (ivs_one l) ?c1 ?c2 (by simp) ?_)
    case c1 => unfold maxLen; omega
    case c2 => omega
    intro v' w1 hown' hgrow _
    have hvf : ∃ a n c, v' = .slice a n c := by
      rcases hown'.2 with ⟨h, _⟩ | ⟨g, cap', cur, h, _⟩
      · exact ⟨_, _, _, h⟩
      · exact ⟨_, _, _, h⟩
    obtain ⟨a', n', c', rfl⟩ := hvf
    go_wp2
    go_returns
    exact ⟨_, rfl, ⟨by rw [HN.out]; exact hown', HK.out⟩, ((Below.refl _ _).alloc (Nat.le_refl _) _).grown hgrow (by simp) (by intro k hk; cases hk; exact Nat.le_refl _)⟩
/-- whether an input is acknowledged -/
def ackB (k : Int) (x : Inp) : Bool := decide (x.s ≤ k)
theorem recv1_any (x : Inp) (k : Int) (g : Nat) (w : World) (hg : Bk w g #[.int .i64 k] 3) :
    Calls Tryz.prog 45 #[Iv x, .pointer (some ⟨g, 0, none⟩)] w fun e w' => e = .returned (.bool (ackB k x)) ∧ Below w.heap.size w w' := by
  have hp := hg.cell (v := .int .i64 k) 0 rfl
  have lt := hg.lt
  clear hg
  by_cases hk : x.s ≤ k
  · have h1 : ackB k x = true := by unfold ackB; simpa using hk
    have h2 : decide (x.s ≤ k) = true := by simpa using hk
    rw [h1]
    clear h1 hk
    go_enter Tryz.func45, Tryz.ntmps45
    go_wp2
    go_returns
    exact ⟨rfl, by go_grown⟩
  · have h1 : ackB k x = false := by unfold ackB; simpa using hk
    have h2 : decide (x.s ≤ k) = false := by simpa using hk
    rw [h1]
    clear h1 hk
    go_enter Tryz.func45, Tryz.ntmps45
    go_wp2
    go_returns
    exact ⟨rfl, by go_grown⟩
set_option maxHeartbeats 4000000 in
theorem indexR_any (l : List Inp) (v : Value) (w : World) (h : InpsAt w v l) (k : Int) (g : Nat) (hR : Bk w g #[.int .i64 k] 3) :
    Calls Tryz.prog 66 #[v, .func (.func 45) #[] #[.pointer (some ⟨g, 0, none⟩)]] w fun e w' => e = .returned (.int .i64 (firstOf (ackB k) l)) ∧ Below w.heap.size w w' := by
  rcases h with ⟨⟨a0, rfl⟩, rfl⟩ | ⟨b, off, cap, rfl, hl, hc⟩
  · go_enter Tryz.func66, Tryz.ntmps66
    go_wp2
    refine wp_loop_rounds 1 ?_
    rw [rounds_succ]
    go_wp2
    go_returns
    exact ⟨rfl, by go_grown⟩
  · obtain ⟨n, hn⟩ : ∃ n, l.length = n := ⟨_, rfl⟩
    have HN := Lib.hid hn
    rw [hn] at hl ⊢
    clear hn
    go_enter Tryz.func66, Tryz.ntmps66
    go_wp2
    go_loopw [8] (fun v8 wr => ∃ j : Nat, j ≤ n ∧ v8 = .int .i64 j ∧ Hid (∀ i x, i < j → l[i]? = some x → (ackB k) x = false) ∧ Below w.heap.size w wr) (fun v8 _ => n - (intOf v8).toNat)
    case atStart => exact ⟨0, by omega, rfl, Lib.hid (fun i x hi => absurd hi (by omega)), by go_grown⟩
    case round =>
      obtain ⟨j, hj, rfl, HJ, hb⟩ := hrel
      by_cases hlt : j < n
      · obtain ⟨x, hx⟩ := at_lt (l := l) (i := j) (by rw [HN.out]; omega)
        have hP := hc j x hx
        obtain ⟨x0, x1, x2, x3, x4, x5, x6, x7, x8, x9⟩ := hP
        have HX := Lib.hid (And.intro hx (hc j x hx))
        clear hx
        replace x0 := cell_later hb x0
        replace x1 := cell_later hb x1
        replace x2 := cell_later hb x2
        replace x3 := cell_later hb x3
        replace x4 := cell_later hb x4
        replace x5 := cell_later hb x5
        replace x6 := cell_later hb x6
        replace x7 := cell_later hb x7
        replace x8 := cell_later hb x8
        replace x9 := cell_later hb x9
        go_wp2_with fail
        with_reducible refine (recv1_any x k g _ (hR.below hb)).mono ?_
        rintro e W1 ⟨rfl, hb1⟩
        obtain ⟨hb', hs'⟩ := below_c (w := w) hb1 hb
        clear x0 x1 x2 x3 x4 x5 x6 x7 x8 x9 hb1 hb
        by_cases hbad : (ackB k) x = true
        · have HB := Lib.hid hbad
          try simp only at hbad
          go_wp2
          go_returns
          exact ⟨ret_i64 (firstOf_yes HX.out.1 HB.out HJ.out).symm, hb'⟩
        · have hbad : (ackB k) x = false := by simpa using hbad
          have HB := Lib.hid hbad
          try simp only at hbad
          go_wp2
          go_roundw
          case rel => exact ⟨j + 1, by omega, by go_num, Lib.hid (fun i y hi hy => by
            rcases Nat.lt_succ_iff_lt_or_eq.1 hi with h | h
            · exact HJ.out i y h hy
            · subst h
              rw [HX.out.1] at hy
              cases hy
              exact HB.out), hb'⟩
          case measure => simp [intOf]; omega
      · go_wp2
        go_returns
        exact ⟨ret_i64 (firstOf_no (fun i x hx => HJ.out i x (by have := (List.getElem?_eq_some_iff.1 hx).1; have := HN.out; omega) hx)).symm, hb⟩
end Go.Proofs.YtlcjkomfjgddeaaGreatDoor
