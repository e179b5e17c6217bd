/- interp.Push. -/
import Derived.Test.YtjjodmkblpdnhaaDoorInterp12
set_option linter.unusedVariables false
set_option linter.unusedSimpArgs false
namespace Go.Proofs.YtjjodmkblpdnhaaDoor
open Go Go.RowKit Go.Sort
set_option maxRecDepth 100000
attribute [local go_sem] opLow opUpon opLow2 opUpon2

/-- what Push makes of a history -/
def okP (H : List Wld) (W : Wld) : Prop := ValidH H ∧ Valid W ∧ (0 < H.length → (H.map Wld.t).getD (H.length - 1) 0 < W.t)
instance decOkP (H : List Wld) (W : Wld) : Decidable (okP H W) := by unfold okP; infer_instance
def pushL (H : List Wld) (W : Wld) : List Wld := (H ++ [W]).drop (H.length + 1 - 40)
def pushM (H : List Wld) (W : Wld) : Option (List Wld) := if okP H W then some (pushL H W) else none
/-- what Push returns, in a call that began in w -/
def PushPost (w : World) (r : Option (List Wld)) (e : Ending) (w' : World) : Prop := (match r with
  | some L => ∃ a' n' c', e = .returned (.tuple #[.slice a' n' c', .int .i64 0]) ∧ HistAt w' (.slice a' n' c') L ∧ n' ≤ c'
  | none => e = .returned (.tuple #[.slice none 0 0, .int .i64 2])) ∧ Below w.heap.size w w'
def post2 (f : FuncId) (A : Array Value → Value → World → World → Prop) (g : FuncId) (B : Array Value → Value → World → World → Prop) : Posts := fun h => if h = f then some A else if h = g then some B else none
def aOwned (w0 : World) (H : List Wld) : Array Value → Value → World → World → Prop := fun _ v w1 w2 => w0.heap.size ≤ w1.heap.size ∧ ∃ a n c ss, v = .slice a n c ∧ HistE w1.heap.size w2 v H ss
def aOwn (w0 : World) (W : Wld) : Array Value → Value → World → World → Prop := fun _ v w1 w2 => w0.heap.size ≤ w1.heap.size ∧ ∃ a n c, v = Wv W.t a n c ∧ Fresh w1.heap.size w2 (.slice a n c) W.es
set_option maxHeartbeats 8000000 in
theorem push_any (H : List Wld) (W : Wld) (a : Option Addr) (n c : Nat) (xa : Option Addr) (xn xc : Nat) (w : World) (h : HistAt w (.slice a n c) H) (hx : EntsAt w (.slice xa xn xc) W.es) (hR : RG w) :
    Calls Tryd.prog 9 #[.slice a n c, Wv W.t xa xn xc] w (PushPost w (pushM H W)) := by
  obtain ⟨t, es⟩ := W
  simp only at hx
  obtain ⟨r, hr⟩ : ∃ r, pushM H ⟨t, es⟩ = r := ⟨_, rfl⟩
  have HM := Lib.hid hr
  rw [hr]
  clear hr
  obtain ⟨v, hv⟩ : ∃ v, decide (ValidH H) = v := ⟨_, rfl⟩
  obtain ⟨u, hu⟩ : ∃ u, decide (Valid ⟨t, es⟩) = u := ⟨_, rfl⟩
  have HV := Lib.hid (And.intro hv hu)
  clear hv hu
  have hl := same_off h
  have HL := Lib.hid hl.1
  have hn2 := hl.2
  clear hl
  obtain ⟨i0, hi, hz0, hz1, hz2⟩ := info_parts infoW
  go_enter Tryd.func9, Tryd.ntmps9
  go_wp2
  refine wp_name (fun W1 => Bk W1 w.heap.size #[.int .i64 t, .slice xa xn xc] 27 ∧ Below w.heap.size w W1) ⟨Bk.made _ _ _, by go_grown⟩ ?_
  rintro W1 ⟨B1, hgg⟩
  have h1 := h.below hgg
  have hx1 := hx.below hgg
  have hR1 := hR.below hgg
  have c0 := cell_regrown (B1.cell (v := .int .i64 t) 0 rfl)
  have c1 := cell_regrown (B1.cell (v := .slice xa xn xc) 1 rfl)
  have VH := fun d os => validH_any H a n c (grow (redrawn W1 d) os) (h1.below (below_regrown _ _ _)) (hR1.below (below_regrown _ _ _))
  have VT := fun d os => valid_any ⟨t, es⟩ xa xn xc (grow (redrawn W1 d) os) (hR1.below (below_regrown _ _ _)) (hx1.below (below_regrown _ _ _))
  rw [HV.out.1] at VH
  rw [HV.out.2] at VT
  have H1 := Lib.hid h1
  have HX1 := Lib.hid hx1
  clear h h1 hx hx1 hR hR1
  cases v
  · have hr : r = none := by rw [← HM.out]; unfold pushM; rw [if_neg (fun hk => of_decide_eq_false HV.out.1 hk.1)]
    subst hr
    refine wp_region_low 24 (by kernel_rfl) (by kernel_rfl) ?_
    simp only [List.take, List.drop]
    iterate 24 (refine low_step (fun K hK => ?_); go_simp; first | (refine hK _ ?_; clear hK K) | (apply Exists.intro; refine ⟨fun p => ?_, hK _ ?_⟩; (first | with_reducible exact VH _ _ | with_reducible exact VT _ _); clear hK K))
    refine low_nil ?_
    intro W2 hC
    obtain ⟨hb', hs'⟩ := below_c (w := w) hC.1 hgg
    clear hC VH VT c0 c1
    go_wp2
    go_returns
    exact ⟨rfl, hb'⟩
  · cases u
    · have hr : r = none := by rw [← HM.out]; unfold pushM; rw [if_neg (fun hk => of_decide_eq_false HV.out.2 hk.2.1)]
      subst hr
      refine wp_region_low 24 (by kernel_rfl) (by kernel_rfl) ?_
      simp only [List.take, List.drop]
      iterate 24 (refine low_step (fun K hK => ?_); go_simp; first | (refine hK _ ?_; clear hK K) | (apply Exists.intro; refine ⟨fun p => ?_, hK _ ?_⟩; (first | with_reducible exact VH _ _ | with_reducible exact VT _ _); clear hK K))
      refine low_nil ?_
      intro W2 hC
      obtain ⟨hb', hs'⟩ := below_c (w := w) hC.1 hgg
      clear hC VH VT c0 c1
      go_wp2
      go_returns
      exact ⟨rfl, hb'⟩
    · by_cases hbad : 0 < n ∧ t ≤ (H.map Wld.t).getD (H.length - 1) 0
      · have hr : r = none := by
          rw [← HM.out]; unfold pushM; rw [if_neg (fun hk => by
          have := hk.2.2 (by rw [← HL.out]; exact hbad.1)
          have := hbad.2
          simp only at *
          omega)]
        subst hr
        obtain ⟨hn0, hbad⟩ := hbad
        obtain ⟨y, hy⟩ := at_lt (l := H) (i := n - 1) (by rw [← HL.out]; omega)
        rw [← HL.out, map_at Wld.t hy] at hbad
        obtain ⟨b, off, rfl, q⟩ := same_at H1.out hy
        obtain ⟨q0, -⟩ := q
        obtain ⟨m, rfl⟩ : ∃ m, n = m + 1 := ⟨n - 1, by omega⟩
        rw [Nat.add_sub_cancel] at q0
        replace q0 := cell_regrown q0
        have e1 : IntKind.i64.wrap (m : Int) = (m : Int) := by rw [IntKind.wrap_i64]; omega
        have e2 : (m : Int) < m + 1 := by omega
        have e5 : (0 : Int) ≤ (m : Int) := by omega
        have e6 : (0 : Int) < (m : Int) + 1 := by omega
        have e7 : decide (t ≤ y.t) = true := decide_eq_true hbad
        clear hy hn0
        refine wp_region_low 24 (by kernel_rfl) (by kernel_rfl) ?_
        simp only [List.take, List.drop]
        iterate 24 (refine low_step (fun K hK => ?_); go_simp; first | (refine hK _ ?_; clear hK K) | (apply Exists.intro; refine ⟨fun p => ?_, hK _ ?_⟩; (first | with_reducible exact VH _ _ | with_reducible exact VT _ _); clear hK K))
        refine low_nil ?_
        intro W2 hC
        obtain ⟨hb', hs'⟩ := below_c (w := w) hC.1 hgg
        clear hC VH VT c0 c1
        go_wp2
        go_returns
        exact ⟨rfl, hb'⟩
      · have hok : okP H ⟨t, es⟩ := ⟨of_decide_eq_true HV.out.1, of_decide_eq_true HV.out.2, fun h0 => by
          rw [← HL.out] at h0
          have := fun h2 => hbad ⟨h0, h2⟩
          simp only
          omega⟩
        have hr : r = some (pushL H ⟨t, es⟩) := by rw [← HM.out]; unfold pushM; rw [if_pos hok]
        subst hr
        have HB := Lib.hid hbad
        clear hbad hok
        rcases Nat.eq_zero_or_pos n with h0 | h0
        · subst h0
          refine wp_region_low 24 (by kernel_rfl) (by kernel_rfl) ?_
          simp only [List.take, List.drop]
          iterate 24 (refine low_step (fun K hK => ?_); go_simp; first | (refine hK _ ?_; clear hK K) | (apply Exists.intro; refine ⟨fun p => ?_, hK _ ?_⟩; (first | with_reducible exact VH _ _ | with_reducible exact VT _ _); clear hK K))
          refine low_nil ?_
          intro W2 hC
          have hb2 := hC.1
          obtain ⟨hb', hs'⟩ := below_c (w := w) hb2 hgg
          have H2 := H1.out.below hb2
          have HX2 := HX1.out.below hb2
          have B2 := B1.below hb2
          clear hC VH VT c0 c1 hb2 B1 H1 HX1
          have c0 := cell_regrown (B2.cell (v := .int .i64 t) 0 rfl)
          have c1 := cell_regrown (B2.cell (v := .slice xa xn xc) 1 rfl)
          go_wp2
          refine wp_region_low2 (post2 26 (aOwned W2 H) 27 (aOwn W2 ⟨t, es⟩)) 5 (by kernel_rfl) (by kernel_rfl) ?_
          simp only [List.take, List.drop]
          iterate 1 (refine low2_step (fun K hK => ?_); go_simp; first | (refine hK _ ?_; clear hK K) | (apply Exists.intro; refine ⟨fun p => ?_, hK _ ?_⟩; clear hK K))
          refine low2_call 26 #[.slice a 0 c] (aOwned W2 H) (by rfl) (fun w => by go_simp; try rfl) (if_pos rfl) (fun V hV _ => ?_) ?_
          · refine (owned_any H _ _ _ V (H2.below hV)).mono ?_
            rintro e V' ⟨pa, pn, pc, ss, rfl, h3, h4⟩
            exact ⟨_, rfl, ⟨hV.size, pa, pn, pc, ss, rfl, h3.e⟩, h4⟩
          rintro v1 ⟨_, _, -, pa, pn, pc, ss', rfl, -⟩
          clear ss'
          iterate 1 (refine low2_step (fun K hK => ?_); go_simp; first | (refine hK _ ?_; clear hK K) | (apply Exists.intro; refine ⟨fun p => ?_, hK _ ?_⟩; clear hK K))
          refine low2_call 27 #[.agg #[.int .i64 t, .slice xa xn xc]] (aOwn W2 ⟨t, es⟩) (by rfl) (fun w => by go_simp; try rfl) ((if_neg (by decide)).trans (if_pos rfl)) (fun V hV _ => ?_) ?_
          · refine (own_any ⟨t, es⟩ xa xn xc V (HX2.below hV)).mono ?_
            rintro e V' ⟨ya, yn, yc, rfl, h3, h4⟩
            exact ⟨_, rfl, ⟨hV.size, ya, yn, yc, rfl, h3⟩, h4⟩
          rintro v3 ⟨_, _, -, ya, yn, yc, rfl, -⟩
          refine low2_slice 1 1 (.cells #[.int .i64 t, .slice ya yn yc] 27) (by rfl) (fun w => by go_simp; try rfl) ?_
          intro g8
          refine low2_nil ?_
          intro W3 hC
          have hb3 := hC.1
          obtain ⟨hb4, hs4⟩ := below_c (w := w) hb3 hb'
          obtain ⟨z8, B8⟩ : _ ∧ Bk W3 g8 #[.int .i64 t, .slice ya yn yc] 27 := hC.made 4 _ rfl
          obtain ⟨u1, u2, ⟨hu0, _, _, _, ss, he1, hE⟩, hu1, hu2⟩ := hC.made 1 _ rfl
          cases he1
          obtain ⟨v1, v2, ⟨hv0, _, _, _, he2, hF⟩, hv1, hv2⟩ := hC.made 3 _ rfl
          cases he2
          have hE3 := (hE.below hu2).mono hu0
          have hF3 := (hF.below hv2).mono hv0
          clear hE hF hu1 hu2 hv1 hv2 hC c0 c1 H2 HX2 hb3
          have hown := hE3.2.2.1
          rw [← HL.out] at hown
          have hsz := hb'.size
          have hW3 : W2.heap.size ≤ W3.heap.size := by have := B8.lt; omega
          have C1 : ∀ (j : Nat) u, [Value.int .i64 t, .slice ya yn yc][j]? = some u → W3.cell? ((⟨g8, 0, none⟩ : Addr).add j) = some u := by
            intro j u hj
            rw [Addr.add_lit, Nat.zero_add]
            match j, hj with
            | 0, hj => cases hj; exact B8.cell 0 rfl
            | 1, hj => cases hj; exact B8.cell 1 rfl
          have C2 : ∀ u ∈ [Value.int .i64 t, .slice ya yn yc], u.oneCell' = true := by
            intro u hu; simp at hu; rcases hu with rfl | rfl <;> rfl
          have C4 : 0 + 1 ≤ maxLen := by unfold maxLen; omega
          have C5 : (0 + 1) * 32 ≤ 140737488355328 := by omega
          go_wp2_with (at_builtin; refine wpList_append_mine _ rfl _ _ 23 rfl W2.heap.size 27 i0 (.agg #[.int .i64 0, .slice none 0 0]) 2 32 Tryd.underlying23 hi hz0 hz1 hz2 rfl (by decide) _ _ _ rfl hown ⟨g8, 0, none⟩ 1 1 [.int .i64 t, .slice ya yn yc] rfl rfl C1 C2 (by decide) C4 C5 hW3 ?_)
          intro gb cap' w1 hown' hgrow hgb
          change W3.grownBy w1 (Value.slice pa pn pc).ownBlock at hgrow
          have h40 : 0 ≤ 40 := by rw [HL.out]; exact (of_decide_eq_true HV.out.1).2
          have hE4 := hE3.app (v' := .slice (some ⟨gb, 0, none⟩) (0 + 1) cap') (W := ⟨t, es⟩) (s := .slice ya yn yc) hgrow (by rw [← HL.out]; exact hown') (by rw [← HL.out]; omega) hF3 (Nat.le_refl _)
          have hA := hE4.hist
          have hcap := hE4.cap
          have hbw : Below w.heap.size w w1 := hb4.grown hgrow hs4 (fun b hb' => Nat.le_trans hs' (hown.lt b hb').1)
          obtain ⟨k, hk⟩ : ∃ k, H.length + 1 - 40 = k := ⟨_, rfl⟩
          have hmx : max 0 ((0 : Int) + 1 - 40) = (k : Int) := by rw [← hk, ← HL.out]; omega
          have hkn : k ≤ 0 + 1 := by rw [← hk, ← HL.out]; omega
          have hkc : k < 0 + 1 := by rw [← hk, ← HL.out]; omega
          have HK := Lib.hid hk
          clear hown' hgrow hown hE3 hF3 hE4 C1 C2 C4 C5 B8 hgb hb4 hb' B2 h40 hk
          go_wp2_with (first | refine wpList_max2 _ rfl _ _ _ rfl _ _ _ rfl rfl ?_)
          all_goals (first
            | (exfalso; omega)
            | (go_wp2
               go_returns
               have this := HistAt.moved hA (k := k) (by rw [List.length_append, List.length_singleton, ← HL.out]; exact hkn)
               rw [Option.map_some, Addr.add_lit, Nat.zero_add] at this
               have e39 : 0 = 0 → (max 0 (-39 : Int)).toNat = k := fun h0 => by have := HK.out; rw [← HL.out] at this; omega
               exact ⟨⟨_, _, _, rfl, by unfold pushL; rw [HK.out]; first | exact this | (rw [e39 rfl]; exact this), by first | omega | (rw [e39 rfl]; omega)⟩, hbw⟩))
        · obtain ⟨y, hy⟩ := at_lt (l := H) (i := n - 1) (by rw [← HL.out]; omega)
          have e7 : ¬ t ≤ y.t := fun h2 => HB.out ⟨h0, by rw [← HL.out, map_at Wld.t hy]; exact h2⟩
          replace e7 : decide (t ≤ y.t) = false := decide_eq_false e7
          obtain ⟨b, off, rfl, q⟩ := same_at H1.out hy
          obtain ⟨q0, -⟩ := q
          obtain ⟨m, rfl⟩ : ∃ m, n = m + 1 := ⟨n - 1, by omega⟩
          rw [Nat.add_sub_cancel] at q0
          replace q0 := cell_regrown q0
          have e1 : IntKind.i64.wrap (m : Int) = (m : Int) := by rw [IntKind.wrap_i64]; omega
          have e2 : (m : Int) < m + 1 := by omega
          have e5 : (0 : Int) ≤ (m : Int) := by omega
          have e6 : (0 : Int) < (m : Int) + 1 := by omega
          clear hy h0
          refine wp_region_low 24 (by kernel_rfl) (by kernel_rfl) ?_
          simp only [List.take, List.drop]
          iterate 24 (refine low_step (fun K hK => ?_); go_simp; first | (refine hK _ ?_; clear hK K) | (apply Exists.intro; refine ⟨fun p => ?_, hK _ ?_⟩; (first | with_reducible exact VH _ _ | with_reducible exact VT _ _); clear hK K))
          refine low_nil ?_
          intro W2 hC
          have hb2 := hC.1
          obtain ⟨hb', hs'⟩ := below_c (w := w) hb2 hgg
          have H2 := H1.out.below hb2
          have HX2 := HX1.out.below hb2
          have B2 := B1.below hb2
          clear hC VH VT c0 c1 hb2 B1 H1 HX1
          have c0 := cell_regrown (B2.cell (v := .int .i64 t) 0 rfl)
          have c1 := cell_regrown (B2.cell (v := .slice xa xn xc) 1 rfl)
          go_wp2
          refine wp_region_low2 (post2 26 (aOwned W2 H) 27 (aOwn W2 ⟨t, es⟩)) 5 (by kernel_rfl) (by kernel_rfl) ?_
          simp only [List.take, List.drop]
          iterate 1 (refine low2_step (fun K hK => ?_); go_simp; first | (refine hK _ ?_; clear hK K) | (apply Exists.intro; refine ⟨fun p => ?_, hK _ ?_⟩; clear hK K))
          refine low2_call 26 #[.slice (some ⟨b, off, none⟩) (m + 1) c] (aOwned W2 H) (by rfl) (fun w => by go_simp; try rfl) (if_pos rfl) (fun V hV _ => ?_) ?_
          · refine (owned_any H _ _ _ V (H2.below hV)).mono ?_
            rintro e V' ⟨pa, pn, pc, ss, rfl, h3, h4⟩
            exact ⟨_, rfl, ⟨hV.size, pa, pn, pc, ss, rfl, h3.e⟩, h4⟩
          rintro v1 ⟨_, _, -, pa, pn, pc, ss', rfl, -⟩
          clear ss'
          iterate 1 (refine low2_step (fun K hK => ?_); go_simp; first | (refine hK _ ?_; clear hK K) | (apply Exists.intro; refine ⟨fun p => ?_, hK _ ?_⟩; clear hK K))
          refine low2_call 27 #[.agg #[.int .i64 t, .slice xa xn xc]] (aOwn W2 ⟨t, es⟩) (by rfl) (fun w => by go_simp; try rfl) ((if_neg (by decide)).trans (if_pos rfl)) (fun V hV _ => ?_) ?_
          · refine (own_any ⟨t, es⟩ xa xn xc V (HX2.below hV)).mono ?_
            rintro e V' ⟨ya, yn, yc, rfl, h3, h4⟩
            exact ⟨_, rfl, ⟨hV.size, ya, yn, yc, rfl, h3⟩, h4⟩
          rintro v3 ⟨_, _, -, ya, yn, yc, rfl, -⟩
          refine low2_slice 1 1 (.cells #[.int .i64 t, .slice ya yn yc] 27) (by rfl) (fun w => by go_simp; try rfl) ?_
          intro g8
          refine low2_nil ?_
          intro W3 hC
          have hb3 := hC.1
          obtain ⟨hb4, hs4⟩ := below_c (w := w) hb3 hb'
          obtain ⟨z8, B8⟩ : _ ∧ Bk W3 g8 #[.int .i64 t, .slice ya yn yc] 27 := hC.made 4 _ rfl
          obtain ⟨u1, u2, ⟨hu0, _, _, _, ss, he1, hE⟩, hu1, hu2⟩ := hC.made 1 _ rfl
          cases he1
          obtain ⟨v1, v2, ⟨hv0, _, _, _, he2, hF⟩, hv1, hv2⟩ := hC.made 3 _ rfl
          cases he2
          have hE3 := (hE.below hu2).mono hu0
          have hF3 := (hF.below hv2).mono hv0
          clear hE hF hu1 hu2 hv1 hv2 hC c0 c1 H2 HX2 hb3
          have hown := hE3.2.2.1
          rw [← HL.out] at hown
          have hsz := hb'.size
          have hW3 : W2.heap.size ≤ W3.heap.size := by have := B8.lt; omega
          have C1 : ∀ (j : Nat) u, [Value.int .i64 t, .slice ya yn yc][j]? = some u → W3.cell? ((⟨g8, 0, none⟩ : Addr).add j) = some u := by
            intro j u hj
            rw [Addr.add_lit, Nat.zero_add]
            match j, hj with
            | 0, hj => cases hj; exact B8.cell 0 rfl
            | 1, hj => cases hj; exact B8.cell 1 rfl
          have C2 : ∀ u ∈ [Value.int .i64 t, .slice ya yn yc], u.oneCell' = true := by
            intro u hu; simp at hu; rcases hu with rfl | rfl <;> rfl
          have C4 : (m + 1) + 1 ≤ maxLen := by unfold maxLen; omega
          have C5 : ((m + 1) + 1) * 32 ≤ 140737488355328 := by omega
          go_wp2_with (at_builtin; refine wpList_append_mine _ rfl _ _ 23 rfl W2.heap.size 27 i0 (.agg #[.int .i64 0, .slice none 0 0]) 2 32 Tryd.underlying23 hi hz0 hz1 hz2 rfl (by decide) _ _ _ rfl hown ⟨g8, 0, none⟩ 1 1 [.int .i64 t, .slice ya yn yc] rfl rfl C1 C2 (by decide) C4 C5 hW3 ?_)
          intro gb cap' w1 hown' hgrow hgb
          change W3.grownBy w1 (Value.slice pa pn pc).ownBlock at hgrow
          have h40 : (m + 1) ≤ 40 := by rw [HL.out]; exact (of_decide_eq_true HV.out.1).2
          have hE4 := hE3.app (v' := .slice (some ⟨gb, 0, none⟩) ((m + 1) + 1) cap') (W := ⟨t, es⟩) (s := .slice ya yn yc) hgrow (by rw [← HL.out]; exact hown') (by rw [← HL.out]; omega) hF3 (Nat.le_refl _)
          have hA := hE4.hist
          have hcap := hE4.cap
          have hbw : Below w.heap.size w w1 := hb4.grown hgrow hs4 (fun b hb' => Nat.le_trans hs' (hown.lt b hb').1)
          obtain ⟨k, hk⟩ : ∃ k, H.length + 1 - 40 = k := ⟨_, rfl⟩
          have hmx : max 0 (((m + 1) : Int) + 1 - 40) = (k : Int) := by rw [← hk, ← HL.out]; omega
          have hkn : k ≤ (m + 1) + 1 := by rw [← hk, ← HL.out]; omega
          have hkc : k < (m + 1) + 1 := by rw [← hk, ← HL.out]; omega
          have HK := Lib.hid hk
          clear hown' hgrow hown hE3 hF3 hE4 C1 C2 C4 C5 B8 hgb hb4 hb' B2 h40 hk
          go_wp2_with (first | refine wpList_max2 _ rfl _ _ _ rfl _ _ _ rfl rfl ?_)
          all_goals (first
            | (exfalso; omega)
            | (go_wp2
               go_returns
               have this := HistAt.moved hA (k := k) (by rw [List.length_append, List.length_singleton, ← HL.out]; exact hkn)
               rw [Option.map_some, Addr.add_lit, Nat.zero_add] at this
               have e39 : (m + 1) = 0 → (max 0 (-39 : Int)).toNat = k := fun h0 => by have := HK.out; rw [← HL.out] at this; omega
               exact ⟨⟨_, _, _, rfl, by unfold pushL; rw [HK.out]; first | exact this | (rw [e39 rfl]; exact this), by first | omega | (rw [e39 rfl]; omega)⟩, hbw⟩))
end Go.Proofs.YtjjodmkblpdnhaaDoor
