/- interp.Shown. -/
import Derived.Test.YtjjodmkblpdnhaaDoorInterp5
import Derived.Test.YtjjodmkblpdnhaaDoorInterp8
set_option linter.unusedVariables false
set_option linter.unusedSimpArgs false
namespace Go.Proofs.YtjjodmkblpdnhaaDoor
open Go Go.RowKit Go.Sort
set_option maxRecDepth 100000
attribute [local go_sem] opLow opUpon opLow2 opUpon2

theorem between_ok (A B : Wld) (n d : Int) (a b : Option Addr) (an ac bn bc : Nat) (w : World) (hR : RG w) (hA : EntsAt w (.slice a an ac) A.es) (hBs : EntsAt w (.slice b bn bc) B.es) (hok : okB A B n d) :
    Calls Tryd.prog 17 #[Wv A.t a an ac, Wv B.t b bn bc, .int .i64 n, .int .i64 d] w fun e w' => ∃ a' n' c', e = .returned (.tuple #[Wv (betw A B n d).t a' n' c', .int .i64 0]) ∧ Fresh w.heap.size w' (.slice a' n' c') (betw A B n d).es ∧ Below w.heap.size w w' := by
  by_cases h : n = d
  · have e : betw A B n d = B := by unfold betw; rw [if_pos h]
    rw [e]
    exact between_end A B n d a b an ac bn bc w hR hA hBs hok h
  · exact between_mid A B n d a b an ac bn bc w hR hA hBs hok h
def okS (H : List Wld) (tick part : Int) : Prop := ValidH H ∧ (0 ≤ tick ∧ tick ≤ 1073741824) ∧ (0 ≤ part ∧ part < 16)
instance decOkS (H : List Wld) (tick part : Int) : Decidable (okS H tick part) := by unfold okS; infer_instance
/-- what Shown shows -/
def shownM (H : List Wld) (tick part : Int) : Except Int Wld :=
  if okS H tick part then
    match hitOf (fun (x : Wld) => 16 * x.t - (16 * tick + part)) H with
    | some x => .ok x
    | none => match lowerOf (fun (x : Wld) => 16 * x.t - (16 * tick + part)) H with
      | 0 => .error 6
      | j + 1 => match H[j]?, H[j + 1]? with
        | some x, some y => .ok (betw x y (16 * tick + part - 16 * x.t) (16 * y.t - 16 * x.t))
        | _, _ => .error 6
  else .error 2
/-- what Shown returns, in a call that began in w -/
def ShownPost (w : World) (r : Except Int Wld) (e : Ending) (w' : World) : Prop := (match r with
  | .error k => e = .returned (.tuple #[Wv 0 none 0 0, .int .i64 k])
  | .ok S => ∃ a n c, e = .returned (.tuple #[Wv S.t a n c, .int .i64 0]) ∧ Fresh w.heap.size w' (.slice a n c) S.es) ∧ Below w.heap.size w w'
theorem mono16 {H : List Wld} (h : Rises (H.map Wld.t)) (k : Int) : Mono (fun (x : Wld) => 16 * x.t - k) H := fun a b x y hab hx hy hf => by
  have hb := (List.getElem?_eq_some_iff.1 hy).1
  have h1 := rises_le h b a hab (by simpa using hb)
  rw [map_at Wld.t hx, map_at Wld.t hy] at h1
  simp only at hf ⊢
  omega
theorem lower_le {α : Type} (f : α → Int) (l : List α) : lowerOf f l ≤ l.length := List.findIdx_le_length
theorem lower_lt {α : Type} {f : α → Int} {l : List α} {j : Nat} {x : α} (h : j < lowerOf f l) (hx : l[j]? = some x) : f x < 0 := by
  unfold lowerOf at h
  have := List.not_of_lt_findIdx h
  obtain ⟨hj, rfl⟩ := List.getElem?_eq_some_iff.1 hx
  simpa using this
theorem lower_ge {α : Type} {f : α → Int} {l : List α} {x : α} (hx : l[lowerOf f l]? = some x) : 0 ≤ f x := by
  obtain ⟨hj, rfl⟩ := List.getElem?_eq_some_iff.1 hx
  unfold lowerOf at hj ⊢
  simpa using List.findIdx_getElem (w := hj)
theorem hit_no {α : Type} {f : α → Int} {l : List α} {x : α} (h : hitOf f l = none) (hx : l[lowerOf f l]? = some x) : f x ≠ 0 := by
  unfold hitOf at h
  rw [hx] at h
  intro e
  simp [Option.filter, e] at h
def aBetw (w0 : World) (S : Wld) : Array Value → Value → World → World → Prop := fun _ v w1 w2 => w0.heap.size ≤ w1.heap.size ∧ ∃ a n c, v = .tuple #[Wv S.t a n c, .int .i64 0] ∧ Fresh w1.heap.size w2 (.slice a n c) S.es
set_option maxHeartbeats 8000000 in
theorem shown_bad (H : List Wld) (tick part : Int) (a : Option Addr) (n c : Nat) (w : World) (hR : RG w) (h : HistAt w (.slice a n c) H) (hno : ¬ okS H tick part) :
    Calls Tryd.prog 11 #[.slice a n c, .int .i64 tick, .int .i64 part] w (ShownPost w (shownM H tick part)) := by
  have HN := Lib.hid hno
  have HS := Lib.hid (show shownM H tick part = .error 2 by unfold shownM; rw [if_neg hno])
  clear hno
  obtain ⟨v, hv⟩ : ∃ v, decide (ValidH H) = v := ⟨_, rfl⟩
  have HV := Lib.hid hv
  clear hv
  go_enter Tryd.func11, Tryd.ntmps11
  go_wp2_with fail
  refine Calls.mono (validH_any H a n c _ (h.below (by go_grown)) (hR.below (by go_grown))) ?_
  rw [HV.out]
  rintro e W1 ⟨rfl, hb1⟩
  have BR : Bk W1 w.heap.size #[.int .i64 0, .slice none 0 0] 27 := Bk.below (Bk.at_ rfl) hb1
  obtain ⟨hgg, hs1⟩ := below_c (w := w) hb1 (by go_grown)
  clear hb1
  have r0 := BR.cell (v := .int .i64 0) 0 rfl
  have r1 := BR.cell (v := .slice none 0 0) 1 rfl
  have f0 := BR.free 0
  have f1 := BR.free 1
  cases v
  · go_wp2
    refine post_name (fun V => Bk V w.heap.size #[.int .i64 0, .slice none 0 0] 27 ∧ Below w.heap.size w V) ⟨(BR.put 0 _).put 1 _, by go_grown⟩ ?_
    rintro V ⟨BV, hbV⟩
    clear r0 r1 f0 f1
    have y0 := BV.cell (v := .int .i64 0) 0 rfl
    have y1 := BV.cell (v := .slice none 0 0) 1 rfl
    exact bodyPost_ret (v := .tuple #[Wv 0 none 0 0, .int .i64 2]) (by simp [results, Tryd.results11, go_sem, y0, y1]; try rfl) rfl ⟨by rw [HS.out], hbV⟩
  · by_cases h1 : 0 ≤ tick
    · by_cases h2 : tick ≤ 1073741824
      · by_cases h3 : 0 ≤ part
        · have h4 : ¬ part < 16 := fun h4 => HN.out ⟨of_decide_eq_true HV.out, ⟨h1, h2⟩, h3, h4⟩
          go_wp2
          refine post_name (fun V => Bk V w.heap.size #[.int .i64 0, .slice none 0 0] 27 ∧ Below w.heap.size w V) ⟨(BR.put 0 _).put 1 _, by go_grown⟩ ?_
          rintro V ⟨BV, hbV⟩
          clear r0 r1 f0 f1
          have y0 := BV.cell (v := .int .i64 0) 0 rfl
          have y1 := BV.cell (v := .slice none 0 0) 1 rfl
          exact bodyPost_ret (v := .tuple #[Wv 0 none 0 0, .int .i64 2]) (by simp [results, Tryd.results11, go_sem, y0, y1]; try rfl) rfl ⟨by rw [HS.out], hbV⟩
        · go_wp2
          refine post_name (fun V => Bk V w.heap.size #[.int .i64 0, .slice none 0 0] 27 ∧ Below w.heap.size w V) ⟨(BR.put 0 _).put 1 _, by go_grown⟩ ?_
          rintro V ⟨BV, hbV⟩
          clear r0 r1 f0 f1
          have y0 := BV.cell (v := .int .i64 0) 0 rfl
          have y1 := BV.cell (v := .slice none 0 0) 1 rfl
          exact bodyPost_ret (v := .tuple #[Wv 0 none 0 0, .int .i64 2]) (by simp [results, Tryd.results11, go_sem, y0, y1]; try rfl) rfl ⟨by rw [HS.out], hbV⟩
      · go_wp2
        refine post_name (fun V => Bk V w.heap.size #[.int .i64 0, .slice none 0 0] 27 ∧ Below w.heap.size w V) ⟨(BR.put 0 _).put 1 _, by go_grown⟩ ?_
        rintro V ⟨BV, hbV⟩
        clear r0 r1 f0 f1
        have y0 := BV.cell (v := .int .i64 0) 0 rfl
        have y1 := BV.cell (v := .slice none 0 0) 1 rfl
        exact bodyPost_ret (v := .tuple #[Wv 0 none 0 0, .int .i64 2]) (by simp [results, Tryd.results11, go_sem, y0, y1]; try rfl) rfl ⟨by rw [HS.out], hbV⟩
    · go_wp2
      refine post_name (fun V => Bk V w.heap.size #[.int .i64 0, .slice none 0 0] 27 ∧ Below w.heap.size w V) ⟨(BR.put 0 _).put 1 _, by go_grown⟩ ?_
      rintro V ⟨BV, hbV⟩
      clear r0 r1 f0 f1
      have y0 := BV.cell (v := .int .i64 0) 0 rfl
      have y1 := BV.cell (v := .slice none 0 0) 1 rfl
      exact bodyPost_ret (v := .tuple #[Wv 0 none 0 0, .int .i64 2]) (by simp [results, Tryd.results11, go_sem, y0, y1]; try rfl) rfl ⟨by rw [HS.out], hbV⟩
set_option maxHeartbeats 8000000 in
theorem shown_good (H : List Wld) (tick part : Int) (a : Option Addr) (n c : Nat) (w : World) (hR : RG w) (h : HistAt w (.slice a n c) H) (hok : okS H tick part) :
    Calls Tryd.prog 11 #[.slice a n c, .int .i64 tick, .int .i64 part] w (ShownPost w (shownM H tick part)) := by
  have HS := Lib.hid (show shownM H tick part = _ from by unfold shownM; rw [if_pos hok])
  obtain ⟨hval, ⟨t1, t2⟩, p1, p2⟩ := hok
  have HV := Lib.hid (show decide (ValidH H) = true from decide_eq_true hval)
  obtain ⟨tm, htm⟩ : ∃ z, 16 * tick + part = z := ⟨_, rfl⟩
  have q1 : decide (tick < 0) = false := by simpa using t1
  have q2 : decide (1073741824 < tick) = false := by simpa using t2
  have q3 : decide (part < 0) = false := by simpa using p1
  have q4 : decide (16 ≤ part) = false := by simpa using p2
  have e1 : IntKind.i64.wrap (16 * tick) = 16 * tick := by rw [IntKind.wrap_i64]; omega
  have e2 : IntKind.i64.wrap (16 * tick + part) = tm := by rw [IntKind.wrap_i64]; omega
  have htm2 : 0 ≤ tm ∧ tm ≤ 34359738368 := by omega
  clear t1 t2 p1 p2
  rw [htm] at HS
  obtain ⟨i, hi⟩ : ∃ i, lowerOf (fun (x : Wld) => 16 * x.t - tm) H = i := ⟨_, rfl⟩
  obtain ⟨r, hr⟩ : ∃ r, hitOf (fun (x : Wld) => 16 * x.t - tm) H = r := ⟨_, rfl⟩
  have HI := Lib.hid (And.intro hi hr)
  have HSO := Lib.hid (same_off h).1
  have hn2 := (same_off h).2
  rw [hi, hr] at HS
  clear hval htm
  go_enter Tryd.func11, Tryd.ntmps11
  go_wp2_with fail
  refine Calls.mono (validH_any H a n c _ (h.below (by go_grown)) (hR.below (by go_grown))) ?_
  rw [HV.out]
  rintro e W1 ⟨rfl, hb1⟩
  have BR : Bk W1 w.heap.size #[.int .i64 0, .slice none 0 0] 27 := Bk.below (Bk.at_ rfl) hb1
  obtain ⟨hgg, hs1⟩ := below_c (w := w) hb1 (by go_grown)
  clear hb1
  have r0 := BR.cell (v := .int .i64 0) 0 rfl
  have r1 := BR.cell (v := .slice none 0 0) 1 rfl
  have f0 := BR.free 0
  have f1 := BR.free 1
  go_wp2_with fail
  refine Calls.mono (bsearchWorld_any H (.slice a n c) tm _ (h.below hgg) (mono16 (of_decide_eq_true HV.out).1.2 tm) (fun x hx => ((of_decide_eq_true HV.out).1.1 x hx).1) htm2) ?_
  rw [hi, hr]
  clear hi hr
  rintro e W2 ⟨rfl, hb2⟩
  replace BR := BR.below hb2
  obtain ⟨hgg, hs2⟩ := below_c (w := w) hb2 hgg
  clear r0 r1 f0 f1 hb2
  have r0 := BR.cell (v := .int .i64 0) 0 rfl
  have r1 := BR.cell (v := .slice none 0 0) 1 rfl
  have f0 := BR.free 0
  have f1 := BR.free 1
  cases r with
  | some x =>
    replace HS := Lib.hid (HS.out.trans rfl : shownM H tick part = .ok x)
    have hx := (hit_some HI.out.2).1
    rw [HI.out.1] at hx
    have hin : i < n := by have := (List.getElem?_eq_some_iff.1 hx).1; have := HSO.out; omega
    obtain ⟨b, off, rfl, p0, xa, xn, xc, p1, ph⟩ := same_at h hx
    replace p0 := cell_later hgg p0
    replace p1 := cell_later hgg p1
    replace ph := ph.below hgg
    clear hx
    go_wp2_with fail
    refine Calls.mono (own_any x xa xn xc _ ph) ?_
    rintro e W3 ⟨o, on, oc, rfl, hF, hb3⟩
    replace hF : Fresh w.heap.size W3 (.slice o on oc) x.es := hF.mono hgg.size
    replace BR := BR.below hb3
    obtain ⟨hgg, hs3⟩ := below_c (w := w) hb3 hgg
    clear r0 r1 f0 f1 hb3 p0 p1
    have r0 := BR.cell (v := .int .i64 0) 0 rfl
    have r1 := BR.cell (v := .slice none 0 0) 1 rfl
    have f0 := BR.free 0
    have f1 := BR.free 1
    go_wp2
    refine post_name (fun V => Bk V w.heap.size #[.int .i64 x.t, .slice o on oc] 27 ∧ Fresh w.heap.size V (.slice o on oc) x.es ∧ Below w.heap.size w V) ⟨(BR.put 0 _).put 1 _, (hF.set (p := ⟨w.heap.size, 0, none⟩) BR (by decide) (by decide) _).set (p := ⟨w.heap.size, 1, none⟩) (BR.put 0 _) (by decide) (by decide) _, by go_grown⟩ ?_
    rintro V ⟨BV, hFV, hbV⟩
    clear r0 r1 f0 f1
    have y0 := BV.cell (v := .int .i64 x.t) 0 rfl
    have y1 := BV.cell (v := .slice o on oc) 1 rfl
    exact bodyPost_ret (v := .tuple #[Wv x.t o on oc, .int .i64 0]) (by simp [results, Tryd.results11, go_sem, y0, y1]; try rfl) rfl ⟨by rw [HS.out]; exact ⟨o, on, oc, rfl, hFV⟩, hbV⟩
  | none =>
    rcases i with _ | j
    · replace HS := Lib.hid (HS.out.trans rfl : shownM H tick part = .error 6)
      go_wp2
      refine post_name (fun V => Bk V w.heap.size #[.int .i64 0, .slice none 0 0] 27 ∧ Below w.heap.size w V) ⟨(BR.put 0 _).put 1 _, by go_grown⟩ ?_
      rintro V ⟨BV, hbV⟩
      clear r0 r1 f0 f1
      have y0 := BV.cell (v := .int .i64 0) 0 rfl
      have y1 := BV.cell (v := .slice none 0 0) 1 rfl
      exact bodyPost_ret (v := .tuple #[Wv 0 none 0 0, .int .i64 6]) (by simp [results, Tryd.results11, go_sem, y0, y1]; try rfl) rfl ⟨by rw [HS.out], hbV⟩
    · by_cases hjn : j + 1 < n
      · have hl := HSO.out
        obtain ⟨x, hx⟩ := at_lt (l := H) (i := j) (by omega)
        obtain ⟨y, hy⟩ := at_lt (l := H) (i := j + 1) (by omega)
        have hlt1 : 16 * x.t - tm < 0 := lower_lt (f := fun (x : Wld) => 16 * x.t - tm) (by rw [HI.out.1]; omega) hx
        have hge1 : 0 ≤ 16 * y.t - tm := lower_ge (f := fun (x : Wld) => 16 * x.t - tm) (l := H) (by rw [HI.out.1]; exact hy)
        have hvx := (of_decide_eq_true HV.out).1.1 x (List.mem_iff_getElem?.2 ⟨_, hx⟩)
        have hvy := (of_decide_eq_true HV.out).1.1 y (List.mem_iff_getElem?.2 ⟨_, hy⟩)
        have bx := hvx.1
        have by' := hvy.1
        have hok2 : okB x y (tm - 16 * x.t) (16 * y.t - 16 * x.t) := ⟨hvx, hvy, by omega, ⟨by omega, by omega⟩, by omega, by omega⟩
        replace HS := Lib.hid (HS.out.trans (by simp only [hx, hy]) : shownM H tick part = .ok (betw x y (tm - 16 * x.t) (16 * y.t - 16 * x.t)))
        obtain ⟨b, off, rfl, x0, xa, xn, xc, x1, xh⟩ := same_at h hx
        obtain ⟨b', off', he, y0, ya, yn, yc, y1, yh⟩ := same_at h hy
        cases he
        obtain ⟨S, hS⟩ : ∃ S, betw x y (tm - 16 * x.t) (16 * y.t - 16 * x.t) = S := ⟨_, rfl⟩
        rw [hS] at HS
        have HB := Lib.hid (And.intro hS hok2)
        replace x0 := cell_later hgg x0
        replace x1 := cell_later hgg x1
        replace y0 := cell_later hgg y0
        replace y1 := cell_later hgg y1
        replace xh := xh.below hgg
        replace yh := yh.below hgg
        have q9 : ((j : Int) + 1 == (n : Int)) = false := by simp; omega
        have q8 : ((j : Int) + 1 == 0) = false := by simp; omega
        have w1 : IntKind.i64.wrap (16 * x.t) = 16 * x.t := by rw [IntKind.wrap_i64]; omega
        have w2 : IntKind.i64.wrap (16 * y.t) = 16 * y.t := by rw [IntKind.wrap_i64]; omega
        have w3 : IntKind.i64.wrap (tm - 16 * x.t) = tm - 16 * x.t := by rw [IntKind.wrap_i64]; omega
        have w4 : IntKind.i64.wrap (16 * y.t - 16 * x.t) = 16 * y.t - 16 * x.t := by rw [IntKind.wrap_i64]; omega
        have w5 : IntKind.i64.wrap (j : Int) = (j : Int) := by rw [IntKind.wrap_i64]; omega
        clear hS hx hy hok2 hvx hvy hlt1 hge1 bx by' hl
        go_wp2
        replace x0 := cell_regrown x0
        replace x1 := cell_regrown x1
        replace y0 := cell_regrown y0
        replace y1 := cell_regrown y1
        have i1 : (j : Int) < n := by omega
        have i2 : (j : Int) + 1 < n := by omega
        have i3 : (0 : Int) ≤ (j : Int) := by omega
        have i4 : (0 : Int) ≤ (j : Int) + 1 := by omega
        have i5 : ((j : Int) + 1).toNat = j + 1 := by omega
        clear r0 r1 f0 f1
        refine wp_region_low2 (post1 17 (aBetw W2 S)) 23 (by kernel_rfl) (by kernel_rfl) ?_
        simp only [List.take, List.drop]
        iterate 20 (refine low2_step (fun K hK => ?_); go_simp; first | (refine hK _ ?_; clear hK K) | (apply Exists.intro; refine ⟨fun p => ?_, hK _ ?_⟩; clear hK K))
        refine low2_call 17 #[Wv x.t xa xn xc, Wv y.t ya yn yc, .int .i64 (tm - 16 * x.t), .int .i64 (16 * y.t - 16 * x.t)] (aBetw W2 S) (by rfl) (fun w => by go_simp; try rfl) (post1_same _ _) (fun V hV _ => ?_) ?_
        · refine (between_ok x y (tm - 16 * x.t) (16 * y.t - 16 * x.t) xa ya xn xc yn yc V ((hR.below hgg).below hV) (xh.below hV) (yh.below hV) HB.out.2).mono ?_
          rintro e V' ⟨o, on, oc, rfl, h1, h2⟩
          rw [HB.out.1] at h1 ⊢
          exact ⟨_, rfl, ⟨hV.size, o, on, oc, rfl, h1⟩, h2⟩
        rintro v6 ⟨_, _, -, o, on, oc, rfl, -⟩
        iterate 2 (refine low2_step (fun K hK => ?_); go_simp; first | (refine hK _ ?_; clear hK K) | (apply Exists.intro; refine ⟨fun p => ?_, hK _ ?_⟩; clear hK K))
        refine low2_nil ?_
        intro W3 hC
        have hb3 := hC.1
        obtain ⟨u1, u2, hA, hu1, hu2⟩ := hC.made 20 _ rfl
        obtain ⟨hsz, o', on', oc', he, hFr⟩ := hA
        injection he with he
        simp only [Wv, Array.mk.injEq, List.cons.injEq, Value.agg.injEq, Value.slice.injEq, true_and, and_true] at he
        obtain ⟨rfl, rfl, rfl⟩ := he
        have hF : Fresh w.heap.size W3 (.slice o on oc) S.es := ((hFr.below hu2).mono hsz).mono hgg.size
        replace BR := BR.below hb3
        obtain ⟨hgg, hs3⟩ := below_c (w := w) hb3 hgg
        clear hC hb3 hu1 hu2 hFr hsz x0 x1 y0 y1
        have r0 := BR.cell (v := .int .i64 0) 0 rfl
        have r1 := BR.cell (v := .slice none 0 0) 1 rfl
        have f0 := BR.free 0
        have f1 := BR.free 1
        go_wp2
        refine post_name (fun V => Bk V w.heap.size #[.int .i64 S.t, .slice o on oc] 27 ∧ Fresh w.heap.size V (.slice o on oc) S.es ∧ Below w.heap.size w V) ⟨(BR.put 0 _).put 1 _, (hF.set (p := ⟨w.heap.size, 0, none⟩) BR (by decide) (by decide) _).set (p := ⟨w.heap.size, 1, none⟩) (BR.put 0 _) (by decide) (by decide) _, by go_grown⟩ ?_
        rintro V ⟨BV, hFV, hbV⟩
        clear r0 r1 f0 f1
        have y0 := BV.cell (v := .int .i64 S.t) 0 rfl
        have y1 := BV.cell (v := .slice o on oc) 1 rfl
        exact bodyPost_ret (v := .tuple #[Wv S.t o on oc, .int .i64 0]) (by simp [results, Tryd.results11, go_sem, y0, y1]; try rfl) rfl ⟨by rw [HS.out]; exact ⟨o, on, oc, rfl, hFV⟩, hbV⟩
      · have hjn2 : j + 1 = n := by have := lower_le (fun (x : Wld) => 16 * x.t - tm) H; rw [HI.out.1] at this; have := HSO.out; omega
        have hno : H[j + 1]? = none := List.getElem?_eq_none (by have := HSO.out; omega)
        replace HS := Lib.hid (HS.out.trans (by simp only [hno]; cases H[j]? <;> rfl) : shownM H tick part = .error 6)
        subst hjn2
        go_wp2
        refine post_name (fun V => Bk V w.heap.size #[.int .i64 0, .slice none 0 0] 27 ∧ Below w.heap.size w V) ⟨(BR.put 0 _).put 1 _, by go_grown⟩ ?_
        rintro V ⟨BV, hbV⟩
        clear r0 r1 f0 f1
        have y0 := BV.cell (v := .int .i64 0) 0 rfl
        have y1 := BV.cell (v := .slice none 0 0) 1 rfl
        exact bodyPost_ret (v := .tuple #[Wv 0 none 0 0, .int .i64 6]) (by simp [results, Tryd.results11, go_sem, y0, y1]; try rfl) rfl ⟨by rw [HS.out], hbV⟩
end Go.Proofs.YtjjodmkblpdnhaaDoor
