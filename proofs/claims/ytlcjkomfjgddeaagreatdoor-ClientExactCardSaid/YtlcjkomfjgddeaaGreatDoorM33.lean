/- client.Predict, where it does not predict; its contract. -/
import Derived.Test.YtlcjkomfjgddeaaGreatDoorM32
set_option linter.unusedVariables false
set_option linter.unusedSimpArgs false
namespace Go.Proofs.YtlcjkomfjgddeaaGreatDoor
open Go Go.RowKit Go.Sort
set_option maxRecDepth 100000
attribute [local go_sem] opLow opUpon opLow2 opUpon2

set_option maxHeartbeats 4000000 in
theorem pred_bad1 (W : Wld) (a : Option Addr) (n c : Nat) (id gx gy : Int) (x : Inp) (w : World) (hR : RG w) (h : EntsAt w (.slice a n c) W.es) (hv : ¬ Valid W) :
    Calls Tryz.prog 14 #[Wv W.t a n c, .int .i64 id, V2 gx gy, Iv x] w fun e w' => e = .returned (.tuple #[Wv 0 none 0 0, .int .i64 2]) ∧ Below w.heap.size w w' := by
  have VV := Lib.hid (fun V hV => by have := valid_any W a n c V (hR.below hV) (EntsAt.below h hV); rw [decide_eq_false hv] at this; exact this)
  obtain ⟨t, es⟩ := W
  obtain ⟨xc, xs, xt, xmx, xmy, xfire, xax, xay, xseen, xpart⟩ := x
  simp only at h hv VV ⊢
  clear hR h hv
  unfold Wv V2 Iv
  simp only
  go_enter Tryz.func14, Tryz.ntmps14
  have hI0 : PI w t a n c gx gy #[.int .i64 xc, .int .i64 xs, .int .i64 xt, .int .i64 xmx, .int .i64 xmy, .bool xfire, .int .i64 xax, .int .i64 xay, .int .i64 xseen, .int .i64 xpart] ((((w.alloc (.cells #[.int .i64 t, .slice a n c] 26)).alloc (.cells #[.int .i64 gx, .int .i64 gy] 23)).alloc (.cells #[.int .i64 xc, .int .i64 xs, .int .i64 xt, .int .i64 xmx, .int .i64 xmy, .bool xfire, .int .i64 xax, .int .i64 xay, .int .i64 xseen, .int .i64 xpart] 37)).alloc (.cells #[.int .i64 0, .slice none 0 0] 26)) := ⟨(((Bk.made _ _ _).alloc _).alloc _).alloc _, ((Bk.at_ (by simp)).alloc _).alloc _, (Bk.at_ (by simp)).alloc _, Bk.at_ (by simp), by go_grown⟩
  have HI := Lib.hid hI0
  clear hI0
  go_wp2_with fail
  refine (VV.out _ HI.out.bel).mono ?_
  rintro e V1 ⟨rfl, hb1⟩
  replace HI := Lib.hid (HI.out.below hb1)
  clear hb1
  have B8 := HI.out.b8
  have hb := HI.out.bel
  have q0 := B8.cell (v := .int .i64 0) 0 rfl
  have q1 := B8.cell (v := .slice none 0 0) 1 rfl
  have f0 := B8.free 0
  have f1 := B8.free 1
  have lt := B8.lt
  have HX := Lib.hid (And.intro ((B8.put 0 (.int .i64 0)).put 1 (.slice none 0 0)) ((hb.setCell (p := ⟨w.heap.size + 1 + 1 + 1, 0, none⟩) (by show w.heap.size ≤ w.heap.size + 1 + 1 + 1; omega) (.int .i64 0)).setCell (p := ⟨w.heap.size + 1 + 1 + 1, 1, none⟩) (by show w.heap.size ≤ w.heap.size + 1 + 1 + 1; omega) (.slice none 0 0)))
  clear hb B8 HI
  go_wp2
  refine post_name (fun V => Bk V (w.heap.size + 1 + 1 + 1) #[.int .i64 0, .slice none 0 0] 26 ∧ Below w.heap.size w V) HX.out ?_
  clear HX q0 q1 f0 f1 lt
  rintro V4' ⟨BV, hbV⟩
  have y0 := BV.cell (v := .int .i64 0) 0 rfl
  have y1 := BV.cell (v := .slice none 0 0) 1 rfl
  exact bodyPost_ret (v := .tuple #[Wv 0 none 0 0, .int .i64 2]) (by simp [results, Tryz.results14, go_sem, y0, y1]; try rfl) rfl ⟨rfl, hbV⟩
set_option maxHeartbeats 4000000 in
theorem pred_bad2 (W : Wld) (a : Option Addr) (n c : Nat) (id gx gy : Int) (x : Inp) (w : World) (hR : RG w) (h : EntsAt w (.slice a n c) W.es) (hv : Valid W) (hnu : numB id = false) :
    Calls Tryz.prog 14 #[Wv W.t a n c, .int .i64 id, V2 gx gy, Iv x] w fun e w' => e = .returned (.tuple #[Wv 0 none 0 0, .int .i64 2]) ∧ Below w.heap.size w w' := by
  have VV := Lib.hid (fun V hV => by have := valid_any W a n c V (hR.below hV) (EntsAt.below h hV); rw [decide_eq_true hv] at this; exact this)
  have NN := Lib.hid (fun V => by have := number_any id V; rw [hnu] at this; exact this)
  obtain ⟨t, es⟩ := W
  obtain ⟨xc, xs, xt, xmx, xmy, xfire, xax, xay, xseen, xpart⟩ := x
  simp only at h hv VV ⊢
  clear hR h hv hnu
  unfold Wv V2 Iv
  simp only
  go_enter Tryz.func14, Tryz.ntmps14
  have hI0 : PI w t a n c gx gy #[.int .i64 xc, .int .i64 xs, .int .i64 xt, .int .i64 xmx, .int .i64 xmy, .bool xfire, .int .i64 xax, .int .i64 xay, .int .i64 xseen, .int .i64 xpart] ((((w.alloc (.cells #[.int .i64 t, .slice a n c] 26)).alloc (.cells #[.int .i64 gx, .int .i64 gy] 23)).alloc (.cells #[.int .i64 xc, .int .i64 xs, .int .i64 xt, .int .i64 xmx, .int .i64 xmy, .bool xfire, .int .i64 xax, .int .i64 xay, .int .i64 xseen, .int .i64 xpart] 37)).alloc (.cells #[.int .i64 0, .slice none 0 0] 26)) := ⟨(((Bk.made _ _ _).alloc _).alloc _).alloc _, ((Bk.at_ (by simp)).alloc _).alloc _, (Bk.at_ (by simp)).alloc _, Bk.at_ (by simp), by go_grown⟩
  have HI := Lib.hid hI0
  clear hI0
  go_wp2_with fail
  refine (VV.out _ HI.out.bel).mono ?_
  rintro e V1 ⟨rfl, hb1⟩
  replace HI := Lib.hid (HI.out.below hb1)
  clear hb1
  go_wp2_with fail
  refine (NN.out _).mono ?_
  rintro e V1a ⟨rfl, hb1⟩
  replace HI := Lib.hid (HI.out.below hb1)
  clear hb1
  have B8 := HI.out.b8
  have hb := HI.out.bel
  have q0 := B8.cell (v := .int .i64 0) 0 rfl
  have q1 := B8.cell (v := .slice none 0 0) 1 rfl
  have f0 := B8.free 0
  have f1 := B8.free 1
  have lt := B8.lt
  have HX := Lib.hid (And.intro ((B8.put 0 (.int .i64 0)).put 1 (.slice none 0 0)) ((hb.setCell (p := ⟨w.heap.size + 1 + 1 + 1, 0, none⟩) (by show w.heap.size ≤ w.heap.size + 1 + 1 + 1; omega) (.int .i64 0)).setCell (p := ⟨w.heap.size + 1 + 1 + 1, 1, none⟩) (by show w.heap.size ≤ w.heap.size + 1 + 1 + 1; omega) (.slice none 0 0)))
  clear hb B8 HI
  go_wp2
  refine post_name (fun V => Bk V (w.heap.size + 1 + 1 + 1) #[.int .i64 0, .slice none 0 0] 26 ∧ Below w.heap.size w V) HX.out ?_
  clear HX q0 q1 f0 f1 lt
  rintro V4' ⟨BV, hbV⟩
  have y0 := BV.cell (v := .int .i64 0) 0 rfl
  have y1 := BV.cell (v := .slice none 0 0) 1 rfl
  exact bodyPost_ret (v := .tuple #[Wv 0 none 0 0, .int .i64 2]) (by simp [results, Tryz.results14, go_sem, y0, y1]; try rfl) rfl ⟨rfl, hbV⟩
set_option maxHeartbeats 4000000 in
theorem pred_bad3 (W : Wld) (a : Option Addr) (n c : Nat) (id gx gy : Int) (x : Inp) (w : World) (hR : RG w) (h : EntsAt w (.slice a n c) W.es) (hv : Valid W) (hnu : numB id = true) (hpu : pullB gx gy = false) :
    Calls Tryz.prog 14 #[Wv W.t a n c, .int .i64 id, V2 gx gy, Iv x] w fun e w' => e = .returned (.tuple #[Wv 0 none 0 0, .int .i64 2]) ∧ Below w.heap.size w w' := by
  have VV := Lib.hid (fun V hV => by have := valid_any W a n c V (hR.below hV) (EntsAt.below h hV); rw [decide_eq_true hv] at this; exact this)
  have NN := Lib.hid (fun V => by have := number_any id V; rw [hnu] at this; exact this)
  have PP := Lib.hid (fun V => by have := cpull_any gx gy V; rw [hpu] at this; exact this)
  obtain ⟨t, es⟩ := W
  obtain ⟨xc, xs, xt, xmx, xmy, xfire, xax, xay, xseen, xpart⟩ := x
  simp only at h hv VV ⊢
  clear hR h hv hnu hpu
  unfold Wv V2 Iv
  simp only
  go_enter Tryz.func14, Tryz.ntmps14
  have hI0 : PI w t a n c gx gy #[.int .i64 xc, .int .i64 xs, .int .i64 xt, .int .i64 xmx, .int .i64 xmy, .bool xfire, .int .i64 xax, .int .i64 xay, .int .i64 xseen, .int .i64 xpart] ((((w.alloc (.cells #[.int .i64 t, .slice a n c] 26)).alloc (.cells #[.int .i64 gx, .int .i64 gy] 23)).alloc (.cells #[.int .i64 xc, .int .i64 xs, .int .i64 xt, .int .i64 xmx, .int .i64 xmy, .bool xfire, .int .i64 xax, .int .i64 xay, .int .i64 xseen, .int .i64 xpart] 37)).alloc (.cells #[.int .i64 0, .slice none 0 0] 26)) := ⟨(((Bk.made _ _ _).alloc _).alloc _).alloc _, ((Bk.at_ (by simp)).alloc _).alloc _, (Bk.at_ (by simp)).alloc _, Bk.at_ (by simp), by go_grown⟩
  have HI := Lib.hid hI0
  clear hI0
  go_wp2_with fail
  refine (VV.out _ HI.out.bel).mono ?_
  rintro e V1 ⟨rfl, hb1⟩
  replace HI := Lib.hid (HI.out.below hb1)
  clear hb1
  go_wp2_with fail
  refine (NN.out _).mono ?_
  rintro e V1a ⟨rfl, hb1⟩
  replace HI := Lib.hid (HI.out.below hb1)
  clear hb1
  have p0 := HI.out.b6.cell (v := .int .i64 gx) 0 rfl
  have p1 := HI.out.b6.cell (v := .int .i64 gy) 1 rfl
  go_wp2_with fail
  refine (PP.out _).mono ?_
  rintro e V2' ⟨rfl, hb1⟩
  replace HI := Lib.hid (HI.out.below hb1)
  clear hb1 p0 p1
  have B8 := HI.out.b8
  have hb := HI.out.bel
  have q0 := B8.cell (v := .int .i64 0) 0 rfl
  have q1 := B8.cell (v := .slice none 0 0) 1 rfl
  have f0 := B8.free 0
  have f1 := B8.free 1
  have lt := B8.lt
  have HX := Lib.hid (And.intro ((B8.put 0 (.int .i64 0)).put 1 (.slice none 0 0)) ((hb.setCell (p := ⟨w.heap.size + 1 + 1 + 1, 0, none⟩) (by show w.heap.size ≤ w.heap.size + 1 + 1 + 1; omega) (.int .i64 0)).setCell (p := ⟨w.heap.size + 1 + 1 + 1, 1, none⟩) (by show w.heap.size ≤ w.heap.size + 1 + 1 + 1; omega) (.slice none 0 0)))
  clear hb B8 HI
  go_wp2
  refine post_name (fun V => Bk V (w.heap.size + 1 + 1 + 1) #[.int .i64 0, .slice none 0 0] 26 ∧ Below w.heap.size w V) HX.out ?_
  clear HX q0 q1 f0 f1 lt
  rintro V4' ⟨BV, hbV⟩
  have y0 := BV.cell (v := .int .i64 0) 0 rfl
  have y1 := BV.cell (v := .slice none 0 0) 1 rfl
  exact bodyPost_ret (v := .tuple #[Wv 0 none 0 0, .int .i64 2]) (by simp [results, Tryz.results14, go_sem, y0, y1]; try rfl) rfl ⟨rfl, hbV⟩
set_option maxHeartbeats 4000000 in
theorem pred_last (W : Wld) (a : Option Addr) (n c : Nat) (id gx gy : Int) (x : Inp) (w : World) (hR : RG w) (h : EntsAt w (.slice a n c) W.es) (hv : Valid W) (hnu : numB id = true) (hpu : pullB gx gy = true) (ht : ¬ W.t < 1073741824) :
    Calls Tryz.prog 14 #[Wv W.t a n c, .int .i64 id, V2 gx gy, Iv x] w fun e w' => e = .returned (.tuple #[Wv 0 none 0 0, .int .i64 271]) ∧ Below w.heap.size w w' := by
  have VV := Lib.hid (fun V hV => by have := valid_any W a n c V (hR.below hV) (EntsAt.below h hV); rw [decide_eq_true hv] at this; exact this)
  have NN := Lib.hid (fun V => by have := number_any id V; rw [hnu] at this; exact this)
  have PP := Lib.hid (fun V => by have := cpull_any gx gy V; rw [hpu] at this; exact this)
  obtain ⟨t, es⟩ := W
  obtain ⟨xc, xs, xt, xmx, xmy, xfire, xax, xay, xseen, xpart⟩ := x
  simp only at h hv VV ht ⊢
  have d1 : decide (1073741824 ≤ t) = true := decide_eq_true (by omega)
  clear hR h hv hnu hpu ht
  unfold Wv V2 Iv
  simp only
  go_enter Tryz.func14, Tryz.ntmps14
  have hI0 : PI w t a n c gx gy #[.int .i64 xc, .int .i64 xs, .int .i64 xt, .int .i64 xmx, .int .i64 xmy, .bool xfire, .int .i64 xax, .int .i64 xay, .int .i64 xseen, .int .i64 xpart] ((((w.alloc (.cells #[.int .i64 t, .slice a n c] 26)).alloc (.cells #[.int .i64 gx, .int .i64 gy] 23)).alloc (.cells #[.int .i64 xc, .int .i64 xs, .int .i64 xt, .int .i64 xmx, .int .i64 xmy, .bool xfire, .int .i64 xax, .int .i64 xay, .int .i64 xseen, .int .i64 xpart] 37)).alloc (.cells #[.int .i64 0, .slice none 0 0] 26)) := ⟨(((Bk.made _ _ _).alloc _).alloc _).alloc _, ((Bk.at_ (by simp)).alloc _).alloc _, (Bk.at_ (by simp)).alloc _, Bk.at_ (by simp), by go_grown⟩
  have HI := Lib.hid hI0
  clear hI0
  go_wp2_with fail
  refine (VV.out _ HI.out.bel).mono ?_
  rintro e V1 ⟨rfl, hb1⟩
  replace HI := Lib.hid (HI.out.below hb1)
  clear hb1
  go_wp2_with fail
  refine (NN.out _).mono ?_
  rintro e V1a ⟨rfl, hb1⟩
  replace HI := Lib.hid (HI.out.below hb1)
  clear hb1
  have p0 := HI.out.b6.cell (v := .int .i64 gx) 0 rfl
  have p1 := HI.out.b6.cell (v := .int .i64 gy) 1 rfl
  go_wp2_with fail
  refine (PP.out _).mono ?_
  rintro e V2' ⟨rfl, hb1⟩
  replace HI := Lib.hid (HI.out.below hb1)
  clear hb1 p0 p1
  have p0 := HI.out.b4.cell (v := .int .i64 t) 0 rfl
  have B8 := HI.out.b8
  have hb := HI.out.bel
  have q0 := B8.cell (v := .int .i64 0) 0 rfl
  have q1 := B8.cell (v := .slice none 0 0) 1 rfl
  have f0 := B8.free 0
  have f1 := B8.free 1
  have lt := B8.lt
  have HX := Lib.hid (And.intro ((B8.put 0 (.int .i64 0)).put 1 (.slice none 0 0)) ((hb.setCell (p := ⟨w.heap.size + 1 + 1 + 1, 0, none⟩) (by show w.heap.size ≤ w.heap.size + 1 + 1 + 1; omega) (.int .i64 0)).setCell (p := ⟨w.heap.size + 1 + 1 + 1, 1, none⟩) (by show w.heap.size ≤ w.heap.size + 1 + 1 + 1; omega) (.slice none 0 0)))
  clear hb B8 HI
  go_wp2
  refine post_name (fun V => Bk V (w.heap.size + 1 + 1 + 1) #[.int .i64 0, .slice none 0 0] 26 ∧ Below w.heap.size w V) HX.out ?_
  clear HX q0 q1 f0 f1 lt p0
  rintro V4' ⟨BV, hbV⟩
  have y0 := BV.cell (v := .int .i64 0) 0 rfl
  have y1 := BV.cell (v := .slice none 0 0) 1 rfl
  exact bodyPost_ret (v := .tuple #[Wv 0 none 0 0, .int .i64 271]) (by simp [results, Tryz.results14, go_sem, y0, y1]; try rfl) rfl ⟨rfl, hbV⟩
/-- what a predicted tick asks of a world, of a client and of a gravity -/
def okP (W : Wld) (id gx gy : Int) : Bool := decide (Valid W) && (numB id && pullB gx gy)
/-- the world behind a predicted tick -/
def predW (W : Wld) (id gx gy : Int) (x : Inp) : Wld := ⟨W.t + 1, predM id gx gy (wst x.mx (vfar x.mx x.my) 64) (wst x.my (vfar x.mx x.my) 64) W.es⟩
/-- client.Predict as plain data: the world and the error -/
def predR (W : Wld) (id gx gy : Int) (x : Inp) : Wld × Int := if okP W id gx gy = true then (if W.t < 1073741824 then (predW W id gx gy x, 0) else (⟨0, []⟩, 271)) else (⟨0, []⟩, 2)
/-- a world and an error -/
def WEPost (w : World) (r : Wld × Int) (e : Ending) (w' : World) : Prop :=
  ∃ a n c, e = .returned (.tuple #[Wv r.1.t a n c, .int .i64 r.2]) ∧ Fresh 0 w' (.slice a n c) r.1.es ∧ Below w.heap.size w w'
/-- the same, all of the world being of the call's own -/
def WFPost (w : World) (r : Wld × Int) (e : Ending) (w' : World) : Prop :=
  ∃ a n c, e = .returned (.tuple #[Wv r.1.t a n c, .int .i64 r.2]) ∧ Fresh w.heap.size w' (.slice a n c) r.1.es ∧ Below w.heap.size w w'
theorem predict_fresh (W : Wld) (a : Option Addr) (n c : Nat) (id gx gy : Int) (x : Inp) (w : World) (hR : RG w) (hM : RM w) (hw : 2 ≤ w.heap.size) (h : EntsAt w (.slice a n c) W.es) (hx : I64 x.mx ∧ I64 x.my) :
    Calls Tryz.prog 14 #[Wv W.t a n c, .int .i64 id, V2 gx gy, Iv x] w (WFPost w (predR W id gx gy x)) := by
  unfold predR okP
  by_cases hv : Valid W
  · rcases h2 : numB id with _ | _
    · rw [Bool.false_and, Bool.and_false, if_neg (by decide)]
      exact (pred_bad2 W a n c id gx gy x w hR h hv h2).mono fun e w' ⟨he, hb⟩ => ⟨none, 0, 0, he, Fresh.nil _ _, hb⟩
    · rcases h3 : pullB gx gy with _ | _
      · rw [Bool.and_false, Bool.and_false, if_neg (by decide)]
        exact (pred_bad3 W a n c id gx gy x w hR h hv h2 h3).mono fun e w' ⟨he, hb⟩ => ⟨none, 0, 0, he, Fresh.nil _ _, hb⟩
      · rw [decide_eq_true hv, Bool.and_true, Bool.and_true, if_pos rfl]
        by_cases ht : W.t < 1073741824
        · rw [if_pos ht]
          exact (pred_ok W a n c id gx gy x w hR hM hw h hv h2 h3 ht hx).mono fun e w' ⟨a', n', c', he, hE, hb⟩ => ⟨a', n', c', he, hE, hb⟩
        · rw [if_neg ht]
          exact (pred_last W a n c id gx gy x w hR h hv h2 h3 ht).mono fun e w' ⟨he, hb⟩ => ⟨none, 0, 0, he, Fresh.nil _ _, hb⟩
  · rw [decide_eq_false hv, Bool.false_and, if_neg (by decide)]
    exact (pred_bad1 W a n c id gx gy x w hR h hv).mono fun e w' ⟨he, hb⟩ => ⟨none, 0, 0, he, Fresh.nil _ _, hb⟩
theorem predict_any (W : Wld) (a : Option Addr) (n c : Nat) (id gx gy : Int) (x : Inp) (w : World) (hR : RG w) (hM : RM w) (hw : 2 ≤ w.heap.size) (h : EntsAt w (.slice a n c) W.es) (hx : I64 x.mx ∧ I64 x.my) :
    Calls Tryz.prog 14 #[Wv W.t a n c, .int .i64 id, V2 gx gy, Iv x] w (WEPost w (predR W id gx gy x)) :=
  (predict_fresh W a n c id gx gy x w hR hM hw h hx).mono fun e w' ⟨a', n', c', he, hF, hb⟩ => ⟨a', n', c', he, hF.mono (Nat.zero_le _), hb⟩
end Go.Proofs.YtlcjkomfjgddeaaGreatDoor
