/- client.Shift. -/
import Derived.Test.YtlcjkomfjgddeaaGreatDoorM36
set_option linter.unusedVariables false
set_option linter.unusedSimpArgs false
namespace Go.Proofs.YtlcjkomfjgddeaaGreatDoor
open Go Go.RowKit Go.Sort
set_option maxRecDepth 100000
attribute [local go_sem] opLow opUpon opLow2 opUpon2

/-- client.Shift as plain data -/
def shiftR (c : Cli) (b : Wld) (k id : Int) : (Int × Int) × Int :=
  if validC c = true ∧ Valid b then
    if (viewR c).2 = 0 then
      if (recvR c b k).2 = 0 then
        if (viewR (recvR c b k).1).2 = 0 then
          match getM (viewR (recvR c b k).1).1 id 1, getM (viewR c).1 id 1 with
          | some p, some q => ((p.a - q.a, p.b - q.b), 0)
          | _, _ => ((0, 0), 6)
        else ((0, 0), (viewR (recvR c b k).1).2)
      else ((0, 0), (recvR c b k).2)
    else ((0, 0), (viewR c).2)
  else ((0, 0), 2)
def VE (x y e : Int) : Value := .tuple #[.agg #[.int .i64 x, .int .i64 y], .int .i64 e]
/-- the blocks of the parameters, and the result's -/
structure HI (w : World) (A1 : Array Value) (bt : Int) (ba : Option Addr) (bn bc : Nat) (V : World) : Prop where
  b4 : Bk V w.heap.size A1 29
  b5 : Bk V (w.heap.size + 1) #[.int .i64 bt, .slice ba bn bc] 26
  b8 : Bk V (w.heap.size + 1 + 1) #[.int .i64 0, .int .i64 0] 23
  bel : Below w.heap.size w V
theorem HI.below {w : World} {A1 : Array Value} {bt : Int} {ba : Option Addr} {bn bc : Nat} {V V' : World} (h : HI w A1 bt ba bn bc V) (hb : Below V.heap.size V V') : HI w A1 bt ba bn bc V' :=
  ⟨h.b4.below hb, h.b5.below hb, h.b8.below hb, (below_cc hb h.bel).1⟩
theorem recv_I64s {c : Cli} {b : Wld} {k : Int} (h : I64s c.p) : I64s (recvR c b k).1.p := by
  unfold recvR
  split
  · split
    · intro x hx; cases hx
    · intro x hx
      exact h x (List.mem_filter.1 hx).1
  · intro x hx; cases hx
theorem get_bd {W : Wld} {id : Int} {x : Cmp} (hV : Valid W) (h : getM W id 1 = some x) : (-1048576 ≤ x.a ∧ x.a ≤ 1048576) ∧ (-1048576 ≤ x.b ∧ x.b ≤ 1048576) := by
  unfold getM at h
  obtain ⟨e, he, hx⟩ := Option.bind_eq_some_iff.1 h
  have hm := List.mem_of_find?_eq_some he
  have hk : x.k = 1 := by have := List.find?_some hx; simpa using this
  exact fits_pos' ((hV.2.2.2 e hm).2.2 x (List.mem_of_find?_eq_some hx)) hk
set_option maxHeartbeats 8000000 in
theorem shift_1 (c : Cli) (b : Wld) (k i : Int) (a : Option Addr) (n cap : Nat) (pa : Option Addr) (pn pc : Nat) (ba : Option Addr) (bn bc : Nat) (w : World) (hR : RG w) (hM : RM w) (hw2 : 2 ≤ w.heap.size) (h : EntsAt w (.slice a n cap) c.b.es) (hp : InpsAt w (.slice pa pn pc) c.p) (hB : EntsAt w (.slice ba bn bc) b.es) (hx : I64s c.p) (hv : validC c = false) :
    Calls Tryz.prog 16 #[Cv c a n cap pa pn pc, Wv b.t ba bn bc, .int .i64 k, .int .i64 i] w fun e w' => e = .returned (VE 0 0 2) ∧ Below w.heap.size w w' := by
  have VC := Lib.hid (fun V (hV : Below w.heap.size w V) => by have := cvalid_any c a n cap pa pn pc V (hR.below hV) (EntsAt.below h hV) (InpsAt.below hp hV); rw [hv] at this; exact this)
  obtain ⟨id, gx, gy, ⟨t, es⟩, ack, p⟩ := c
  obtain ⟨bt, bes⟩ := b
  unfold Cv ccs at VC
  simp only at VC ⊢
  clear hR hM hw2 h hp hB hx hv
  unfold Cv ccs Wv
  simp only
  go_enter Tryz.func16, Tryz.ntmps16
  have H0 := Lib.hid (show HI w #[.int .i64 id, .int .i64 gx, .int .i64 gy, .int .i64 t, .slice a n cap, .int .i64 ack, .slice pa pn pc] bt ba bn bc (((w.alloc (.cells #[.int .i64 id, .int .i64 gx, .int .i64 gy, .int .i64 t, .slice a n cap, .int .i64 ack, .slice pa pn pc] 29)).alloc (.cells #[.int .i64 bt, .slice ba bn bc] 26)).alloc (.cells #[.int .i64 0, .int .i64 0] 23)) from ⟨((Bk.made _ _ _).alloc _).alloc _, (Bk.at_ (by simp)).alloc _, Bk.at_ (by simp), by go_grown⟩)
  go_wp2_with fail
  refine (VC.out _ H0.out.bel).mono ?_
  rintro e V1 ⟨rfl, hb1⟩
  replace H0 := Lib.hid (H0.out.below hb1)
  clear hb1 VC
  have B8 := H0.out.b8
  have hb := H0.out.bel
  have q0 := B8.cell (v := .int .i64 0) 0 rfl
  have q1 := B8.cell (v := .int .i64 0) 1 rfl
  have f0 := B8.free 0
  have f1 := B8.free 1
  have lt := B8.lt
  have HX := Lib.hid (And.intro ((B8.put 0 (.int .i64 (0))).put 1 (.int .i64 (0))) ((hb.setCell (p := ⟨w.heap.size + 1 + 1, 0, none⟩) (by show w.heap.size ≤ w.heap.size + 1 + 1; omega) (.int .i64 (0))).setCell (p := ⟨w.heap.size + 1 + 1, 1, none⟩) (by show w.heap.size ≤ w.heap.size + 1 + 1; omega) (.int .i64 (0))))
  clear hb B8
  go_wp2
  refine post_name (fun V => Bk V (w.heap.size + 1 + 1) #[.int .i64 (0), .int .i64 (0)] 23 ∧ Below w.heap.size w V) HX.out ?_
  clear HX q0 q1 f0 f1 lt
  rintro V2' ⟨BV, hbV⟩
  have y0 := BV.cell (v := .int .i64 (0)) 0 rfl
  have y1 := BV.cell (v := .int .i64 (0)) 1 rfl
  exact bodyPost_ret (v := VE (0) (0) (2)) (by simp [VE, results, Tryz.results16, go_sem, y0, y1]; try rfl) rfl ⟨rfl, hbV⟩
set_option maxHeartbeats 8000000 in
theorem shift_2 (c : Cli) (b : Wld) (k i : Int) (a : Option Addr) (n cap : Nat) (pa : Option Addr) (pn pc : Nat) (ba : Option Addr) (bn bc : Nat) (w : World) (hR : RG w) (hM : RM w) (hw2 : 2 ≤ w.heap.size) (h : EntsAt w (.slice a n cap) c.b.es) (hp : InpsAt w (.slice pa pn pc) c.p) (hB : EntsAt w (.slice ba bn bc) b.es) (hx : I64s c.p) (hv : validC c = true) (hw : ¬ Valid b) :
    Calls Tryz.prog 16 #[Cv c a n cap pa pn pc, Wv b.t ba bn bc, .int .i64 k, .int .i64 i] w fun e w' => e = .returned (VE 0 0 2) ∧ Below w.heap.size w w' := by
  have VC := Lib.hid (fun V (hV : Below w.heap.size w V) => by have := cvalid_any c a n cap pa pn pc V (hR.below hV) (EntsAt.below h hV) (InpsAt.below hp hV); rw [hv] at this; exact this)
  have VB := Lib.hid (fun V (hV : Below w.heap.size w V) => by have := valid_any b ba bn bc V (hR.below hV) (EntsAt.below hB hV); rw [decide_eq_false hw] at this; exact this)
  obtain ⟨id, gx, gy, ⟨t, es⟩, ack, p⟩ := c
  obtain ⟨bt, bes⟩ := b
  unfold Cv ccs at VC
  simp only at VC VB ⊢
  clear hR hM hw2 h hp hB hx hv hw
  unfold Cv ccs Wv
  simp only
  go_enter Tryz.func16, Tryz.ntmps16
  have H0 := Lib.hid (show HI w #[.int .i64 id, .int .i64 gx, .int .i64 gy, .int .i64 t, .slice a n cap, .int .i64 ack, .slice pa pn pc] bt ba bn bc (((w.alloc (.cells #[.int .i64 id, .int .i64 gx, .int .i64 gy, .int .i64 t, .slice a n cap, .int .i64 ack, .slice pa pn pc] 29)).alloc (.cells #[.int .i64 bt, .slice ba bn bc] 26)).alloc (.cells #[.int .i64 0, .int .i64 0] 23)) from ⟨((Bk.made _ _ _).alloc _).alloc _, (Bk.at_ (by simp)).alloc _, Bk.at_ (by simp), by go_grown⟩)
  go_wp2_with fail
  refine (VC.out _ H0.out.bel).mono ?_
  rintro e V1 ⟨rfl, hb1⟩
  replace H0 := Lib.hid (H0.out.below hb1)
  clear hb1 VC
  have p0 := H0.out.b5.cell (v := .int .i64 bt) 0 rfl
  have p1 := H0.out.b5.cell (v := .slice ba bn bc) 1 rfl
  have ltp := H0.out.b5.lt
  go_wp2_with fail
  refine (VB.out _ H0.out.bel).mono ?_
  rintro e V1b ⟨rfl, hb1⟩
  replace H0 := Lib.hid (H0.out.below hb1)
  clear hb1 VB p0 p1 ltp
  have B8 := H0.out.b8
  have hb := H0.out.bel
  have q0 := B8.cell (v := .int .i64 0) 0 rfl
  have q1 := B8.cell (v := .int .i64 0) 1 rfl
  have f0 := B8.free 0
  have f1 := B8.free 1
  have lt := B8.lt
  have HX := Lib.hid (And.intro ((B8.put 0 (.int .i64 (0))).put 1 (.int .i64 (0))) ((hb.setCell (p := ⟨w.heap.size + 1 + 1, 0, none⟩) (by show w.heap.size ≤ w.heap.size + 1 + 1; omega) (.int .i64 (0))).setCell (p := ⟨w.heap.size + 1 + 1, 1, none⟩) (by show w.heap.size ≤ w.heap.size + 1 + 1; omega) (.int .i64 (0))))
  clear hb B8
  go_wp2
  refine post_name (fun V => Bk V (w.heap.size + 1 + 1) #[.int .i64 (0), .int .i64 (0)] 23 ∧ Below w.heap.size w V) HX.out ?_
  clear HX q0 q1 f0 f1 lt
  rintro V2' ⟨BV, hbV⟩
  have y0 := BV.cell (v := .int .i64 (0)) 0 rfl
  have y1 := BV.cell (v := .int .i64 (0)) 1 rfl
  exact bodyPost_ret (v := VE (0) (0) (2)) (by simp [VE, results, Tryz.results16, go_sem, y0, y1]; try rfl) rfl ⟨rfl, hbV⟩
set_option maxHeartbeats 8000000 in
theorem shift_3 (c : Cli) (b : Wld) (k i : Int) (a : Option Addr) (n cap : Nat) (pa : Option Addr) (pn pc : Nat) (ba : Option Addr) (bn bc : Nat) (w : World) (hR : RG w) (hM : RM w) (hw2 : 2 ≤ w.heap.size) (h : EntsAt w (.slice a n cap) c.b.es) (hp : InpsAt w (.slice pa pn pc) c.p) (hB : EntsAt w (.slice ba bn bc) b.es) (hx : I64s c.p) (hv : validC c = true) (hw : Valid b) (h3 : ¬ (viewR c).2 = 0) :
    Calls Tryz.prog 16 #[Cv c a n cap pa pn pc, Wv b.t ba bn bc, .int .i64 k, .int .i64 i] w fun e w' => e = .returned (VE 0 0 (viewR c).2) ∧ Below w.heap.size w w' := by
  have VC := Lib.hid (fun V (hV : Below w.heap.size w V) => by have := cvalid_any c a n cap pa pn pc V (hR.below hV) (EntsAt.below h hV) (InpsAt.below hp hV); rw [hv] at this; exact this)
  have VB := Lib.hid (fun V (hV : Below w.heap.size w V) => by have := valid_any b ba bn bc V (hR.below hV) (EntsAt.below hB hV); rw [decide_eq_true hw] at this; exact this)
  have VW := Lib.hid (fun V (hV : Below w.heap.size w V) => view_any c a n cap pa pn pc V (hR.below hV) (hM.low hV hw2) (Nat.le_trans hw2 hV.size) (EntsAt.below h hV) (InpsAt.below hp hV) hx)
  obtain ⟨v1, hv1⟩ : ∃ v, viewR c = v := ⟨_, rfl⟩
  rw [hv1] at h3 VW ⊢
  obtain ⟨id, gx, gy, ⟨t, es⟩, ack, p⟩ := c
  obtain ⟨bt, bes⟩ := b
  obtain ⟨⟨vt, ves⟩, ve⟩ := v1
  unfold Cv ccs at VC VW
  simp only at VC VB VW h3 ⊢
  have ne1 : ((ve : Int) != 0) = true := by simpa using h3
  clear hR hM hw2 h hp hB hx hv hw h3 hv1
  unfold Cv ccs Wv
  simp only
  go_enter Tryz.func16, Tryz.ntmps16
  have H0 := Lib.hid (show HI w #[.int .i64 id, .int .i64 gx, .int .i64 gy, .int .i64 t, .slice a n cap, .int .i64 ack, .slice pa pn pc] bt ba bn bc (((w.alloc (.cells #[.int .i64 id, .int .i64 gx, .int .i64 gy, .int .i64 t, .slice a n cap, .int .i64 ack, .slice pa pn pc] 29)).alloc (.cells #[.int .i64 bt, .slice ba bn bc] 26)).alloc (.cells #[.int .i64 0, .int .i64 0] 23)) from ⟨((Bk.made _ _ _).alloc _).alloc _, (Bk.at_ (by simp)).alloc _, Bk.at_ (by simp), by go_grown⟩)
  go_wp2_with fail
  refine (VC.out _ H0.out.bel).mono ?_
  rintro e V1 ⟨rfl, hb1⟩
  replace H0 := Lib.hid (H0.out.below hb1)
  clear hb1 VC
  have p0 := H0.out.b5.cell (v := .int .i64 bt) 0 rfl
  have p1 := H0.out.b5.cell (v := .slice ba bn bc) 1 rfl
  have ltp := H0.out.b5.lt
  go_wp2_with fail
  refine (VB.out _ H0.out.bel).mono ?_
  rintro e V1b ⟨rfl, hb1⟩
  replace H0 := Lib.hid (H0.out.below hb1)
  clear hb1 VB p0 p1 ltp
  have s0 := H0.out.b4.cell (v := .int .i64 id) 0 rfl
  have s1 := H0.out.b4.cell (v := .int .i64 gx) 1 rfl
  have s2 := H0.out.b4.cell (v := .int .i64 gy) 2 rfl
  have s3 := H0.out.b4.cell (v := .int .i64 t) 3 rfl
  have s4 := H0.out.b4.cell (v := .slice a n cap) 4 rfl
  have s5 := H0.out.b4.cell (v := .int .i64 ack) 5 rfl
  have s6 := H0.out.b4.cell (v := .slice pa pn pc) 6 rfl
  have ls := H0.out.b4.lt
  go_wp2_with fail
  refine (VW.out _ H0.out.bel).mono ?_
  rintro e V2 ⟨va, vn, vc, rfl, hFv, hb1⟩
  replace H0 := Lib.hid (H0.out.below hb1)
  have HEV := Lib.hid hFv.ents
  clear hb1 VW hFv s0 s1 s2 s3 s4 s5 s6 ls
  try simp only
  go_upto_region 4 with fail
  refine wp_name (fun V => HI w #[.int .i64 id, .int .i64 gx, .int .i64 gy, .int .i64 t, .slice a n cap, .int .i64 ack, .slice pa pn pc] bt ba bn bc V ∧ Bk V V2.heap.size #[.int .i64 vt, .slice va vn vc] 26 ∧ EntsAt V (.slice va vn vc) ves) ⟨H0.out.below ((Below.refl _ _).alloc (Nat.le_refl _) _), Bk.made _ _ _, HEV.out.below ((Below.refl _ _).alloc (Nat.le_refl _) _)⟩ ?_
  obtain ⟨g10, hg10⟩ : ∃ g, V2.heap.size = g := ⟨_, rfl⟩
  rw [hg10]
  clear hg10 H0 HEV
  rintro V3 ⟨hI3, B10, hEV⟩
  have H0 := Lib.hid hI3
  have HV3 := Lib.hid (And.intro B10 hEV)
  clear hI3 B10 hEV
  have B8 := H0.out.b8
  have hb := H0.out.bel
  have q0 := B8.cell (v := .int .i64 0) 0 rfl
  have q1 := B8.cell (v := .int .i64 0) 1 rfl
  have f0 := B8.free 0
  have f1 := B8.free 1
  have lt := B8.lt
  have HX := Lib.hid (And.intro ((B8.put 0 (.int .i64 (0))).put 1 (.int .i64 (0))) ((hb.setCell (p := ⟨w.heap.size + 1 + 1, 0, none⟩) (by show w.heap.size ≤ w.heap.size + 1 + 1; omega) (.int .i64 (0))).setCell (p := ⟨w.heap.size + 1 + 1, 1, none⟩) (by show w.heap.size ≤ w.heap.size + 1 + 1; omega) (.int .i64 (0))))
  clear hb B8
  go_wp2
  refine post_name (fun V => Bk V (w.heap.size + 1 + 1) #[.int .i64 (0), .int .i64 (0)] 23 ∧ Below w.heap.size w V) HX.out ?_
  clear HX q0 q1 f0 f1 lt
  rintro V2' ⟨BV, hbV⟩
  have y0 := BV.cell (v := .int .i64 (0)) 0 rfl
  have y1 := BV.cell (v := .int .i64 (0)) 1 rfl
  exact bodyPost_ret (v := VE (0) (0) (ve)) (by simp [VE, results, Tryz.results16, go_sem, y0, y1]; try rfl) rfl ⟨rfl, hbV⟩
set_option maxHeartbeats 8000000 in
theorem shift_4 (c : Cli) (b : Wld) (k i : Int) (a : Option Addr) (n cap : Nat) (pa : Option Addr) (pn pc : Nat) (ba : Option Addr) (bn bc : Nat) (w : World) (hR : RG w) (hM : RM w) (hw2 : 2 ≤ w.heap.size) (h : EntsAt w (.slice a n cap) c.b.es) (hp : InpsAt w (.slice pa pn pc) c.p) (hB : EntsAt w (.slice ba bn bc) b.es) (hx : I64s c.p) (hv : validC c = true) (hw : Valid b) (h3 : (viewR c).2 = 0) (h4 : ¬ (recvR c b k).2 = 0) :
    Calls Tryz.prog 16 #[Cv c a n cap pa pn pc, Wv b.t ba bn bc, .int .i64 k, .int .i64 i] w fun e w' => e = .returned (VE 0 0 (recvR c b k).2) ∧ Below w.heap.size w w' := by
  have VC := Lib.hid (fun V (hV : Below w.heap.size w V) => by have := cvalid_any c a n cap pa pn pc V (hR.below hV) (EntsAt.below h hV) (InpsAt.below hp hV); rw [hv] at this; exact this)
  have VB := Lib.hid (fun V (hV : Below w.heap.size w V) => by have := valid_any b ba bn bc V (hR.below hV) (EntsAt.below hB hV); rw [decide_eq_true hw] at this; exact this)
  have VW := Lib.hid (fun V (hV : Below w.heap.size w V) => view_any c a n cap pa pn pc V (hR.below hV) (hM.low hV hw2) (Nat.le_trans hw2 hV.size) (EntsAt.below h hV) (InpsAt.below hp hV) hx)
  have RV := Lib.hid (fun V (hV : Below w.heap.size w V) => recv_any c b k a n cap pa pn pc ba bn bc V (hR.below hV) (EntsAt.below h hV) (InpsAt.below hp hV) (EntsAt.below hB hV))
  obtain ⟨v1, hv1⟩ : ∃ v, viewR c = v := ⟨_, rfl⟩
  rw [hv1] at h3 VW
  obtain ⟨r, hr⟩ : ∃ r, recvR c b k = r := ⟨_, rfl⟩
  rw [hr] at h4 RV ⊢
  obtain ⟨id, gx, gy, ⟨t, es⟩, ack, p⟩ := c
  obtain ⟨bt, bes⟩ := b
  obtain ⟨⟨vt, ves⟩, ve⟩ := v1
  obtain ⟨⟨rid, rgx, rgy, ⟨rt, res⟩, rack, rp⟩, re⟩ := r
  unfold Cv ccs at VC VW RV
  simp only at VC VB VW h3 RV h4 ⊢
  subst h3
  have ne1 : ((re : Int) != 0) = true := by simpa using h4
  clear hR hM hw2 h hp hB hx hv hw hv1 hr h4
  unfold Cv ccs Wv
  simp only
  go_enter Tryz.func16, Tryz.ntmps16
  have H0 := Lib.hid (show HI w #[.int .i64 id, .int .i64 gx, .int .i64 gy, .int .i64 t, .slice a n cap, .int .i64 ack, .slice pa pn pc] bt ba bn bc (((w.alloc (.cells #[.int .i64 id, .int .i64 gx, .int .i64 gy, .int .i64 t, .slice a n cap, .int .i64 ack, .slice pa pn pc] 29)).alloc (.cells #[.int .i64 bt, .slice ba bn bc] 26)).alloc (.cells #[.int .i64 0, .int .i64 0] 23)) from ⟨((Bk.made _ _ _).alloc _).alloc _, (Bk.at_ (by simp)).alloc _, Bk.at_ (by simp), by go_grown⟩)
  go_wp2_with fail
  refine (VC.out _ H0.out.bel).mono ?_
  rintro e V1 ⟨rfl, hb1⟩
  replace H0 := Lib.hid (H0.out.below hb1)
  clear hb1 VC
  have p0 := H0.out.b5.cell (v := .int .i64 bt) 0 rfl
  have p1 := H0.out.b5.cell (v := .slice ba bn bc) 1 rfl
  have ltp := H0.out.b5.lt
  go_wp2_with fail
  refine (VB.out _ H0.out.bel).mono ?_
  rintro e V1b ⟨rfl, hb1⟩
  replace H0 := Lib.hid (H0.out.below hb1)
  clear hb1 VB p0 p1 ltp
  have s0 := H0.out.b4.cell (v := .int .i64 id) 0 rfl
  have s1 := H0.out.b4.cell (v := .int .i64 gx) 1 rfl
  have s2 := H0.out.b4.cell (v := .int .i64 gy) 2 rfl
  have s3 := H0.out.b4.cell (v := .int .i64 t) 3 rfl
  have s4 := H0.out.b4.cell (v := .slice a n cap) 4 rfl
  have s5 := H0.out.b4.cell (v := .int .i64 ack) 5 rfl
  have s6 := H0.out.b4.cell (v := .slice pa pn pc) 6 rfl
  have ls := H0.out.b4.lt
  go_wp2_with fail
  refine (VW.out _ H0.out.bel).mono ?_
  rintro e V2 ⟨va, vn, vc, rfl, hFv, hb1⟩
  replace H0 := Lib.hid (H0.out.below hb1)
  have HEV := Lib.hid hFv.ents
  clear hb1 VW hFv s0 s1 s2 s3 s4 s5 s6 ls
  try simp only
  go_upto_region 4 with fail
  refine wp_name (fun V => HI w #[.int .i64 id, .int .i64 gx, .int .i64 gy, .int .i64 t, .slice a n cap, .int .i64 ack, .slice pa pn pc] bt ba bn bc V ∧ Bk V V2.heap.size #[.int .i64 vt, .slice va vn vc] 26 ∧ EntsAt V (.slice va vn vc) ves) ⟨H0.out.below ((Below.refl _ _).alloc (Nat.le_refl _) _), Bk.made _ _ _, HEV.out.below ((Below.refl _ _).alloc (Nat.le_refl _) _)⟩ ?_
  obtain ⟨g10, hg10⟩ : ∃ g, V2.heap.size = g := ⟨_, rfl⟩
  rw [hg10]
  clear hg10 H0 HEV
  rintro V3 ⟨hI3, B10, hEV⟩
  have H0 := Lib.hid hI3
  have HV3 := Lib.hid (And.intro B10 hEV)
  clear hI3 B10 hEV
  have s0 := H0.out.b4.cell (v := .int .i64 id) 0 rfl
  have s1 := H0.out.b4.cell (v := .int .i64 gx) 1 rfl
  have s2 := H0.out.b4.cell (v := .int .i64 gy) 2 rfl
  have s3 := H0.out.b4.cell (v := .int .i64 t) 3 rfl
  have s4 := H0.out.b4.cell (v := .slice a n cap) 4 rfl
  have s5 := H0.out.b4.cell (v := .int .i64 ack) 5 rfl
  have s6 := H0.out.b4.cell (v := .slice pa pn pc) 6 rfl
  have ls := H0.out.b4.lt
  have p0 := H0.out.b5.cell (v := .int .i64 bt) 0 rfl
  have p1 := H0.out.b5.cell (v := .slice ba bn bc) 1 rfl
  have ltp := H0.out.b5.lt
  go_wp2_with fail
  refine (RV.out _ H0.out.bel).mono ?_
  rintro e V4 ⟨ra, rn, rc, rpa, rpn, rpc, rfl, ⟨hEr, hPr⟩, hb1⟩
  replace H0 := Lib.hid (H0.out.below hb1)
  replace HV3 := Lib.hid (And.intro (HV3.out.1.below hb1) (EntsAt.below HV3.out.2 hb1))
  have HR4 := Lib.hid (And.intro hEr hPr)
  clear hb1 RV hEr hPr p0 p1 ltp s0 s1 s2 s3 s4 s5 s6 ls
  unfold Cv ccs
  try simp only
  go_upto_region 7 with fail
  refine wp_name (fun V => HI w #[.int .i64 id, .int .i64 gx, .int .i64 gy, .int .i64 t, .slice a n cap, .int .i64 ack, .slice pa pn pc] bt ba bn bc V ∧ (Bk V g10 #[.int .i64 vt, .slice va vn vc] 26 ∧ EntsAt V (.slice va vn vc) ves) ∧ Bk V V4.heap.size #[.int .i64 rid, .int .i64 rgx, .int .i64 rgy, .int .i64 rt, .slice ra rn rc, .int .i64 rack, .slice rpa rpn rpc] 29 ∧ EntsAt V (.slice ra rn rc) res ∧ InpsAt V (.slice rpa rpn rpc) rp) ⟨H0.out.below ((Below.refl _ _).alloc (Nat.le_refl _) _), ⟨HV3.out.1.alloc _, EntsAt.below HV3.out.2 ((Below.refl _ _).alloc (Nat.le_refl _) _)⟩, Bk.made _ _ _, EntsAt.below HR4.out.1 ((Below.refl _ _).alloc (Nat.le_refl _) _), InpsAt.below HR4.out.2 ((Below.refl _ _).alloc (Nat.le_refl _) _)⟩ ?_
  obtain ⟨g12, hg12⟩ : ∃ g, V4.heap.size = g := ⟨_, rfl⟩
  rw [hg12]
  clear hg12 H0 HV3 HR4
  rintro V5 ⟨hI5, hV5, B12, hE5, hP5⟩
  have H0 := Lib.hid hI5
  have HV3 := Lib.hid hV5
  have HR4 := Lib.hid (And.intro hE5 hP5)
  clear hI5 hV5 hE5 hP5
  clear B12
  have B8 := H0.out.b8
  have hb := H0.out.bel
  have q0 := B8.cell (v := .int .i64 0) 0 rfl
  have q1 := B8.cell (v := .int .i64 0) 1 rfl
  have f0 := B8.free 0
  have f1 := B8.free 1
  have lt := B8.lt
  have HX := Lib.hid (And.intro ((B8.put 0 (.int .i64 (0))).put 1 (.int .i64 (0))) ((hb.setCell (p := ⟨w.heap.size + 1 + 1, 0, none⟩) (by show w.heap.size ≤ w.heap.size + 1 + 1; omega) (.int .i64 (0))).setCell (p := ⟨w.heap.size + 1 + 1, 1, none⟩) (by show w.heap.size ≤ w.heap.size + 1 + 1; omega) (.int .i64 (0))))
  clear hb B8
  go_wp2
  refine post_name (fun V => Bk V (w.heap.size + 1 + 1) #[.int .i64 (0), .int .i64 (0)] 23 ∧ Below w.heap.size w V) HX.out ?_
  clear HX q0 q1 f0 f1 lt
  rintro V2' ⟨BV, hbV⟩
  have y0 := BV.cell (v := .int .i64 (0)) 0 rfl
  have y1 := BV.cell (v := .int .i64 (0)) 1 rfl
  exact bodyPost_ret (v := VE (0) (0) (re)) (by simp [VE, results, Tryz.results16, go_sem, y0, y1]; try rfl) rfl ⟨rfl, hbV⟩
set_option maxHeartbeats 8000000 in
theorem shift_5 (c : Cli) (b : Wld) (k i : Int) (a : Option Addr) (n cap : Nat) (pa : Option Addr) (pn pc : Nat) (ba : Option Addr) (bn bc : Nat) (w : World) (hR : RG w) (hM : RM w) (hw2 : 2 ≤ w.heap.size) (h : EntsAt w (.slice a n cap) c.b.es) (hp : InpsAt w (.slice pa pn pc) c.p) (hB : EntsAt w (.slice ba bn bc) b.es) (hx : I64s c.p) (hv : validC c = true) (hw : Valid b) (h3 : (viewR c).2 = 0) (h4 : (recvR c b k).2 = 0) (h5 : ¬ (viewR (recvR c b k).1).2 = 0) :
    Calls Tryz.prog 16 #[Cv c a n cap pa pn pc, Wv b.t ba bn bc, .int .i64 k, .int .i64 i] w fun e w' => e = .returned (VE 0 0 (viewR (recvR c b k).1).2) ∧ Below w.heap.size w w' := by
  have VC := Lib.hid (fun V (hV : Below w.heap.size w V) => by have := cvalid_any c a n cap pa pn pc V (hR.below hV) (EntsAt.below h hV) (InpsAt.below hp hV); rw [hv] at this; exact this)
  have VB := Lib.hid (fun V (hV : Below w.heap.size w V) => by have := valid_any b ba bn bc V (hR.below hV) (EntsAt.below hB hV); rw [decide_eq_true hw] at this; exact this)
  have VW := Lib.hid (fun V (hV : Below w.heap.size w V) => view_any c a n cap pa pn pc V (hR.below hV) (hM.low hV hw2) (Nat.le_trans hw2 hV.size) (EntsAt.below h hV) (InpsAt.below hp hV) hx)
  have RV := Lib.hid (fun V (hV : Below w.heap.size w V) => recv_any c b k a n cap pa pn pc ba bn bc V (hR.below hV) (EntsAt.below h hV) (InpsAt.below hp hV) (EntsAt.below hB hV))
  have VN := Lib.hid (fun V (hV : Below w.heap.size w V) a n cap pa pn pc hE hP => view_any (recvR c b k).1 a n cap pa pn pc V (hR.below hV) (hM.low hV hw2) (Nat.le_trans hw2 hV.size) hE hP (recv_I64s hx))
  obtain ⟨v1, hv1⟩ : ∃ v, viewR c = v := ⟨_, rfl⟩
  rw [hv1] at h3 VW
  obtain ⟨r, hr⟩ : ∃ r, recvR c b k = r := ⟨_, rfl⟩
  rw [hr] at h4 RV VN h5 ⊢
  obtain ⟨v2, hv2⟩ : ∃ v, viewR r.1 = v := ⟨_, rfl⟩
  rw [hv2] at h5 VN ⊢
  obtain ⟨id, gx, gy, ⟨t, es⟩, ack, p⟩ := c
  obtain ⟨bt, bes⟩ := b
  obtain ⟨⟨vt, ves⟩, ve⟩ := v1
  obtain ⟨⟨rid, rgx, rgy, ⟨rt, res⟩, rack, rp⟩, re⟩ := r
  obtain ⟨⟨nt, nes⟩, ne⟩ := v2
  unfold Cv ccs at VC VW RV VN
  simp only at VC VB VW h3 RV h4 VN h5 ⊢
  subst h3
  subst h4
  have ne1 : ((ne : Int) != 0) = true := by simpa using h5
  clear hR hM hw2 h hp hB hx hv hw hv1 hr hv2 h5
  unfold Cv ccs Wv
  simp only
  go_enter Tryz.func16, Tryz.ntmps16
  have H0 := Lib.hid (show HI w #[.int .i64 id, .int .i64 gx, .int .i64 gy, .int .i64 t, .slice a n cap, .int .i64 ack, .slice pa pn pc] bt ba bn bc (((w.alloc (.cells #[.int .i64 id, .int .i64 gx, .int .i64 gy, .int .i64 t, .slice a n cap, .int .i64 ack, .slice pa pn pc] 29)).alloc (.cells #[.int .i64 bt, .slice ba bn bc] 26)).alloc (.cells #[.int .i64 0, .int .i64 0] 23)) from ⟨((Bk.made _ _ _).alloc _).alloc _, (Bk.at_ (by simp)).alloc _, Bk.at_ (by simp), by go_grown⟩)
  go_wp2_with fail
  refine (VC.out _ H0.out.bel).mono ?_
  rintro e V1 ⟨rfl, hb1⟩
  replace H0 := Lib.hid (H0.out.below hb1)
  clear hb1 VC
  have p0 := H0.out.b5.cell (v := .int .i64 bt) 0 rfl
  have p1 := H0.out.b5.cell (v := .slice ba bn bc) 1 rfl
  have ltp := H0.out.b5.lt
  go_wp2_with fail
  refine (VB.out _ H0.out.bel).mono ?_
  rintro e V1b ⟨rfl, hb1⟩
  replace H0 := Lib.hid (H0.out.below hb1)
  clear hb1 VB p0 p1 ltp
  have s0 := H0.out.b4.cell (v := .int .i64 id) 0 rfl
  have s1 := H0.out.b4.cell (v := .int .i64 gx) 1 rfl
  have s2 := H0.out.b4.cell (v := .int .i64 gy) 2 rfl
  have s3 := H0.out.b4.cell (v := .int .i64 t) 3 rfl
  have s4 := H0.out.b4.cell (v := .slice a n cap) 4 rfl
  have s5 := H0.out.b4.cell (v := .int .i64 ack) 5 rfl
  have s6 := H0.out.b4.cell (v := .slice pa pn pc) 6 rfl
  have ls := H0.out.b4.lt
  go_wp2_with fail
  refine (VW.out _ H0.out.bel).mono ?_
  rintro e V2 ⟨va, vn, vc, rfl, hFv, hb1⟩
  replace H0 := Lib.hid (H0.out.below hb1)
  have HEV := Lib.hid hFv.ents
  clear hb1 VW hFv s0 s1 s2 s3 s4 s5 s6 ls
  try simp only
  go_upto_region 4 with fail
  refine wp_name (fun V => HI w #[.int .i64 id, .int .i64 gx, .int .i64 gy, .int .i64 t, .slice a n cap, .int .i64 ack, .slice pa pn pc] bt ba bn bc V ∧ Bk V V2.heap.size #[.int .i64 vt, .slice va vn vc] 26 ∧ EntsAt V (.slice va vn vc) ves) ⟨H0.out.below ((Below.refl _ _).alloc (Nat.le_refl _) _), Bk.made _ _ _, HEV.out.below ((Below.refl _ _).alloc (Nat.le_refl _) _)⟩ ?_
  obtain ⟨g10, hg10⟩ : ∃ g, V2.heap.size = g := ⟨_, rfl⟩
  rw [hg10]
  clear hg10 H0 HEV
  rintro V3 ⟨hI3, B10, hEV⟩
  have H0 := Lib.hid hI3
  have HV3 := Lib.hid (And.intro B10 hEV)
  clear hI3 B10 hEV
  have s0 := H0.out.b4.cell (v := .int .i64 id) 0 rfl
  have s1 := H0.out.b4.cell (v := .int .i64 gx) 1 rfl
  have s2 := H0.out.b4.cell (v := .int .i64 gy) 2 rfl
  have s3 := H0.out.b4.cell (v := .int .i64 t) 3 rfl
  have s4 := H0.out.b4.cell (v := .slice a n cap) 4 rfl
  have s5 := H0.out.b4.cell (v := .int .i64 ack) 5 rfl
  have s6 := H0.out.b4.cell (v := .slice pa pn pc) 6 rfl
  have ls := H0.out.b4.lt
  have p0 := H0.out.b5.cell (v := .int .i64 bt) 0 rfl
  have p1 := H0.out.b5.cell (v := .slice ba bn bc) 1 rfl
  have ltp := H0.out.b5.lt
  go_wp2_with fail
  refine (RV.out _ H0.out.bel).mono ?_
  rintro e V4 ⟨ra, rn, rc, rpa, rpn, rpc, rfl, ⟨hEr, hPr⟩, hb1⟩
  replace H0 := Lib.hid (H0.out.below hb1)
  replace HV3 := Lib.hid (And.intro (HV3.out.1.below hb1) (EntsAt.below HV3.out.2 hb1))
  have HR4 := Lib.hid (And.intro hEr hPr)
  clear hb1 RV hEr hPr p0 p1 ltp s0 s1 s2 s3 s4 s5 s6 ls
  unfold Cv ccs
  try simp only
  go_upto_region 7 with fail
  refine wp_name (fun V => HI w #[.int .i64 id, .int .i64 gx, .int .i64 gy, .int .i64 t, .slice a n cap, .int .i64 ack, .slice pa pn pc] bt ba bn bc V ∧ (Bk V g10 #[.int .i64 vt, .slice va vn vc] 26 ∧ EntsAt V (.slice va vn vc) ves) ∧ Bk V V4.heap.size #[.int .i64 rid, .int .i64 rgx, .int .i64 rgy, .int .i64 rt, .slice ra rn rc, .int .i64 rack, .slice rpa rpn rpc] 29 ∧ EntsAt V (.slice ra rn rc) res ∧ InpsAt V (.slice rpa rpn rpc) rp) ⟨H0.out.below ((Below.refl _ _).alloc (Nat.le_refl _) _), ⟨HV3.out.1.alloc _, EntsAt.below HV3.out.2 ((Below.refl _ _).alloc (Nat.le_refl _) _)⟩, Bk.made _ _ _, EntsAt.below HR4.out.1 ((Below.refl _ _).alloc (Nat.le_refl _) _), InpsAt.below HR4.out.2 ((Below.refl _ _).alloc (Nat.le_refl _) _)⟩ ?_
  obtain ⟨g12, hg12⟩ : ∃ g, V4.heap.size = g := ⟨_, rfl⟩
  rw [hg12]
  clear hg12 H0 HV3 HR4
  rintro V5 ⟨hI5, hV5, B12, hE5, hP5⟩
  have H0 := Lib.hid hI5
  have HV3 := Lib.hid hV5
  have HR4 := Lib.hid (And.intro hE5 hP5)
  clear hI5 hV5 hE5 hP5
  have z0 := B12.cell (v := .int .i64 rid) 0 rfl
  have z1 := B12.cell (v := .int .i64 rgx) 1 rfl
  have z2 := B12.cell (v := .int .i64 rgy) 2 rfl
  have z3 := B12.cell (v := .int .i64 rt) 3 rfl
  have z4 := B12.cell (v := .slice ra rn rc) 4 rfl
  have z5 := B12.cell (v := .int .i64 rack) 5 rfl
  have z6 := B12.cell (v := .slice rpa rpn rpc) 6 rfl
  have lz := B12.lt
  go_wp2_with fail
  refine (VN.out _ H0.out.bel _ _ _ _ _ _ HR4.out.1 HR4.out.2).mono ?_
  rintro e V6 ⟨na, nn, nc, rfl, hFn, hb1⟩
  replace H0 := Lib.hid (H0.out.below hb1)
  replace HV3 := Lib.hid (And.intro (HV3.out.1.below hb1) (EntsAt.below HV3.out.2 hb1))
  have HN6 := Lib.hid hFn.ents
  clear hb1 VN hFn HR4 B12 z0 z1 z2 z3 z4 z5 z6 lz
  try simp only
  go_upto_region 10 with fail
  refine wp_name (fun V => HI w #[.int .i64 id, .int .i64 gx, .int .i64 gy, .int .i64 t, .slice a n cap, .int .i64 ack, .slice pa pn pc] bt ba bn bc V ∧ (Bk V g10 #[.int .i64 vt, .slice va vn vc] 26 ∧ EntsAt V (.slice va vn vc) ves) ∧ Bk V V6.heap.size #[.int .i64 nt, .slice na nn nc] 26 ∧ EntsAt V (.slice na nn nc) nes) ⟨H0.out.below ((Below.refl _ _).alloc (Nat.le_refl _) _), ⟨HV3.out.1.alloc _, EntsAt.below HV3.out.2 ((Below.refl _ _).alloc (Nat.le_refl _) _)⟩, Bk.made _ _ _, EntsAt.below HN6.out ((Below.refl _ _).alloc (Nat.le_refl _) _)⟩ ?_
  obtain ⟨g13, hg13⟩ : ∃ g, V6.heap.size = g := ⟨_, rfl⟩
  rw [hg13]
  clear hg13 H0 HV3 HN6
  rintro V7 ⟨hI7, hV7, B13, hN7⟩
  have H0 := Lib.hid hI7
  have HV3 := Lib.hid hV7
  have HN7 := Lib.hid hN7
  clear hI7 hV7 hN7
  clear B13
  have B8 := H0.out.b8
  have hb := H0.out.bel
  have q0 := B8.cell (v := .int .i64 0) 0 rfl
  have q1 := B8.cell (v := .int .i64 0) 1 rfl
  have f0 := B8.free 0
  have f1 := B8.free 1
  have lt := B8.lt
  have HX := Lib.hid (And.intro ((B8.put 0 (.int .i64 (0))).put 1 (.int .i64 (0))) ((hb.setCell (p := ⟨w.heap.size + 1 + 1, 0, none⟩) (by show w.heap.size ≤ w.heap.size + 1 + 1; omega) (.int .i64 (0))).setCell (p := ⟨w.heap.size + 1 + 1, 1, none⟩) (by show w.heap.size ≤ w.heap.size + 1 + 1; omega) (.int .i64 (0))))
  clear hb B8
  go_wp2
  refine post_name (fun V => Bk V (w.heap.size + 1 + 1) #[.int .i64 (0), .int .i64 (0)] 23 ∧ Below w.heap.size w V) HX.out ?_
  clear HX q0 q1 f0 f1 lt
  rintro V2' ⟨BV, hbV⟩
  have y0 := BV.cell (v := .int .i64 (0)) 0 rfl
  have y1 := BV.cell (v := .int .i64 (0)) 1 rfl
  exact bodyPost_ret (v := VE (0) (0) (ne)) (by simp [VE, results, Tryz.results16, go_sem, y0, y1]; try rfl) rfl ⟨rfl, hbV⟩
set_option maxHeartbeats 8000000 in
theorem shift_6 (c : Cli) (b : Wld) (k i : Int) (a : Option Addr) (n cap : Nat) (pa : Option Addr) (pn pc : Nat) (ba : Option Addr) (bn bc : Nat) (w : World) (hR : RG w) (hM : RM w) (hw2 : 2 ≤ w.heap.size) (h : EntsAt w (.slice a n cap) c.b.es) (hp : InpsAt w (.slice pa pn pc) c.p) (hB : EntsAt w (.slice ba bn bc) b.es) (hx : I64s c.p) (hv : validC c = true) (hw : Valid b) (h3 : (viewR c).2 = 0) (h4 : (recvR c b k).2 = 0) (h5 : (viewR (recvR c b k).1).2 = 0) (h6 : getM (viewR (recvR c b k).1).1 i 1 = none) :
    Calls Tryz.prog 16 #[Cv c a n cap pa pn pc, Wv b.t ba bn bc, .int .i64 k, .int .i64 i] w fun e w' => e = .returned (VE 0 0 6) ∧ Below w.heap.size w w' := by
  have VC := Lib.hid (fun V (hV : Below w.heap.size w V) => by have := cvalid_any c a n cap pa pn pc V (hR.below hV) (EntsAt.below h hV) (InpsAt.below hp hV); rw [hv] at this; exact this)
  have VB := Lib.hid (fun V (hV : Below w.heap.size w V) => by have := valid_any b ba bn bc V (hR.below hV) (EntsAt.below hB hV); rw [decide_eq_true hw] at this; exact this)
  have VW := Lib.hid (fun V (hV : Below w.heap.size w V) => view_any c a n cap pa pn pc V (hR.below hV) (hM.low hV hw2) (Nat.le_trans hw2 hV.size) (EntsAt.below h hV) (InpsAt.below hp hV) hx)
  have RV := Lib.hid (fun V (hV : Below w.heap.size w V) => recv_any c b k a n cap pa pn pc ba bn bc V (hR.below hV) (EntsAt.below h hV) (InpsAt.below hp hV) (EntsAt.below hB hV))
  have VN := Lib.hid (fun V (hV : Below w.heap.size w V) a n cap pa pn pc hE hP => view_any (recvR c b k).1 a n cap pa pn pc V (hR.below hV) (hM.low hV hw2) (Nat.le_trans hw2 hV.size) hE hP (recv_I64s hx))
  have GV := Lib.hid (fun V (hV : Below w.heap.size w V) (W : Wld) a n c hE hVa => get_any W a n c i 1 V (hR.below hV) hE hVa)
  have hva1 : Valid (viewR (recvR c b k).1).1 := viewR_valid (by rw [← h5])
  have hva0 : Valid (viewR c).1 := viewR_valid (by rw [← h3])
  obtain ⟨v1, hv1⟩ : ∃ v, viewR c = v := ⟨_, rfl⟩
  rw [hv1] at h3 VW hva0
  obtain ⟨r, hr⟩ : ∃ r, recvR c b k = r := ⟨_, rfl⟩
  rw [hr] at h4 RV VN h5 hva1 h6
  obtain ⟨v2, hv2⟩ : ∃ v, viewR r.1 = v := ⟨_, rfl⟩
  rw [hv2] at h5 VN hva1 h6
  obtain ⟨id, gx, gy, ⟨t, es⟩, ack, p⟩ := c
  obtain ⟨bt, bes⟩ := b
  obtain ⟨⟨vt, ves⟩, ve⟩ := v1
  obtain ⟨⟨rid, rgx, rgy, ⟨rt, res⟩, rack, rp⟩, re⟩ := r
  obtain ⟨⟨nt, nes⟩, ne⟩ := v2
  unfold Cv ccs at VC VW RV VN
  simp only at VC VB VW h3 RV h4 VN h5 hva1 hva0 h6 ⊢
  subst h3
  subst h4
  subst h5
  have HVA := Lib.hid (And.intro hva1 hva0)
  have HG1 := Lib.hid (getV_none h6)
  clear hR hM hw2 h hp hB hx hv hw hv1 hr hv2 hva1 hva0 h6
  unfold Cv ccs Wv
  simp only
  go_enter Tryz.func16, Tryz.ntmps16
  have H0 := Lib.hid (show HI w #[.int .i64 id, .int .i64 gx, .int .i64 gy, .int .i64 t, .slice a n cap, .int .i64 ack, .slice pa pn pc] bt ba bn bc (((w.alloc (.cells #[.int .i64 id, .int .i64 gx, .int .i64 gy, .int .i64 t, .slice a n cap, .int .i64 ack, .slice pa pn pc] 29)).alloc (.cells #[.int .i64 bt, .slice ba bn bc] 26)).alloc (.cells #[.int .i64 0, .int .i64 0] 23)) from ⟨((Bk.made _ _ _).alloc _).alloc _, (Bk.at_ (by simp)).alloc _, Bk.at_ (by simp), by go_grown⟩)
  go_wp2_with fail
  refine (VC.out _ H0.out.bel).mono ?_
  rintro e V1 ⟨rfl, hb1⟩
  replace H0 := Lib.hid (H0.out.below hb1)
  clear hb1 VC
  have p0 := H0.out.b5.cell (v := .int .i64 bt) 0 rfl
  have p1 := H0.out.b5.cell (v := .slice ba bn bc) 1 rfl
  have ltp := H0.out.b5.lt
  go_wp2_with fail
  refine (VB.out _ H0.out.bel).mono ?_
  rintro e V1b ⟨rfl, hb1⟩
  replace H0 := Lib.hid (H0.out.below hb1)
  clear hb1 VB p0 p1 ltp
  have s0 := H0.out.b4.cell (v := .int .i64 id) 0 rfl
  have s1 := H0.out.b4.cell (v := .int .i64 gx) 1 rfl
  have s2 := H0.out.b4.cell (v := .int .i64 gy) 2 rfl
  have s3 := H0.out.b4.cell (v := .int .i64 t) 3 rfl
  have s4 := H0.out.b4.cell (v := .slice a n cap) 4 rfl
  have s5 := H0.out.b4.cell (v := .int .i64 ack) 5 rfl
  have s6 := H0.out.b4.cell (v := .slice pa pn pc) 6 rfl
  have ls := H0.out.b4.lt
  go_wp2_with fail
  refine (VW.out _ H0.out.bel).mono ?_
  rintro e V2 ⟨va, vn, vc, rfl, hFv, hb1⟩
  replace H0 := Lib.hid (H0.out.below hb1)
  have HEV := Lib.hid hFv.ents
  clear hb1 VW hFv s0 s1 s2 s3 s4 s5 s6 ls
  try simp only
  go_upto_region 4 with fail
  refine wp_name (fun V => HI w #[.int .i64 id, .int .i64 gx, .int .i64 gy, .int .i64 t, .slice a n cap, .int .i64 ack, .slice pa pn pc] bt ba bn bc V ∧ Bk V V2.heap.size #[.int .i64 vt, .slice va vn vc] 26 ∧ EntsAt V (.slice va vn vc) ves) ⟨H0.out.below ((Below.refl _ _).alloc (Nat.le_refl _) _), Bk.made _ _ _, HEV.out.below ((Below.refl _ _).alloc (Nat.le_refl _) _)⟩ ?_
  obtain ⟨g10, hg10⟩ : ∃ g, V2.heap.size = g := ⟨_, rfl⟩
  rw [hg10]
  clear hg10 H0 HEV
  rintro V3 ⟨hI3, B10, hEV⟩
  have H0 := Lib.hid hI3
  have HV3 := Lib.hid (And.intro B10 hEV)
  clear hI3 B10 hEV
  have s0 := H0.out.b4.cell (v := .int .i64 id) 0 rfl
  have s1 := H0.out.b4.cell (v := .int .i64 gx) 1 rfl
  have s2 := H0.out.b4.cell (v := .int .i64 gy) 2 rfl
  have s3 := H0.out.b4.cell (v := .int .i64 t) 3 rfl
  have s4 := H0.out.b4.cell (v := .slice a n cap) 4 rfl
  have s5 := H0.out.b4.cell (v := .int .i64 ack) 5 rfl
  have s6 := H0.out.b4.cell (v := .slice pa pn pc) 6 rfl
  have ls := H0.out.b4.lt
  have p0 := H0.out.b5.cell (v := .int .i64 bt) 0 rfl
  have p1 := H0.out.b5.cell (v := .slice ba bn bc) 1 rfl
  have ltp := H0.out.b5.lt
  go_wp2_with fail
  refine (RV.out _ H0.out.bel).mono ?_
  rintro e V4 ⟨ra, rn, rc, rpa, rpn, rpc, rfl, ⟨hEr, hPr⟩, hb1⟩
  replace H0 := Lib.hid (H0.out.below hb1)
  replace HV3 := Lib.hid (And.intro (HV3.out.1.below hb1) (EntsAt.below HV3.out.2 hb1))
  have HR4 := Lib.hid (And.intro hEr hPr)
  clear hb1 RV hEr hPr p0 p1 ltp s0 s1 s2 s3 s4 s5 s6 ls
  unfold Cv ccs
  try simp only
  go_upto_region 7 with fail
  refine wp_name (fun V => HI w #[.int .i64 id, .int .i64 gx, .int .i64 gy, .int .i64 t, .slice a n cap, .int .i64 ack, .slice pa pn pc] bt ba bn bc V ∧ (Bk V g10 #[.int .i64 vt, .slice va vn vc] 26 ∧ EntsAt V (.slice va vn vc) ves) ∧ Bk V V4.heap.size #[.int .i64 rid, .int .i64 rgx, .int .i64 rgy, .int .i64 rt, .slice ra rn rc, .int .i64 rack, .slice rpa rpn rpc] 29 ∧ EntsAt V (.slice ra rn rc) res ∧ InpsAt V (.slice rpa rpn rpc) rp) ⟨H0.out.below ((Below.refl _ _).alloc (Nat.le_refl _) _), ⟨HV3.out.1.alloc _, EntsAt.below HV3.out.2 ((Below.refl _ _).alloc (Nat.le_refl _) _)⟩, Bk.made _ _ _, EntsAt.below HR4.out.1 ((Below.refl _ _).alloc (Nat.le_refl _) _), InpsAt.below HR4.out.2 ((Below.refl _ _).alloc (Nat.le_refl _) _)⟩ ?_
  obtain ⟨g12, hg12⟩ : ∃ g, V4.heap.size = g := ⟨_, rfl⟩
  rw [hg12]
  clear hg12 H0 HV3 HR4
  rintro V5 ⟨hI5, hV5, B12, hE5, hP5⟩
  have H0 := Lib.hid hI5
  have HV3 := Lib.hid hV5
  have HR4 := Lib.hid (And.intro hE5 hP5)
  clear hI5 hV5 hE5 hP5
  have z0 := B12.cell (v := .int .i64 rid) 0 rfl
  have z1 := B12.cell (v := .int .i64 rgx) 1 rfl
  have z2 := B12.cell (v := .int .i64 rgy) 2 rfl
  have z3 := B12.cell (v := .int .i64 rt) 3 rfl
  have z4 := B12.cell (v := .slice ra rn rc) 4 rfl
  have z5 := B12.cell (v := .int .i64 rack) 5 rfl
  have z6 := B12.cell (v := .slice rpa rpn rpc) 6 rfl
  have lz := B12.lt
  go_wp2_with fail
  refine (VN.out _ H0.out.bel _ _ _ _ _ _ HR4.out.1 HR4.out.2).mono ?_
  rintro e V6 ⟨na, nn, nc, rfl, hFn, hb1⟩
  replace H0 := Lib.hid (H0.out.below hb1)
  replace HV3 := Lib.hid (And.intro (HV3.out.1.below hb1) (EntsAt.below HV3.out.2 hb1))
  have HN6 := Lib.hid hFn.ents
  clear hb1 VN hFn HR4 B12 z0 z1 z2 z3 z4 z5 z6 lz
  try simp only
  go_upto_region 10 with fail
  refine wp_name (fun V => HI w #[.int .i64 id, .int .i64 gx, .int .i64 gy, .int .i64 t, .slice a n cap, .int .i64 ack, .slice pa pn pc] bt ba bn bc V ∧ (Bk V g10 #[.int .i64 vt, .slice va vn vc] 26 ∧ EntsAt V (.slice va vn vc) ves) ∧ Bk V V6.heap.size #[.int .i64 nt, .slice na nn nc] 26 ∧ EntsAt V (.slice na nn nc) nes) ⟨H0.out.below ((Below.refl _ _).alloc (Nat.le_refl _) _), ⟨HV3.out.1.alloc _, EntsAt.below HV3.out.2 ((Below.refl _ _).alloc (Nat.le_refl _) _)⟩, Bk.made _ _ _, EntsAt.below HN6.out ((Below.refl _ _).alloc (Nat.le_refl _) _)⟩ ?_
  obtain ⟨g13, hg13⟩ : ∃ g, V6.heap.size = g := ⟨_, rfl⟩
  rw [hg13]
  clear hg13 H0 HV3 HN6
  rintro V7 ⟨hI7, hV7, B13, hN7⟩
  have H0 := Lib.hid hI7
  have HV3 := Lib.hid hV7
  have HN7 := Lib.hid hN7
  clear hI7 hV7 hN7
  have z0 := B13.cell (v := .int .i64 nt) 0 rfl
  have z1 := B13.cell (v := .slice na nn nc) 1 rfl
  have lz := B13.lt
  have G1 := Lib.hid (GV.out V7 H0.out.bel ⟨nt, nes⟩ na nn nc HN7.out HVA.out.1)
  rw [HG1.out] at G1
  unfold Wv C at G1
  simp only at G1
  go_wp2_with fail
  refine G1.out.mono ?_
  rintro e V8 ⟨rfl, hb1⟩
  replace H0 := Lib.hid (H0.out.below hb1)
  replace HV3 := Lib.hid (And.intro (HV3.out.1.below hb1) (EntsAt.below HV3.out.2 hb1))
  clear hb1 G1 B13 z0 z1 lz HN7
  go_upto_region 13 with fail
  refine wp_name (fun V => HI w #[.int .i64 id, .int .i64 gx, .int .i64 gy, .int .i64 t, .slice a n cap, .int .i64 ack, .slice pa pn pc] bt ba bn bc V ∧ (Bk V g10 #[.int .i64 vt, .slice va vn vc] 26 ∧ EntsAt V (.slice va vn vc) ves) ∧ Bk V V8.heap.size #[.int .u8 0, .int .i64 0, .int .i64 0, .int .i64 0, .int .i64 0] 48) ⟨H0.out.below ((Below.refl _ _).alloc (Nat.le_refl _) _), ⟨HV3.out.1.alloc _, EntsAt.below HV3.out.2 ((Below.refl _ _).alloc (Nat.le_refl _) _)⟩, Bk.made _ _ _⟩ ?_
  obtain ⟨g14, hg14⟩ : ∃ g, V8.heap.size = g := ⟨_, rfl⟩
  rw [hg14]
  clear hg14 H0 HV3
  rintro V9 ⟨hI9, hV9, B14⟩
  have H0 := Lib.hid hI9
  have HV3 := Lib.hid hV9
  clear hI9 hV9
  have z0 := HV3.out.1.cell (v := .int .i64 vt) 0 rfl
  have z1 := HV3.out.1.cell (v := .slice va vn vc) 1 rfl
  have lz := HV3.out.1.lt
  have G2 := Lib.hid (GV.out V9 H0.out.bel ⟨vt, ves⟩ va vn vc HV3.out.2 HVA.out.2)
  obtain ⟨u1, u2, hgu⟩ : ∃ u1 u2, getV ⟨vt, ves⟩ i 1 = .tuple #[C u1, .bool u2] := by
    unfold getV
    split
    · exact ⟨_, _, rfl⟩
    · exact ⟨_, _, rfl⟩
  rw [hgu] at G2
  clear hgu
  unfold Wv C at G2
  simp only at G2
  go_wp2_with fail
  refine G2.out.mono ?_
  rintro e V10 ⟨rfl, hb1⟩
  replace H0 := Lib.hid (H0.out.below hb1)
  replace B14 := B14.below hb1
  clear hb1 G2 z0 z1 lz HV3 GV HVA
  go_upto_region 14 with fail
  refine wp_name (fun V => HI w #[.int .i64 id, .int .i64 gx, .int .i64 gy, .int .i64 t, .slice a n cap, .int .i64 ack, .slice pa pn pc] bt ba bn bc V ∧ Bk V g14 #[.int .u8 0, .int .i64 0, .int .i64 0, .int .i64 0, .int .i64 0] 48 ∧ Bk V V10.heap.size #[.int .u8 u1.k, .int .i64 u1.a, .int .i64 u1.b, .int .i64 u1.c, .int .i64 u1.d] 48) ⟨H0.out.below ((Below.refl _ _).alloc (Nat.le_refl _) _), B14.alloc _, Bk.made _ _ _⟩ ?_
  obtain ⟨g16, hg16⟩ : ∃ g, V10.heap.size = g := ⟨_, rfl⟩
  rw [hg16]
  clear hg16 H0 B14
  rintro V11 ⟨hI11, B14, B16⟩
  have H0 := Lib.hid hI11
  clear hI11
  clear B14 B16
  have B8 := H0.out.b8
  have hb := H0.out.bel
  have q0 := B8.cell (v := .int .i64 0) 0 rfl
  have q1 := B8.cell (v := .int .i64 0) 1 rfl
  have f0 := B8.free 0
  have f1 := B8.free 1
  have lt := B8.lt
  have HX := Lib.hid (And.intro ((B8.put 0 (.int .i64 (0))).put 1 (.int .i64 (0))) ((hb.setCell (p := ⟨w.heap.size + 1 + 1, 0, none⟩) (by show w.heap.size ≤ w.heap.size + 1 + 1; omega) (.int .i64 (0))).setCell (p := ⟨w.heap.size + 1 + 1, 1, none⟩) (by show w.heap.size ≤ w.heap.size + 1 + 1; omega) (.int .i64 (0))))
  clear hb B8
  go_wp2
  refine post_name (fun V => Bk V (w.heap.size + 1 + 1) #[.int .i64 (0), .int .i64 (0)] 23 ∧ Below w.heap.size w V) HX.out ?_
  clear HX q0 q1 f0 f1 lt
  rintro V2' ⟨BV, hbV⟩
  have y0 := BV.cell (v := .int .i64 (0)) 0 rfl
  have y1 := BV.cell (v := .int .i64 (0)) 1 rfl
  exact bodyPost_ret (v := VE (0) (0) (6)) (by simp [VE, results, Tryz.results16, go_sem, y0, y1]; try rfl) rfl ⟨rfl, hbV⟩
set_option maxHeartbeats 8000000 in
theorem shift_7 (c : Cli) (b : Wld) (k i : Int) (a : Option Addr) (n cap : Nat) (pa : Option Addr) (pn pc : Nat) (ba : Option Addr) (bn bc : Nat) (w : World) (hR : RG w) (hM : RM w) (hw2 : 2 ≤ w.heap.size) (h : EntsAt w (.slice a n cap) c.b.es) (hp : InpsAt w (.slice pa pn pc) c.p) (hB : EntsAt w (.slice ba bn bc) b.es) (hx : I64s c.p) (hv : validC c = true) (hw : Valid b) (h3 : (viewR c).2 = 0) (h4 : (recvR c b k).2 = 0) (h5 : (viewR (recvR c b k).1).2 = 0) (pp : Cmp) (h6 : getM (viewR (recvR c b k).1).1 i 1 = some pp) (h7 : getM (viewR c).1 i 1 = none) :
    Calls Tryz.prog 16 #[Cv c a n cap pa pn pc, Wv b.t ba bn bc, .int .i64 k, .int .i64 i] w fun e w' => e = .returned (VE 0 0 6) ∧ Below w.heap.size w w' := by
  have VC := Lib.hid (fun V (hV : Below w.heap.size w V) => by have := cvalid_any c a n cap pa pn pc V (hR.below hV) (EntsAt.below h hV) (InpsAt.below hp hV); rw [hv] at this; exact this)
  have VB := Lib.hid (fun V (hV : Below w.heap.size w V) => by have := valid_any b ba bn bc V (hR.below hV) (EntsAt.below hB hV); rw [decide_eq_true hw] at this; exact this)
  have VW := Lib.hid (fun V (hV : Below w.heap.size w V) => view_any c a n cap pa pn pc V (hR.below hV) (hM.low hV hw2) (Nat.le_trans hw2 hV.size) (EntsAt.below h hV) (InpsAt.below hp hV) hx)
  have RV := Lib.hid (fun V (hV : Below w.heap.size w V) => recv_any c b k a n cap pa pn pc ba bn bc V (hR.below hV) (EntsAt.below h hV) (InpsAt.below hp hV) (EntsAt.below hB hV))
  have VN := Lib.hid (fun V (hV : Below w.heap.size w V) a n cap pa pn pc hE hP => view_any (recvR c b k).1 a n cap pa pn pc V (hR.below hV) (hM.low hV hw2) (Nat.le_trans hw2 hV.size) hE hP (recv_I64s hx))
  have GV := Lib.hid (fun V (hV : Below w.heap.size w V) (W : Wld) a n c hE hVa => get_any W a n c i 1 V (hR.below hV) hE hVa)
  have hva1 : Valid (viewR (recvR c b k).1).1 := viewR_valid (by rw [← h5])
  have hva0 : Valid (viewR c).1 := viewR_valid (by rw [← h3])
  obtain ⟨v1, hv1⟩ : ∃ v, viewR c = v := ⟨_, rfl⟩
  rw [hv1] at h3 VW hva0 h7
  obtain ⟨r, hr⟩ : ∃ r, recvR c b k = r := ⟨_, rfl⟩
  rw [hr] at h4 RV VN h5 hva1 h6
  obtain ⟨v2, hv2⟩ : ∃ v, viewR r.1 = v := ⟨_, rfl⟩
  rw [hv2] at h5 VN hva1 h6
  obtain ⟨id, gx, gy, ⟨t, es⟩, ack, p⟩ := c
  obtain ⟨bt, bes⟩ := b
  obtain ⟨⟨vt, ves⟩, ve⟩ := v1
  obtain ⟨⟨rid, rgx, rgy, ⟨rt, res⟩, rack, rp⟩, re⟩ := r
  obtain ⟨⟨nt, nes⟩, ne⟩ := v2
  unfold Cv ccs at VC VW RV VN
  simp only at VC VB VW h3 RV h4 VN h5 hva1 hva0 h6 h7 ⊢
  subst h3
  subst h4
  subst h5
  have HVA := Lib.hid (And.intro hva1 hva0)
  have HG1 := Lib.hid (getV_some h6)
  have HG2 := Lib.hid (getV_none h7)
  clear hR hM hw2 h hp hB hx hv hw hv1 hr hv2 hva1 hva0 h6 h7
  unfold Cv ccs Wv
  simp only
  go_enter Tryz.func16, Tryz.ntmps16
  have H0 := Lib.hid (show HI w #[.int .i64 id, .int .i64 gx, .int .i64 gy, .int .i64 t, .slice a n cap, .int .i64 ack, .slice pa pn pc] bt ba bn bc (((w.alloc (.cells #[.int .i64 id, .int .i64 gx, .int .i64 gy, .int .i64 t, .slice a n cap, .int .i64 ack, .slice pa pn pc] 29)).alloc (.cells #[.int .i64 bt, .slice ba bn bc] 26)).alloc (.cells #[.int .i64 0, .int .i64 0] 23)) from ⟨((Bk.made _ _ _).alloc _).alloc _, (Bk.at_ (by simp)).alloc _, Bk.at_ (by simp), by go_grown⟩)
  go_wp2_with fail
  refine (VC.out _ H0.out.bel).mono ?_
  rintro e V1 ⟨rfl, hb1⟩
  replace H0 := Lib.hid (H0.out.below hb1)
  clear hb1 VC
  have p0 := H0.out.b5.cell (v := .int .i64 bt) 0 rfl
  have p1 := H0.out.b5.cell (v := .slice ba bn bc) 1 rfl
  have ltp := H0.out.b5.lt
  go_wp2_with fail
  refine (VB.out _ H0.out.bel).mono ?_
  rintro e V1b ⟨rfl, hb1⟩
  replace H0 := Lib.hid (H0.out.below hb1)
  clear hb1 VB p0 p1 ltp
  have s0 := H0.out.b4.cell (v := .int .i64 id) 0 rfl
  have s1 := H0.out.b4.cell (v := .int .i64 gx) 1 rfl
  have s2 := H0.out.b4.cell (v := .int .i64 gy) 2 rfl
  have s3 := H0.out.b4.cell (v := .int .i64 t) 3 rfl
  have s4 := H0.out.b4.cell (v := .slice a n cap) 4 rfl
  have s5 := H0.out.b4.cell (v := .int .i64 ack) 5 rfl
  have s6 := H0.out.b4.cell (v := .slice pa pn pc) 6 rfl
  have ls := H0.out.b4.lt
  go_wp2_with fail
  refine (VW.out _ H0.out.bel).mono ?_
  rintro e V2 ⟨va, vn, vc, rfl, hFv, hb1⟩
  replace H0 := Lib.hid (H0.out.below hb1)
  have HEV := Lib.hid hFv.ents
  clear hb1 VW hFv s0 s1 s2 s3 s4 s5 s6 ls
  try simp only
  go_upto_region 4 with fail
  refine wp_name (fun V => HI w #[.int .i64 id, .int .i64 gx, .int .i64 gy, .int .i64 t, .slice a n cap, .int .i64 ack, .slice pa pn pc] bt ba bn bc V ∧ Bk V V2.heap.size #[.int .i64 vt, .slice va vn vc] 26 ∧ EntsAt V (.slice va vn vc) ves) ⟨H0.out.below ((Below.refl _ _).alloc (Nat.le_refl _) _), Bk.made _ _ _, HEV.out.below ((Below.refl _ _).alloc (Nat.le_refl _) _)⟩ ?_
  obtain ⟨g10, hg10⟩ : ∃ g, V2.heap.size = g := ⟨_, rfl⟩
  rw [hg10]
  clear hg10 H0 HEV
  rintro V3 ⟨hI3, B10, hEV⟩
  have H0 := Lib.hid hI3
  have HV3 := Lib.hid (And.intro B10 hEV)
  clear hI3 B10 hEV
  have s0 := H0.out.b4.cell (v := .int .i64 id) 0 rfl
  have s1 := H0.out.b4.cell (v := .int .i64 gx) 1 rfl
  have s2 := H0.out.b4.cell (v := .int .i64 gy) 2 rfl
  have s3 := H0.out.b4.cell (v := .int .i64 t) 3 rfl
  have s4 := H0.out.b4.cell (v := .slice a n cap) 4 rfl
  have s5 := H0.out.b4.cell (v := .int .i64 ack) 5 rfl
  have s6 := H0.out.b4.cell (v := .slice pa pn pc) 6 rfl
  have ls := H0.out.b4.lt
  have p0 := H0.out.b5.cell (v := .int .i64 bt) 0 rfl
  have p1 := H0.out.b5.cell (v := .slice ba bn bc) 1 rfl
  have ltp := H0.out.b5.lt
  go_wp2_with fail
  refine (RV.out _ H0.out.bel).mono ?_
  rintro e V4 ⟨ra, rn, rc, rpa, rpn, rpc, rfl, ⟨hEr, hPr⟩, hb1⟩
  replace H0 := Lib.hid (H0.out.below hb1)
  replace HV3 := Lib.hid (And.intro (HV3.out.1.below hb1) (EntsAt.below HV3.out.2 hb1))
  have HR4 := Lib.hid (And.intro hEr hPr)
  clear hb1 RV hEr hPr p0 p1 ltp s0 s1 s2 s3 s4 s5 s6 ls
  unfold Cv ccs
  try simp only
  go_upto_region 7 with fail
  refine wp_name (fun V => HI w #[.int .i64 id, .int .i64 gx, .int .i64 gy, .int .i64 t, .slice a n cap, .int .i64 ack, .slice pa pn pc] bt ba bn bc V ∧ (Bk V g10 #[.int .i64 vt, .slice va vn vc] 26 ∧ EntsAt V (.slice va vn vc) ves) ∧ Bk V V4.heap.size #[.int .i64 rid, .int .i64 rgx, .int .i64 rgy, .int .i64 rt, .slice ra rn rc, .int .i64 rack, .slice rpa rpn rpc] 29 ∧ EntsAt V (.slice ra rn rc) res ∧ InpsAt V (.slice rpa rpn rpc) rp) ⟨H0.out.below ((Below.refl _ _).alloc (Nat.le_refl _) _), ⟨HV3.out.1.alloc _, EntsAt.below HV3.out.2 ((Below.refl _ _).alloc (Nat.le_refl _) _)⟩, Bk.made _ _ _, EntsAt.below HR4.out.1 ((Below.refl _ _).alloc (Nat.le_refl _) _), InpsAt.below HR4.out.2 ((Below.refl _ _).alloc (Nat.le_refl _) _)⟩ ?_
  obtain ⟨g12, hg12⟩ : ∃ g, V4.heap.size = g := ⟨_, rfl⟩
  rw [hg12]
  clear hg12 H0 HV3 HR4
  rintro V5 ⟨hI5, hV5, B12, hE5, hP5⟩
  have H0 := Lib.hid hI5
  have HV3 := Lib.hid hV5
  have HR4 := Lib.hid (And.intro hE5 hP5)
  clear hI5 hV5 hE5 hP5
  have z0 := B12.cell (v := .int .i64 rid) 0 rfl
  have z1 := B12.cell (v := .int .i64 rgx) 1 rfl
  have z2 := B12.cell (v := .int .i64 rgy) 2 rfl
  have z3 := B12.cell (v := .int .i64 rt) 3 rfl
  have z4 := B12.cell (v := .slice ra rn rc) 4 rfl
  have z5 := B12.cell (v := .int .i64 rack) 5 rfl
  have z6 := B12.cell (v := .slice rpa rpn rpc) 6 rfl
  have lz := B12.lt
  go_wp2_with fail
  refine (VN.out _ H0.out.bel _ _ _ _ _ _ HR4.out.1 HR4.out.2).mono ?_
  rintro e V6 ⟨na, nn, nc, rfl, hFn, hb1⟩
  replace H0 := Lib.hid (H0.out.below hb1)
  replace HV3 := Lib.hid (And.intro (HV3.out.1.below hb1) (EntsAt.below HV3.out.2 hb1))
  have HN6 := Lib.hid hFn.ents
  clear hb1 VN hFn HR4 B12 z0 z1 z2 z3 z4 z5 z6 lz
  try simp only
  go_upto_region 10 with fail
  refine wp_name (fun V => HI w #[.int .i64 id, .int .i64 gx, .int .i64 gy, .int .i64 t, .slice a n cap, .int .i64 ack, .slice pa pn pc] bt ba bn bc V ∧ (Bk V g10 #[.int .i64 vt, .slice va vn vc] 26 ∧ EntsAt V (.slice va vn vc) ves) ∧ Bk V V6.heap.size #[.int .i64 nt, .slice na nn nc] 26 ∧ EntsAt V (.slice na nn nc) nes) ⟨H0.out.below ((Below.refl _ _).alloc (Nat.le_refl _) _), ⟨HV3.out.1.alloc _, EntsAt.below HV3.out.2 ((Below.refl _ _).alloc (Nat.le_refl _) _)⟩, Bk.made _ _ _, EntsAt.below HN6.out ((Below.refl _ _).alloc (Nat.le_refl _) _)⟩ ?_
  obtain ⟨g13, hg13⟩ : ∃ g, V6.heap.size = g := ⟨_, rfl⟩
  rw [hg13]
  clear hg13 H0 HV3 HN6
  rintro V7 ⟨hI7, hV7, B13, hN7⟩
  have H0 := Lib.hid hI7
  have HV3 := Lib.hid hV7
  have HN7 := Lib.hid hN7
  clear hI7 hV7 hN7
  have z0 := B13.cell (v := .int .i64 nt) 0 rfl
  have z1 := B13.cell (v := .slice na nn nc) 1 rfl
  have lz := B13.lt
  have G1 := Lib.hid (GV.out V7 H0.out.bel ⟨nt, nes⟩ na nn nc HN7.out HVA.out.1)
  rw [HG1.out] at G1
  unfold Wv C at G1
  simp only at G1
  go_wp2_with fail
  refine G1.out.mono ?_
  rintro e V8 ⟨rfl, hb1⟩
  replace H0 := Lib.hid (H0.out.below hb1)
  replace HV3 := Lib.hid (And.intro (HV3.out.1.below hb1) (EntsAt.below HV3.out.2 hb1))
  clear hb1 G1 B13 z0 z1 lz HN7
  go_upto_region 13 with fail
  refine wp_name (fun V => HI w #[.int .i64 id, .int .i64 gx, .int .i64 gy, .int .i64 t, .slice a n cap, .int .i64 ack, .slice pa pn pc] bt ba bn bc V ∧ (Bk V g10 #[.int .i64 vt, .slice va vn vc] 26 ∧ EntsAt V (.slice va vn vc) ves) ∧ Bk V V8.heap.size #[.int .u8 pp.k, .int .i64 pp.a, .int .i64 pp.b, .int .i64 pp.c, .int .i64 pp.d] 48) ⟨H0.out.below ((Below.refl _ _).alloc (Nat.le_refl _) _), ⟨HV3.out.1.alloc _, EntsAt.below HV3.out.2 ((Below.refl _ _).alloc (Nat.le_refl _) _)⟩, Bk.made _ _ _⟩ ?_
  obtain ⟨g14, hg14⟩ : ∃ g, V8.heap.size = g := ⟨_, rfl⟩
  rw [hg14]
  clear hg14 H0 HV3
  rintro V9 ⟨hI9, hV9, B14⟩
  have H0 := Lib.hid hI9
  have HV3 := Lib.hid hV9
  clear hI9 hV9
  have z0 := HV3.out.1.cell (v := .int .i64 vt) 0 rfl
  have z1 := HV3.out.1.cell (v := .slice va vn vc) 1 rfl
  have lz := HV3.out.1.lt
  have G2 := Lib.hid (GV.out V9 H0.out.bel ⟨vt, ves⟩ va vn vc HV3.out.2 HVA.out.2)
  rw [HG2.out] at G2
  unfold Wv C at G2
  simp only at G2
  go_wp2_with fail
  refine G2.out.mono ?_
  rintro e V10 ⟨rfl, hb1⟩
  replace H0 := Lib.hid (H0.out.below hb1)
  replace B14 := B14.below hb1
  clear hb1 G2 z0 z1 lz HV3 GV HVA
  go_upto_region 14 with fail
  refine wp_name (fun V => HI w #[.int .i64 id, .int .i64 gx, .int .i64 gy, .int .i64 t, .slice a n cap, .int .i64 ack, .slice pa pn pc] bt ba bn bc V ∧ Bk V g14 #[.int .u8 pp.k, .int .i64 pp.a, .int .i64 pp.b, .int .i64 pp.c, .int .i64 pp.d] 48 ∧ Bk V V10.heap.size #[.int .u8 0, .int .i64 0, .int .i64 0, .int .i64 0, .int .i64 0] 48) ⟨H0.out.below ((Below.refl _ _).alloc (Nat.le_refl _) _), B14.alloc _, Bk.made _ _ _⟩ ?_
  obtain ⟨g16, hg16⟩ : ∃ g, V10.heap.size = g := ⟨_, rfl⟩
  rw [hg16]
  clear hg16 H0 B14
  rintro V11 ⟨hI11, B14, B16⟩
  have H0 := Lib.hid hI11
  clear hI11
  clear B14 B16
  have B8 := H0.out.b8
  have hb := H0.out.bel
  have q0 := B8.cell (v := .int .i64 0) 0 rfl
  have q1 := B8.cell (v := .int .i64 0) 1 rfl
  have f0 := B8.free 0
  have f1 := B8.free 1
  have lt := B8.lt
  have HX := Lib.hid (And.intro ((B8.put 0 (.int .i64 (0))).put 1 (.int .i64 (0))) ((hb.setCell (p := ⟨w.heap.size + 1 + 1, 0, none⟩) (by show w.heap.size ≤ w.heap.size + 1 + 1; omega) (.int .i64 (0))).setCell (p := ⟨w.heap.size + 1 + 1, 1, none⟩) (by show w.heap.size ≤ w.heap.size + 1 + 1; omega) (.int .i64 (0))))
  clear hb B8
  go_wp2
  refine post_name (fun V => Bk V (w.heap.size + 1 + 1) #[.int .i64 (0), .int .i64 (0)] 23 ∧ Below w.heap.size w V) HX.out ?_
  clear HX q0 q1 f0 f1 lt
  rintro V2' ⟨BV, hbV⟩
  have y0 := BV.cell (v := .int .i64 (0)) 0 rfl
  have y1 := BV.cell (v := .int .i64 (0)) 1 rfl
  exact bodyPost_ret (v := VE (0) (0) (6)) (by simp [VE, results, Tryz.results16, go_sem, y0, y1]; try rfl) rfl ⟨rfl, hbV⟩
set_option maxHeartbeats 8000000 in
theorem shift_8 (c : Cli) (b : Wld) (k i : Int) (a : Option Addr) (n cap : Nat) (pa : Option Addr) (pn pc : Nat) (ba : Option Addr) (bn bc : Nat) (w : World) (hR : RG w) (hM : RM w) (hw2 : 2 ≤ w.heap.size) (h : EntsAt w (.slice a n cap) c.b.es) (hp : InpsAt w (.slice pa pn pc) c.p) (hB : EntsAt w (.slice ba bn bc) b.es) (hx : I64s c.p) (hv : validC c = true) (hw : Valid b) (h3 : (viewR c).2 = 0) (h4 : (recvR c b k).2 = 0) (h5 : (viewR (recvR c b k).1).2 = 0) (pp qq : Cmp) (h6 : getM (viewR (recvR c b k).1).1 i 1 = some pp) (h7 : getM (viewR c).1 i 1 = some qq) :
    Calls Tryz.prog 16 #[Cv c a n cap pa pn pc, Wv b.t ba bn bc, .int .i64 k, .int .i64 i] w fun e w' => e = .returned (VE (pp.a - qq.a) (pp.b - qq.b) 0) ∧ Below w.heap.size w w' := by
  have VC := Lib.hid (fun V (hV : Below w.heap.size w V) => by have := cvalid_any c a n cap pa pn pc V (hR.below hV) (EntsAt.below h hV) (InpsAt.below hp hV); rw [hv] at this; exact this)
  have VB := Lib.hid (fun V (hV : Below w.heap.size w V) => by have := valid_any b ba bn bc V (hR.below hV) (EntsAt.below hB hV); rw [decide_eq_true hw] at this; exact this)
  have VW := Lib.hid (fun V (hV : Below w.heap.size w V) => view_any c a n cap pa pn pc V (hR.below hV) (hM.low hV hw2) (Nat.le_trans hw2 hV.size) (EntsAt.below h hV) (InpsAt.below hp hV) hx)
  have RV := Lib.hid (fun V (hV : Below w.heap.size w V) => recv_any c b k a n cap pa pn pc ba bn bc V (hR.below hV) (EntsAt.below h hV) (InpsAt.below hp hV) (EntsAt.below hB hV))
  have VN := Lib.hid (fun V (hV : Below w.heap.size w V) a n cap pa pn pc hE hP => view_any (recvR c b k).1 a n cap pa pn pc V (hR.below hV) (hM.low hV hw2) (Nat.le_trans hw2 hV.size) hE hP (recv_I64s hx))
  have GV := Lib.hid (fun V (hV : Below w.heap.size w V) (W : Wld) a n c hE hVa => get_any W a n c i 1 V (hR.below hV) hE hVa)
  have hva1 : Valid (viewR (recvR c b k).1).1 := viewR_valid (by rw [← h5])
  have hva0 : Valid (viewR c).1 := viewR_valid (by rw [← h3])
  obtain ⟨v1, hv1⟩ : ∃ v, viewR c = v := ⟨_, rfl⟩
  rw [hv1] at h3 VW hva0 h7
  obtain ⟨r, hr⟩ : ∃ r, recvR c b k = r := ⟨_, rfl⟩
  rw [hr] at h4 RV VN h5 hva1 h6
  obtain ⟨v2, hv2⟩ : ∃ v, viewR r.1 = v := ⟨_, rfl⟩
  rw [hv2] at h5 VN hva1 h6
  obtain ⟨id, gx, gy, ⟨t, es⟩, ack, p⟩ := c
  obtain ⟨bt, bes⟩ := b
  obtain ⟨⟨vt, ves⟩, ve⟩ := v1
  obtain ⟨⟨rid, rgx, rgy, ⟨rt, res⟩, rack, rp⟩, re⟩ := r
  obtain ⟨⟨nt, nes⟩, ne⟩ := v2
  unfold Cv ccs at VC VW RV VN
  simp only at VC VB VW h3 RV h4 VN h5 hva1 hva0 h6 h7 ⊢
  subst h3
  subst h4
  subst h5
  have HVA := Lib.hid (And.intro hva1 hva0)
  have HG1 := Lib.hid (getV_some h6)
  have bp := get_bd hva1 h6
  have bq := get_bd hva0 h7
  have HG2 := Lib.hid (getV_some h7)
  obtain ⟨pk, px, py, pz, pu⟩ := pp
  obtain ⟨qk, qx, qy, qz, qu⟩ := qq
  simp only at bp bq HG1 HG2 ⊢
  have sx : sat (px - qx) = px - qx := sat_in _ (by omega) (by omega)
  have sy : sat (py - qy) = py - qy := sat_in _ (by omega) (by omega)
  have SB := Lib.hid (fun V => by have := vsub_any px py qx qy ⟨by omega, by omega⟩ ⟨by omega, by omega⟩ ⟨by omega, by omega⟩ ⟨by omega, by omega⟩ V; rw [sx, sy] at this; exact this)
  clear hR hM hw2 h hp hB hx hv hw hv1 hr hv2 hva1 hva0 h6 h7 bp bq sx sy
  unfold Cv ccs Wv
  simp only
  go_enter Tryz.func16, Tryz.ntmps16
  have H0 := Lib.hid (show HI w #[.int .i64 id, .int .i64 gx, .int .i64 gy, .int .i64 t, .slice a n cap, .int .i64 ack, .slice pa pn pc] bt ba bn bc (((w.alloc (.cells #[.int .i64 id, .int .i64 gx, .int .i64 gy, .int .i64 t, .slice a n cap, .int .i64 ack, .slice pa pn pc] 29)).alloc (.cells #[.int .i64 bt, .slice ba bn bc] 26)).alloc (.cells #[.int .i64 0, .int .i64 0] 23)) from ⟨((Bk.made _ _ _).alloc _).alloc _, (Bk.at_ (by simp)).alloc _, Bk.at_ (by simp), by go_grown⟩)
  go_wp2_with fail
  refine (VC.out _ H0.out.bel).mono ?_
  rintro e V1 ⟨rfl, hb1⟩
  replace H0 := Lib.hid (H0.out.below hb1)
  clear hb1 VC
  have p0 := H0.out.b5.cell (v := .int .i64 bt) 0 rfl
  have p1 := H0.out.b5.cell (v := .slice ba bn bc) 1 rfl
  have ltp := H0.out.b5.lt
  go_wp2_with fail
  refine (VB.out _ H0.out.bel).mono ?_
  rintro e V1b ⟨rfl, hb1⟩
  replace H0 := Lib.hid (H0.out.below hb1)
  clear hb1 VB p0 p1 ltp
  have s0 := H0.out.b4.cell (v := .int .i64 id) 0 rfl
  have s1 := H0.out.b4.cell (v := .int .i64 gx) 1 rfl
  have s2 := H0.out.b4.cell (v := .int .i64 gy) 2 rfl
  have s3 := H0.out.b4.cell (v := .int .i64 t) 3 rfl
  have s4 := H0.out.b4.cell (v := .slice a n cap) 4 rfl
  have s5 := H0.out.b4.cell (v := .int .i64 ack) 5 rfl
  have s6 := H0.out.b4.cell (v := .slice pa pn pc) 6 rfl
  have ls := H0.out.b4.lt
  go_wp2_with fail
  refine (VW.out _ H0.out.bel).mono ?_
  rintro e V2 ⟨va, vn, vc, rfl, hFv, hb1⟩
  replace H0 := Lib.hid (H0.out.below hb1)
  have HEV := Lib.hid hFv.ents
  clear hb1 VW hFv s0 s1 s2 s3 s4 s5 s6 ls
  try simp only
  go_upto_region 4 with fail
  refine wp_name (fun V => HI w #[.int .i64 id, .int .i64 gx, .int .i64 gy, .int .i64 t, .slice a n cap, .int .i64 ack, .slice pa pn pc] bt ba bn bc V ∧ Bk V V2.heap.size #[.int .i64 vt, .slice va vn vc] 26 ∧ EntsAt V (.slice va vn vc) ves) ⟨H0.out.below ((Below.refl _ _).alloc (Nat.le_refl _) _), Bk.made _ _ _, HEV.out.below ((Below.refl _ _).alloc (Nat.le_refl _) _)⟩ ?_
  obtain ⟨g10, hg10⟩ : ∃ g, V2.heap.size = g := ⟨_, rfl⟩
  rw [hg10]
  clear hg10 H0 HEV
  rintro V3 ⟨hI3, B10, hEV⟩
  have H0 := Lib.hid hI3
  have HV3 := Lib.hid (And.intro B10 hEV)
  clear hI3 B10 hEV
  have s0 := H0.out.b4.cell (v := .int .i64 id) 0 rfl
  have s1 := H0.out.b4.cell (v := .int .i64 gx) 1 rfl
  have s2 := H0.out.b4.cell (v := .int .i64 gy) 2 rfl
  have s3 := H0.out.b4.cell (v := .int .i64 t) 3 rfl
  have s4 := H0.out.b4.cell (v := .slice a n cap) 4 rfl
  have s5 := H0.out.b4.cell (v := .int .i64 ack) 5 rfl
  have s6 := H0.out.b4.cell (v := .slice pa pn pc) 6 rfl
  have ls := H0.out.b4.lt
  have p0 := H0.out.b5.cell (v := .int .i64 bt) 0 rfl
  have p1 := H0.out.b5.cell (v := .slice ba bn bc) 1 rfl
  have ltp := H0.out.b5.lt
  go_wp2_with fail
  refine (RV.out _ H0.out.bel).mono ?_
  rintro e V4 ⟨ra, rn, rc, rpa, rpn, rpc, rfl, ⟨hEr, hPr⟩, hb1⟩
  replace H0 := Lib.hid (H0.out.below hb1)
  replace HV3 := Lib.hid (And.intro (HV3.out.1.below hb1) (EntsAt.below HV3.out.2 hb1))
  have HR4 := Lib.hid (And.intro hEr hPr)
  clear hb1 RV hEr hPr p0 p1 ltp s0 s1 s2 s3 s4 s5 s6 ls
  unfold Cv ccs
  try simp only
  go_upto_region 7 with fail
  refine wp_name (fun V => HI w #[.int .i64 id, .int .i64 gx, .int .i64 gy, .int .i64 t, .slice a n cap, .int .i64 ack, .slice pa pn pc] bt ba bn bc V ∧ (Bk V g10 #[.int .i64 vt, .slice va vn vc] 26 ∧ EntsAt V (.slice va vn vc) ves) ∧ Bk V V4.heap.size #[.int .i64 rid, .int .i64 rgx, .int .i64 rgy, .int .i64 rt, .slice ra rn rc, .int .i64 rack, .slice rpa rpn rpc] 29 ∧ EntsAt V (.slice ra rn rc) res ∧ InpsAt V (.slice rpa rpn rpc) rp) ⟨H0.out.below ((Below.refl _ _).alloc (Nat.le_refl _) _), ⟨HV3.out.1.alloc _, EntsAt.below HV3.out.2 ((Below.refl _ _).alloc (Nat.le_refl _) _)⟩, Bk.made _ _ _, EntsAt.below HR4.out.1 ((Below.refl _ _).alloc (Nat.le_refl _) _), InpsAt.below HR4.out.2 ((Below.refl _ _).alloc (Nat.le_refl _) _)⟩ ?_
  obtain ⟨g12, hg12⟩ : ∃ g, V4.heap.size = g := ⟨_, rfl⟩
  rw [hg12]
  clear hg12 H0 HV3 HR4
  rintro V5 ⟨hI5, hV5, B12, hE5, hP5⟩
  have H0 := Lib.hid hI5
  have HV3 := Lib.hid hV5
  have HR4 := Lib.hid (And.intro hE5 hP5)
  clear hI5 hV5 hE5 hP5
  have z0 := B12.cell (v := .int .i64 rid) 0 rfl
  have z1 := B12.cell (v := .int .i64 rgx) 1 rfl
  have z2 := B12.cell (v := .int .i64 rgy) 2 rfl
  have z3 := B12.cell (v := .int .i64 rt) 3 rfl
  have z4 := B12.cell (v := .slice ra rn rc) 4 rfl
  have z5 := B12.cell (v := .int .i64 rack) 5 rfl
  have z6 := B12.cell (v := .slice rpa rpn rpc) 6 rfl
  have lz := B12.lt
  go_wp2_with fail
  refine (VN.out _ H0.out.bel _ _ _ _ _ _ HR4.out.1 HR4.out.2).mono ?_
  rintro e V6 ⟨na, nn, nc, rfl, hFn, hb1⟩
  replace H0 := Lib.hid (H0.out.below hb1)
  replace HV3 := Lib.hid (And.intro (HV3.out.1.below hb1) (EntsAt.below HV3.out.2 hb1))
  have HN6 := Lib.hid hFn.ents
  clear hb1 VN hFn HR4 B12 z0 z1 z2 z3 z4 z5 z6 lz
  try simp only
  go_upto_region 10 with fail
  refine wp_name (fun V => HI w #[.int .i64 id, .int .i64 gx, .int .i64 gy, .int .i64 t, .slice a n cap, .int .i64 ack, .slice pa pn pc] bt ba bn bc V ∧ (Bk V g10 #[.int .i64 vt, .slice va vn vc] 26 ∧ EntsAt V (.slice va vn vc) ves) ∧ Bk V V6.heap.size #[.int .i64 nt, .slice na nn nc] 26 ∧ EntsAt V (.slice na nn nc) nes) ⟨H0.out.below ((Below.refl _ _).alloc (Nat.le_refl _) _), ⟨HV3.out.1.alloc _, EntsAt.below HV3.out.2 ((Below.refl _ _).alloc (Nat.le_refl _) _)⟩, Bk.made _ _ _, EntsAt.below HN6.out ((Below.refl _ _).alloc (Nat.le_refl _) _)⟩ ?_
  obtain ⟨g13, hg13⟩ : ∃ g, V6.heap.size = g := ⟨_, rfl⟩
  rw [hg13]
  clear hg13 H0 HV3 HN6
  rintro V7 ⟨hI7, hV7, B13, hN7⟩
  have H0 := Lib.hid hI7
  have HV3 := Lib.hid hV7
  have HN7 := Lib.hid hN7
  clear hI7 hV7 hN7
  have z0 := B13.cell (v := .int .i64 nt) 0 rfl
  have z1 := B13.cell (v := .slice na nn nc) 1 rfl
  have lz := B13.lt
  have G1 := Lib.hid (GV.out V7 H0.out.bel ⟨nt, nes⟩ na nn nc HN7.out HVA.out.1)
  rw [HG1.out] at G1
  unfold Wv C at G1
  simp only at G1
  go_wp2_with fail
  refine G1.out.mono ?_
  rintro e V8 ⟨rfl, hb1⟩
  replace H0 := Lib.hid (H0.out.below hb1)
  replace HV3 := Lib.hid (And.intro (HV3.out.1.below hb1) (EntsAt.below HV3.out.2 hb1))
  clear hb1 G1 B13 z0 z1 lz HN7
  go_upto_region 13 with fail
  refine wp_name (fun V => HI w #[.int .i64 id, .int .i64 gx, .int .i64 gy, .int .i64 t, .slice a n cap, .int .i64 ack, .slice pa pn pc] bt ba bn bc V ∧ (Bk V g10 #[.int .i64 vt, .slice va vn vc] 26 ∧ EntsAt V (.slice va vn vc) ves) ∧ Bk V V8.heap.size #[.int .u8 pk, .int .i64 px, .int .i64 py, .int .i64 pz, .int .i64 pu] 48) ⟨H0.out.below ((Below.refl _ _).alloc (Nat.le_refl _) _), ⟨HV3.out.1.alloc _, EntsAt.below HV3.out.2 ((Below.refl _ _).alloc (Nat.le_refl _) _)⟩, Bk.made _ _ _⟩ ?_
  obtain ⟨g14, hg14⟩ : ∃ g, V8.heap.size = g := ⟨_, rfl⟩
  rw [hg14]
  clear hg14 H0 HV3
  rintro V9 ⟨hI9, hV9, B14⟩
  have H0 := Lib.hid hI9
  have HV3 := Lib.hid hV9
  clear hI9 hV9
  have z0 := HV3.out.1.cell (v := .int .i64 vt) 0 rfl
  have z1 := HV3.out.1.cell (v := .slice va vn vc) 1 rfl
  have lz := HV3.out.1.lt
  have G2 := Lib.hid (GV.out V9 H0.out.bel ⟨vt, ves⟩ va vn vc HV3.out.2 HVA.out.2)
  rw [HG2.out] at G2
  unfold Wv C at G2
  simp only at G2
  go_wp2_with fail
  refine G2.out.mono ?_
  rintro e V10 ⟨rfl, hb1⟩
  replace H0 := Lib.hid (H0.out.below hb1)
  replace B14 := B14.below hb1
  clear hb1 G2 z0 z1 lz HV3 GV HVA
  go_upto_region 14 with fail
  refine wp_name (fun V => HI w #[.int .i64 id, .int .i64 gx, .int .i64 gy, .int .i64 t, .slice a n cap, .int .i64 ack, .slice pa pn pc] bt ba bn bc V ∧ Bk V g14 #[.int .u8 pk, .int .i64 px, .int .i64 py, .int .i64 pz, .int .i64 pu] 48 ∧ Bk V V10.heap.size #[.int .u8 qk, .int .i64 qx, .int .i64 qy, .int .i64 qz, .int .i64 qu] 48) ⟨H0.out.below ((Below.refl _ _).alloc (Nat.le_refl _) _), B14.alloc _, Bk.made _ _ _⟩ ?_
  obtain ⟨g16, hg16⟩ : ∃ g, V10.heap.size = g := ⟨_, rfl⟩
  rw [hg16]
  clear hg16 H0 B14
  rintro V11 ⟨hI11, B14, B16⟩
  have H0 := Lib.hid hI11
  clear hI11
  have p1 := B14.cell (v := .int .i64 px) 1 rfl
  have p2 : V11.cell? ⟨g14, 1 + 1, none⟩ = some (.int .i64 py) := B14.cell 2 rfl
  have p2' : V11.cell? ⟨g14, 2, none⟩ = some (.int .i64 py) := p2
  have q1 := B16.cell (v := .int .i64 qx) 1 rfl
  have q2 : V11.cell? ⟨g16, 1 + 1, none⟩ = some (.int .i64 qy) := B16.cell 2 rfl
  have q2' : V11.cell? ⟨g16, 2, none⟩ = some (.int .i64 qy) := q2
  have l14 := B14.lt
  have l16 := B16.lt
  clear B14 B16
  go_wp2_with fail
  refine (SB.out _).mono ?_
  rintro e V12 ⟨rfl, hb1⟩
  replace H0 := Lib.hid (H0.out.below hb1)
  clear hb1 SB p1 p2 p2' q1 q2 q2' l14 l16
  obtain ⟨ox, hox⟩ : ∃ o, px - qx = o := ⟨_, rfl⟩
  obtain ⟨oy, hoy⟩ : ∃ o, py - qy = o := ⟨_, rfl⟩
  rw [hox, hoy]
  have HO := Lib.hid (And.intro hox hoy)
  clear hox hoy
  have B8 := H0.out.b8
  have hb := H0.out.bel
  have q0 := B8.cell (v := .int .i64 0) 0 rfl
  have q1 := B8.cell (v := .int .i64 0) 1 rfl
  have f0 := B8.free 0
  have f1 := B8.free 1
  have lt := B8.lt
  have HX := Lib.hid (And.intro ((B8.put 0 (.int .i64 (ox))).put 1 (.int .i64 (oy))) ((hb.setCell (p := ⟨w.heap.size + 1 + 1, 0, none⟩) (by show w.heap.size ≤ w.heap.size + 1 + 1; omega) (.int .i64 (ox))).setCell (p := ⟨w.heap.size + 1 + 1, 1, none⟩) (by show w.heap.size ≤ w.heap.size + 1 + 1; omega) (.int .i64 (oy))))
  clear hb B8
  go_wp2
  refine post_name (fun V => Bk V (w.heap.size + 1 + 1) #[.int .i64 (ox), .int .i64 (oy)] 23 ∧ Below w.heap.size w V) HX.out ?_
  clear HX q0 q1 f0 f1 lt
  rintro V2' ⟨BV, hbV⟩
  have y0 := BV.cell (v := .int .i64 (ox)) 0 rfl
  have y1 := BV.cell (v := .int .i64 (oy)) 1 rfl
  exact bodyPost_ret (v := VE (ox) (oy) (0)) (by simp [VE, results, Tryz.results16, go_sem, y0, y1]; try rfl) rfl ⟨by rw [HO.out.1, HO.out.2], hbV⟩
theorem shift_any (c : Cli) (b : Wld) (k i : Int) (a : Option Addr) (n cap : Nat) (pa : Option Addr) (pn pc : Nat) (ba : Option Addr) (bn bc : Nat) (w : World) (hR : RG w) (hM : RM w) (hw2 : 2 ≤ w.heap.size) (h : EntsAt w (.slice a n cap) c.b.es) (hp : InpsAt w (.slice pa pn pc) c.p) (hB : EntsAt w (.slice ba bn bc) b.es) (hx : I64s c.p) :
    Calls Tryz.prog 16 #[Cv c a n cap pa pn pc, Wv b.t ba bn bc, .int .i64 k, .int .i64 i] w fun e w' => e = .returned (VE (shiftR c b k i).1.1 (shiftR c b k i).1.2 (shiftR c b k i).2) ∧ Below w.heap.size w w' := by
  unfold shiftR
  rcases hv : validC c with _ | _
  · rw [if_neg (by simp)]
    exact shift_1 c b k i a n cap pa pn pc ba bn bc w hR hM hw2 h hp hB hx hv
  by_cases hw : Valid b
  · rw [if_pos ⟨rfl, hw⟩]
    by_cases h3 : (viewR c).2 = 0
    · rw [if_pos h3]
      by_cases h4 : (recvR c b k).2 = 0
      · rw [if_pos h4]
        by_cases h5 : (viewR (recvR c b k).1).2 = 0
        · rw [if_pos h5]
          rcases h6 : getM (viewR (recvR c b k).1).1 i 1 with _ | pp
          · exact shift_6 c b k i a n cap pa pn pc ba bn bc w hR hM hw2 h hp hB hx hv hw h3 h4 h5 h6
          · rcases h7 : getM (viewR c).1 i 1 with _ | qq
            · exact shift_7 c b k i a n cap pa pn pc ba bn bc w hR hM hw2 h hp hB hx hv hw h3 h4 h5 pp h6 h7
            · exact shift_8 c b k i a n cap pa pn pc ba bn bc w hR hM hw2 h hp hB hx hv hw h3 h4 h5 pp qq h6 h7
        · rw [if_neg h5]
          exact shift_5 c b k i a n cap pa pn pc ba bn bc w hR hM hw2 h hp hB hx hv hw h3 h4 h5
      · rw [if_neg h4]
        exact shift_4 c b k i a n cap pa pn pc ba bn bc w hR hM hw2 h hp hB hx hv hw h3 h4
    · rw [if_neg h3]
      exact shift_3 c b k i a n cap pa pn pc ba bn bc w hR hM hw2 h hp hB hx hv hw h3
  · rw [if_neg (fun q => hw q.2)]
    exact shift_2 c b k i a n cap pa pn pc ba bn bc w hR hM hw2 h hp hB hx hv hw
end Go.Proofs.YtlcjkomfjgddeaaGreatDoor
