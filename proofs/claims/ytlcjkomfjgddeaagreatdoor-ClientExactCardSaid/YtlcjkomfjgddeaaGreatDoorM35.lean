/- client.Receive. -/
import Derived.Test.YtlcjkomfjgddeaaGreatDoorM34
set_option linter.unusedVariables false
set_option linter.unusedSimpArgs false
namespace Go.Proofs.YtlcjkomfjgddeaaGreatDoor
open Go Go.RowKit Go.Sort
set_option maxRecDepth 100000
attribute [local go_sem] opLow opUpon opLow2 opUpon2

def cli0 : Cli := ⟨0, 0, 0, ⟨0, []⟩, 0, []⟩
/-- client.Push as plain data -/
def pushR (c : Cli) (x : Inp) : Cli × Int := if pushB c x = true then (if c.p.length < 64 then (⟨c.id, c.gx, c.gy, c.b, c.ack, c.p ++ [x]⟩, 0) else (cli0, 4)) else (cli0, 2)
/-- client.Receive as plain data -/
def recvR (c : Cli) (b : Wld) (k : Int) : Cli × Int := if validC c = true ∧ Valid b then (if b.t < c.b.t ∨ k < c.ack then (cli0, 270) else (⟨c.id, c.gx, c.gy, b, k, c.p.filter (leftB k)⟩, 0)) else (cli0, 2)
/-- a client and an error -/
def CEPost (w : World) (r : Cli × Int) (e : Ending) (w' : World) : Prop :=
  ∃ a n cap pa pn pc, e = .returned (.tuple #[Cv r.1 a n cap pa pn pc, .int .i64 r.2]) ∧ (EntsAt w' (.slice a n cap) r.1.b.es ∧ InpsAt w' (.slice pa pn pc) r.1.p) ∧ Below w.heap.size w w'
theorem ents_nil (w : World) : EntsAt w (.slice none 0 0) [] := .inl ⟨⟨_, rfl⟩, rfl⟩
def CFPost (w : World) (r : Cli × Int) (e : Ending) (w' : World) : Prop :=
  ∃ a n cap pa pn pc, e = .returned (.tuple #[Cv r.1 a n cap pa pn pc, .int .i64 r.2]) ∧ (Fresh w.heap.size w' (.slice a n cap) r.1.b.es ∧ RowI w.heap.size w' (.slice pa pn pc) r.1.p) ∧ Below w.heap.size w w'
theorem CFPost.ce {w : World} {r : Cli × Int} {e : Ending} {w' : World} (h : CFPost w r e w') : CEPost w r e w' := by
  obtain ⟨a, n, cap, pa, pn, pc, he, hf, hb⟩ := h
  exact ⟨a, n, cap, pa, pn, pc, he, ⟨hf.1.ents, hf.2.inps⟩, hb⟩
theorem cf_zero {w : World} {k : Int} {e : Ending} {w' : World} (h : e = .returned (.tuple #[Cz, .int .i64 k]) ∧ Below w.heap.size w w') : CFPost w (cli0, k) e w' :=
  ⟨_, _, _, _, _, _, h.1, ⟨Fresh.nil _ _, ⟨World.ownsRow_nil _ _ _ _, by simp [cli0]⟩⟩, h.2⟩
/-- the blocks of the parameters, and the result's -/
structure RI (w : World) (A1 : Array Value) (bt : Int) (ba : Option Addr) (bn bc : Nat) (k : Int) (V : World) : Prop where
  b3 : Bk V w.heap.size A1 29
  b4 : Bk V (w.heap.size + 1) #[.int .i64 bt, .slice ba bn bc] 26
  b5 : Bk V (w.heap.size + 1 + 1) #[.int .i64 k] 3
  b6 : Bk V (w.heap.size + 1 + 1 + 1) #[.int .i64 0, .int .i64 0, .int .i64 0, .int .i64 0, .slice none 0 0, .int .i64 0, .slice none 0 0] 29
  bel : Below w.heap.size w V
theorem RI.below {w : World} {A1 : Array Value} {bt : Int} {ba : Option Addr} {bn bc : Nat} {k : Int} {V V' : World} (h : RI w A1 bt ba bn bc k V) (hb : Below V.heap.size V V') : RI w A1 bt ba bn bc k V' :=
  ⟨h.b3.below hb, h.b4.below hb, h.b5.below hb, h.b6.below hb, (below_cc hb h.bel).1⟩
set_option maxHeartbeats 4000000 in
theorem recv_bad1 (c : Cli) (b : Wld) (k : Int) (a : Option Addr) (n cap : Nat) (pa : Option Addr) (pn pc : Nat) (ba : Option Addr) (bn bc : Nat) (w : World) (hR : RG w) (h : EntsAt w (.slice a n cap) c.b.es) (hp : InpsAt w (.slice pa pn pc) c.p) (hB : EntsAt w (.slice ba bn bc) b.es) (hv : validC c = false) :
    Calls Tryz.prog 15 #[Cv c a n cap pa pn pc, Wv b.t ba bn bc, .int .i64 k] w fun e w' => e = .returned (.tuple #[Cz, .int .i64 2]) ∧ Below w.heap.size w w' := by
  have VC := Lib.hid (fun V (hV : Below w.heap.size w V) => by have := cvalid_any c a n cap pa pn pc V (hR.below hV) (EntsAt.below h hV) (InpsAt.below hp hV); rw [hv] at this; exact this)
  obtain ⟨id, gx, gy, ⟨t, es⟩, ack, p⟩ := c
  obtain ⟨bt, bes⟩ := b
  unfold Cv ccs at VC
  simp only at VC 
  clear hR h hp hB hv
  unfold Cv ccs Wv
  simp only
  go_enter Tryz.func15, Tryz.ntmps15
  have hI0 : RI w #[.int .i64 id, .int .i64 gx, .int .i64 gy, .int .i64 t, .slice a n cap, .int .i64 ack, .slice pa pn pc] bt ba bn bc k ((((w.alloc (.cells #[.int .i64 id, .int .i64 gx, .int .i64 gy, .int .i64 t, .slice a n cap, .int .i64 ack, .slice pa pn pc] 29)).alloc (.cells #[.int .i64 bt, .slice ba bn bc] 26)).alloc (.cells #[.int .i64 k] 3)).alloc (.cells #[.int .i64 0, .int .i64 0, .int .i64 0, .int .i64 0, .slice none 0 0, .int .i64 0, .slice none 0 0] 29)) := ⟨(((Bk.made _ _ _).alloc _).alloc _).alloc _, ((Bk.at_ (by simp)).alloc _).alloc _, (Bk.at_ (by simp)).alloc _, Bk.at_ (by simp), by go_grown⟩
  have HI := Lib.hid hI0
  clear hI0
  go_wp2_with fail
  refine (VC.out _ HI.out.bel).mono ?_
  rintro e V1 ⟨rfl, hb1⟩
  replace HI := Lib.hid (HI.out.below hb1)
  clear hb1 VC
  have B6 := HI.out.b6
  have hb := HI.out.bel
  have r0 := B6.cell (v := .int .i64 0) 0 rfl
  have r1 := B6.cell (v := .int .i64 0) 1 rfl
  have r2 := B6.cell (v := .int .i64 0) 2 rfl
  have r3 := B6.cell (v := .int .i64 0) 3 rfl
  have r4 := B6.cell (v := .slice none 0 0) 4 rfl
  have r5 := B6.cell (v := .int .i64 0) 5 rfl
  have r6 := B6.cell (v := .slice none 0 0) 6 rfl
  have f0 := B6.free 0
  have f1 := B6.free 1
  have f2 := B6.free 2
  have f3 := B6.free 3
  have f4 := B6.free 4
  have f5 := B6.free 5
  have f6 := B6.free 6
  have lt := B6.lt
  have E0 := B6.put 0 (.int .i64 0)
  have E1 := E0.put 1 (.int .i64 0)
  have E2 := E1.put 2 (.int .i64 0)
  have E3 := E2.put 3 (.int .i64 0)
  have E4 := E3.put 4 (.slice none 0 0)
  have E5 := E4.put 5 (.int .i64 0)
  have E6 := E5.put 6 (.slice none 0 0)
  have HX := Lib.hid (And.intro E6 (((((((hb.setCell (p := ⟨w.heap.size + 1 + 1 + 1, 0, none⟩) (by show w.heap.size ≤ w.heap.size + 1 + 1 + 1; omega) (.int .i64 0)).setCell (p := ⟨w.heap.size + 1 + 1 + 1, 1, none⟩) (by show w.heap.size ≤ w.heap.size + 1 + 1 + 1; omega) (.int .i64 0)).setCell (p := ⟨w.heap.size + 1 + 1 + 1, 2, none⟩) (by show w.heap.size ≤ w.heap.size + 1 + 1 + 1; omega) (.int .i64 0)).setCell (p := ⟨w.heap.size + 1 + 1 + 1, 3, none⟩) (by show w.heap.size ≤ w.heap.size + 1 + 1 + 1; omega) (.int .i64 0)).setCell (p := ⟨w.heap.size + 1 + 1 + 1, 4, none⟩) (by show w.heap.size ≤ w.heap.size + 1 + 1 + 1; omega) (.slice none 0 0)).setCell (p := ⟨w.heap.size + 1 + 1 + 1, 5, none⟩) (by show w.heap.size ≤ w.heap.size + 1 + 1 + 1; omega) (.int .i64 0)).setCell (p := ⟨w.heap.size + 1 + 1 + 1, 6, none⟩) (by show w.heap.size ≤ w.heap.size + 1 + 1 + 1; omega) (.slice none 0 0)))
  clear E0 E1 E2 E3 E4 E5 E6 hb B6
  go_wp2
  refine post_name (fun V => Bk V (w.heap.size + 1 + 1 + 1) #[.int .i64 0, .int .i64 0, .int .i64 0, .int .i64 0, .slice none 0 0, .int .i64 0, .slice none 0 0] 29 ∧ Below w.heap.size w V) HX.out ?_
  clear HX r0 f0 r1 f1 r2 f2 r3 f3 r4 f4 r5 f5 r6 f6 lt
  rintro V2' ⟨BV, hbV⟩
  have y0 := BV.cell (v := .int .i64 0) 0 rfl
  have y1 := BV.cell (v := .int .i64 0) 1 rfl
  have y2 := BV.cell (v := .int .i64 0) 2 rfl
  have y3 := BV.cell (v := .int .i64 0) 3 rfl
  have y4 := BV.cell (v := .slice none 0 0) 4 rfl
  have y5 := BV.cell (v := .int .i64 0) 5 rfl
  have y6 := BV.cell (v := .slice none 0 0) 6 rfl
  exact bodyPost_ret (v := .tuple #[Cz, .int .i64 2]) (by simp [results, Tryz.results15, go_sem, y0, y1, y2, y3, y4, y5, y6]; try rfl) rfl ⟨rfl, hbV⟩
set_option maxHeartbeats 4000000 in
theorem recv_bad2 (c : Cli) (b : Wld) (k : Int) (a : Option Addr) (n cap : Nat) (pa : Option Addr) (pn pc : Nat) (ba : Option Addr) (bn bc : Nat) (w : World) (hR : RG w) (h : EntsAt w (.slice a n cap) c.b.es) (hp : InpsAt w (.slice pa pn pc) c.p) (hB : EntsAt w (.slice ba bn bc) b.es) (hv : validC c = true) (hw : ¬ Valid b) :
    Calls Tryz.prog 15 #[Cv c a n cap pa pn pc, Wv b.t ba bn bc, .int .i64 k] w fun e w' => e = .returned (.tuple #[Cz, .int .i64 2]) ∧ Below w.heap.size w w' := by
  have VC := Lib.hid (fun V (hV : Below w.heap.size w V) => by have := cvalid_any c a n cap pa pn pc V (hR.below hV) (EntsAt.below h hV) (InpsAt.below hp hV); rw [hv] at this; exact this)
  have VB := Lib.hid (fun V (hV : Below w.heap.size w V) => by have := valid_any b ba bn bc V (hR.below hV) (EntsAt.below hB hV); rw [decide_eq_false hw] at this; exact this)
  obtain ⟨id, gx, gy, ⟨t, es⟩, ack, p⟩ := c
  obtain ⟨bt, bes⟩ := b
  unfold Cv ccs at VC
  simp only at VC VB
  clear hR h hp hB hv hw
  unfold Cv ccs Wv
  simp only
  go_enter Tryz.func15, Tryz.ntmps15
  have hI0 : RI w #[.int .i64 id, .int .i64 gx, .int .i64 gy, .int .i64 t, .slice a n cap, .int .i64 ack, .slice pa pn pc] bt ba bn bc k ((((w.alloc (.cells #[.int .i64 id, .int .i64 gx, .int .i64 gy, .int .i64 t, .slice a n cap, .int .i64 ack, .slice pa pn pc] 29)).alloc (.cells #[.int .i64 bt, .slice ba bn bc] 26)).alloc (.cells #[.int .i64 k] 3)).alloc (.cells #[.int .i64 0, .int .i64 0, .int .i64 0, .int .i64 0, .slice none 0 0, .int .i64 0, .slice none 0 0] 29)) := ⟨(((Bk.made _ _ _).alloc _).alloc _).alloc _, ((Bk.at_ (by simp)).alloc _).alloc _, (Bk.at_ (by simp)).alloc _, Bk.at_ (by simp), by go_grown⟩
  have HI := Lib.hid hI0
  clear hI0
  go_wp2_with fail
  refine (VC.out _ HI.out.bel).mono ?_
  rintro e V1 ⟨rfl, hb1⟩
  replace HI := Lib.hid (HI.out.below hb1)
  clear hb1 VC
  have p0 := HI.out.b4.cell (v := .int .i64 bt) 0 rfl
  have p1 := HI.out.b4.cell (v := .slice ba bn bc) 1 rfl
  have ltp := HI.out.b4.lt
  go_wp2_with fail
  refine (VB.out _ HI.out.bel).mono ?_
  rintro e V1b ⟨rfl, hb1⟩
  replace HI := Lib.hid (HI.out.below hb1)
  clear hb1 VB p0 p1 ltp
  have B6 := HI.out.b6
  have hb := HI.out.bel
  have r0 := B6.cell (v := .int .i64 0) 0 rfl
  have r1 := B6.cell (v := .int .i64 0) 1 rfl
  have r2 := B6.cell (v := .int .i64 0) 2 rfl
  have r3 := B6.cell (v := .int .i64 0) 3 rfl
  have r4 := B6.cell (v := .slice none 0 0) 4 rfl
  have r5 := B6.cell (v := .int .i64 0) 5 rfl
  have r6 := B6.cell (v := .slice none 0 0) 6 rfl
  have f0 := B6.free 0
  have f1 := B6.free 1
  have f2 := B6.free 2
  have f3 := B6.free 3
  have f4 := B6.free 4
  have f5 := B6.free 5
  have f6 := B6.free 6
  have lt := B6.lt
  have E0 := B6.put 0 (.int .i64 0)
  have E1 := E0.put 1 (.int .i64 0)
  have E2 := E1.put 2 (.int .i64 0)
  have E3 := E2.put 3 (.int .i64 0)
  have E4 := E3.put 4 (.slice none 0 0)
  have E5 := E4.put 5 (.int .i64 0)
  have E6 := E5.put 6 (.slice none 0 0)
  have HX := Lib.hid (And.intro E6 (((((((hb.setCell (p := ⟨w.heap.size + 1 + 1 + 1, 0, none⟩) (by show w.heap.size ≤ w.heap.size + 1 + 1 + 1; omega) (.int .i64 0)).setCell (p := ⟨w.heap.size + 1 + 1 + 1, 1, none⟩) (by show w.heap.size ≤ w.heap.size + 1 + 1 + 1; omega) (.int .i64 0)).setCell (p := ⟨w.heap.size + 1 + 1 + 1, 2, none⟩) (by show w.heap.size ≤ w.heap.size + 1 + 1 + 1; omega) (.int .i64 0)).setCell (p := ⟨w.heap.size + 1 + 1 + 1, 3, none⟩) (by show w.heap.size ≤ w.heap.size + 1 + 1 + 1; omega) (.int .i64 0)).setCell (p := ⟨w.heap.size + 1 + 1 + 1, 4, none⟩) (by show w.heap.size ≤ w.heap.size + 1 + 1 + 1; omega) (.slice none 0 0)).setCell (p := ⟨w.heap.size + 1 + 1 + 1, 5, none⟩) (by show w.heap.size ≤ w.heap.size + 1 + 1 + 1; omega) (.int .i64 0)).setCell (p := ⟨w.heap.size + 1 + 1 + 1, 6, none⟩) (by show w.heap.size ≤ w.heap.size + 1 + 1 + 1; omega) (.slice none 0 0)))
  clear E0 E1 E2 E3 E4 E5 E6 hb B6
  go_wp2
  refine post_name (fun V => Bk V (w.heap.size + 1 + 1 + 1) #[.int .i64 0, .int .i64 0, .int .i64 0, .int .i64 0, .slice none 0 0, .int .i64 0, .slice none 0 0] 29 ∧ Below w.heap.size w V) HX.out ?_
  clear HX r0 f0 r1 f1 r2 f2 r3 f3 r4 f4 r5 f5 r6 f6 lt
  rintro V2' ⟨BV, hbV⟩
  have y0 := BV.cell (v := .int .i64 0) 0 rfl
  have y1 := BV.cell (v := .int .i64 0) 1 rfl
  have y2 := BV.cell (v := .int .i64 0) 2 rfl
  have y3 := BV.cell (v := .int .i64 0) 3 rfl
  have y4 := BV.cell (v := .slice none 0 0) 4 rfl
  have y5 := BV.cell (v := .int .i64 0) 5 rfl
  have y6 := BV.cell (v := .slice none 0 0) 6 rfl
  exact bodyPost_ret (v := .tuple #[Cz, .int .i64 2]) (by simp [results, Tryz.results15, go_sem, y0, y1, y2, y3, y4, y5, y6]; try rfl) rfl ⟨rfl, hbV⟩
set_option maxHeartbeats 4000000 in
theorem recv_old1 (c : Cli) (b : Wld) (k : Int) (a : Option Addr) (n cap : Nat) (pa : Option Addr) (pn pc : Nat) (ba : Option Addr) (bn bc : Nat) (w : World) (hR : RG w) (h : EntsAt w (.slice a n cap) c.b.es) (hp : InpsAt w (.slice pa pn pc) c.p) (hB : EntsAt w (.slice ba bn bc) b.es) (hv : validC c = true) (hw : Valid b) (ho : b.t < c.b.t) :
    Calls Tryz.prog 15 #[Cv c a n cap pa pn pc, Wv b.t ba bn bc, .int .i64 k] w fun e w' => e = .returned (.tuple #[Cz, .int .i64 270]) ∧ Below w.heap.size w w' := by
  have VC := Lib.hid (fun V (hV : Below w.heap.size w V) => by have := cvalid_any c a n cap pa pn pc V (hR.below hV) (EntsAt.below h hV) (InpsAt.below hp hV); rw [hv] at this; exact this)
  have VB := Lib.hid (fun V (hV : Below w.heap.size w V) => by have := valid_any b ba bn bc V (hR.below hV) (EntsAt.below hB hV); rw [decide_eq_true hw] at this; exact this)
  obtain ⟨id, gx, gy, ⟨t, es⟩, ack, p⟩ := c
  obtain ⟨bt, bes⟩ := b
  unfold Cv ccs at VC
  simp only at VC VB
  simp only at ho
  have d1 : decide (bt < t) = true := decide_eq_true ho
  clear hR h hp hB hv hw ho
  unfold Cv ccs Wv
  simp only
  go_enter Tryz.func15, Tryz.ntmps15
  have hI0 : RI w #[.int .i64 id, .int .i64 gx, .int .i64 gy, .int .i64 t, .slice a n cap, .int .i64 ack, .slice pa pn pc] bt ba bn bc k ((((w.alloc (.cells #[.int .i64 id, .int .i64 gx, .int .i64 gy, .int .i64 t, .slice a n cap, .int .i64 ack, .slice pa pn pc] 29)).alloc (.cells #[.int .i64 bt, .slice ba bn bc] 26)).alloc (.cells #[.int .i64 k] 3)).alloc (.cells #[.int .i64 0, .int .i64 0, .int .i64 0, .int .i64 0, .slice none 0 0, .int .i64 0, .slice none 0 0] 29)) := ⟨(((Bk.made _ _ _).alloc _).alloc _).alloc _, ((Bk.at_ (by simp)).alloc _).alloc _, (Bk.at_ (by simp)).alloc _, Bk.at_ (by simp), by go_grown⟩
  have HI := Lib.hid hI0
  clear hI0
  go_wp2_with fail
  refine (VC.out _ HI.out.bel).mono ?_
  rintro e V1 ⟨rfl, hb1⟩
  replace HI := Lib.hid (HI.out.below hb1)
  clear hb1 VC
  have p0 := HI.out.b4.cell (v := .int .i64 bt) 0 rfl
  have p1 := HI.out.b4.cell (v := .slice ba bn bc) 1 rfl
  have ltp := HI.out.b4.lt
  go_wp2_with fail
  refine (VB.out _ HI.out.bel).mono ?_
  rintro e V1b ⟨rfl, hb1⟩
  replace HI := Lib.hid (HI.out.below hb1)
  clear hb1 VB p0 p1 ltp
  have s3 := HI.out.b3.cell (v := .int .i64 t) 3 rfl
  have s5 := HI.out.b3.cell (v := .int .i64 ack) 5 rfl
  have t0 := HI.out.b4.cell (v := .int .i64 bt) 0 rfl
  have u0 := HI.out.b5.cell (v := .int .i64 k) 0 rfl
  have B6 := HI.out.b6
  have hb := HI.out.bel
  have r0 := B6.cell (v := .int .i64 0) 0 rfl
  have r1 := B6.cell (v := .int .i64 0) 1 rfl
  have r2 := B6.cell (v := .int .i64 0) 2 rfl
  have r3 := B6.cell (v := .int .i64 0) 3 rfl
  have r4 := B6.cell (v := .slice none 0 0) 4 rfl
  have r5 := B6.cell (v := .int .i64 0) 5 rfl
  have r6 := B6.cell (v := .slice none 0 0) 6 rfl
  have f0 := B6.free 0
  have f1 := B6.free 1
  have f2 := B6.free 2
  have f3 := B6.free 3
  have f4 := B6.free 4
  have f5 := B6.free 5
  have f6 := B6.free 6
  have lt := B6.lt
  have E0 := B6.put 0 (.int .i64 0)
  have E1 := E0.put 1 (.int .i64 0)
  have E2 := E1.put 2 (.int .i64 0)
  have E3 := E2.put 3 (.int .i64 0)
  have E4 := E3.put 4 (.slice none 0 0)
  have E5 := E4.put 5 (.int .i64 0)
  have E6 := E5.put 6 (.slice none 0 0)
  have HX := Lib.hid (And.intro E6 (((((((hb.setCell (p := ⟨w.heap.size + 1 + 1 + 1, 0, none⟩) (by show w.heap.size ≤ w.heap.size + 1 + 1 + 1; omega) (.int .i64 0)).setCell (p := ⟨w.heap.size + 1 + 1 + 1, 1, none⟩) (by show w.heap.size ≤ w.heap.size + 1 + 1 + 1; omega) (.int .i64 0)).setCell (p := ⟨w.heap.size + 1 + 1 + 1, 2, none⟩) (by show w.heap.size ≤ w.heap.size + 1 + 1 + 1; omega) (.int .i64 0)).setCell (p := ⟨w.heap.size + 1 + 1 + 1, 3, none⟩) (by show w.heap.size ≤ w.heap.size + 1 + 1 + 1; omega) (.int .i64 0)).setCell (p := ⟨w.heap.size + 1 + 1 + 1, 4, none⟩) (by show w.heap.size ≤ w.heap.size + 1 + 1 + 1; omega) (.slice none 0 0)).setCell (p := ⟨w.heap.size + 1 + 1 + 1, 5, none⟩) (by show w.heap.size ≤ w.heap.size + 1 + 1 + 1; omega) (.int .i64 0)).setCell (p := ⟨w.heap.size + 1 + 1 + 1, 6, none⟩) (by show w.heap.size ≤ w.heap.size + 1 + 1 + 1; omega) (.slice none 0 0)))
  clear E0 E1 E2 E3 E4 E5 E6 hb B6
  go_wp2
  refine post_name (fun V => Bk V (w.heap.size + 1 + 1 + 1) #[.int .i64 0, .int .i64 0, .int .i64 0, .int .i64 0, .slice none 0 0, .int .i64 0, .slice none 0 0] 29 ∧ Below w.heap.size w V) HX.out ?_
  clear HX r0 f0 r1 f1 r2 f2 r3 f3 r4 f4 r5 f5 r6 f6 lt
  rintro V2' ⟨BV, hbV⟩
  have y0 := BV.cell (v := .int .i64 0) 0 rfl
  have y1 := BV.cell (v := .int .i64 0) 1 rfl
  have y2 := BV.cell (v := .int .i64 0) 2 rfl
  have y3 := BV.cell (v := .int .i64 0) 3 rfl
  have y4 := BV.cell (v := .slice none 0 0) 4 rfl
  have y5 := BV.cell (v := .int .i64 0) 5 rfl
  have y6 := BV.cell (v := .slice none 0 0) 6 rfl
  exact bodyPost_ret (v := .tuple #[Cz, .int .i64 270]) (by simp [results, Tryz.results15, go_sem, y0, y1, y2, y3, y4, y5, y6]; try rfl) rfl ⟨rfl, hbV⟩
set_option maxHeartbeats 4000000 in
theorem recv_old2 (c : Cli) (b : Wld) (k : Int) (a : Option Addr) (n cap : Nat) (pa : Option Addr) (pn pc : Nat) (ba : Option Addr) (bn bc : Nat) (w : World) (hR : RG w) (h : EntsAt w (.slice a n cap) c.b.es) (hp : InpsAt w (.slice pa pn pc) c.p) (hB : EntsAt w (.slice ba bn bc) b.es) (hv : validC c = true) (hw : Valid b) (ho : ¬ b.t < c.b.t) (ho2 : k < c.ack) :
    Calls Tryz.prog 15 #[Cv c a n cap pa pn pc, Wv b.t ba bn bc, .int .i64 k] w fun e w' => e = .returned (.tuple #[Cz, .int .i64 270]) ∧ Below w.heap.size w w' := by
  have VC := Lib.hid (fun V (hV : Below w.heap.size w V) => by have := cvalid_any c a n cap pa pn pc V (hR.below hV) (EntsAt.below h hV) (InpsAt.below hp hV); rw [hv] at this; exact this)
  have VB := Lib.hid (fun V (hV : Below w.heap.size w V) => by have := valid_any b ba bn bc V (hR.below hV) (EntsAt.below hB hV); rw [decide_eq_true hw] at this; exact this)
  obtain ⟨id, gx, gy, ⟨t, es⟩, ack, p⟩ := c
  obtain ⟨bt, bes⟩ := b
  unfold Cv ccs at VC
  simp only at VC VB
  simp only at ho ho2
  have d1 : decide (bt < t) = false := decide_eq_false ho
  have d2 : decide (k < ack) = true := decide_eq_true ho2
  clear hR h hp hB hv hw ho ho2
  unfold Cv ccs Wv
  simp only
  go_enter Tryz.func15, Tryz.ntmps15
  have hI0 : RI w #[.int .i64 id, .int .i64 gx, .int .i64 gy, .int .i64 t, .slice a n cap, .int .i64 ack, .slice pa pn pc] bt ba bn bc k ((((w.alloc (.cells #[.int .i64 id, .int .i64 gx, .int .i64 gy, .int .i64 t, .slice a n cap, .int .i64 ack, .slice pa pn pc] 29)).alloc (.cells #[.int .i64 bt, .slice ba bn bc] 26)).alloc (.cells #[.int .i64 k] 3)).alloc (.cells #[.int .i64 0, .int .i64 0, .int .i64 0, .int .i64 0, .slice none 0 0, .int .i64 0, .slice none 0 0] 29)) := ⟨(((Bk.made _ _ _).alloc _).alloc _).alloc _, ((Bk.at_ (by simp)).alloc _).alloc _, (Bk.at_ (by simp)).alloc _, Bk.at_ (by simp), by go_grown⟩
  have HI := Lib.hid hI0
  clear hI0
  go_wp2_with fail
  refine (VC.out _ HI.out.bel).mono ?_
  rintro e V1 ⟨rfl, hb1⟩
  replace HI := Lib.hid (HI.out.below hb1)
  clear hb1 VC
  have p0 := HI.out.b4.cell (v := .int .i64 bt) 0 rfl
  have p1 := HI.out.b4.cell (v := .slice ba bn bc) 1 rfl
  have ltp := HI.out.b4.lt
  go_wp2_with fail
  refine (VB.out _ HI.out.bel).mono ?_
  rintro e V1b ⟨rfl, hb1⟩
  replace HI := Lib.hid (HI.out.below hb1)
  clear hb1 VB p0 p1 ltp
  have s3 := HI.out.b3.cell (v := .int .i64 t) 3 rfl
  have s5 := HI.out.b3.cell (v := .int .i64 ack) 5 rfl
  have t0 := HI.out.b4.cell (v := .int .i64 bt) 0 rfl
  have u0 := HI.out.b5.cell (v := .int .i64 k) 0 rfl
  have B6 := HI.out.b6
  have hb := HI.out.bel
  have r0 := B6.cell (v := .int .i64 0) 0 rfl
  have r1 := B6.cell (v := .int .i64 0) 1 rfl
  have r2 := B6.cell (v := .int .i64 0) 2 rfl
  have r3 := B6.cell (v := .int .i64 0) 3 rfl
  have r4 := B6.cell (v := .slice none 0 0) 4 rfl
  have r5 := B6.cell (v := .int .i64 0) 5 rfl
  have r6 := B6.cell (v := .slice none 0 0) 6 rfl
  have f0 := B6.free 0
  have f1 := B6.free 1
  have f2 := B6.free 2
  have f3 := B6.free 3
  have f4 := B6.free 4
  have f5 := B6.free 5
  have f6 := B6.free 6
  have lt := B6.lt
  have E0 := B6.put 0 (.int .i64 0)
  have E1 := E0.put 1 (.int .i64 0)
  have E2 := E1.put 2 (.int .i64 0)
  have E3 := E2.put 3 (.int .i64 0)
  have E4 := E3.put 4 (.slice none 0 0)
  have E5 := E4.put 5 (.int .i64 0)
  have E6 := E5.put 6 (.slice none 0 0)
  have HX := Lib.hid (And.intro E6 (((((((hb.setCell (p := ⟨w.heap.size + 1 + 1 + 1, 0, none⟩) (by show w.heap.size ≤ w.heap.size + 1 + 1 + 1; omega) (.int .i64 0)).setCell (p := ⟨w.heap.size + 1 + 1 + 1, 1, none⟩) (by show w.heap.size ≤ w.heap.size + 1 + 1 + 1; omega) (.int .i64 0)).setCell (p := ⟨w.heap.size + 1 + 1 + 1, 2, none⟩) (by show w.heap.size ≤ w.heap.size + 1 + 1 + 1; omega) (.int .i64 0)).setCell (p := ⟨w.heap.size + 1 + 1 + 1, 3, none⟩) (by show w.heap.size ≤ w.heap.size + 1 + 1 + 1; omega) (.int .i64 0)).setCell (p := ⟨w.heap.size + 1 + 1 + 1, 4, none⟩) (by show w.heap.size ≤ w.heap.size + 1 + 1 + 1; omega) (.slice none 0 0)).setCell (p := ⟨w.heap.size + 1 + 1 + 1, 5, none⟩) (by show w.heap.size ≤ w.heap.size + 1 + 1 + 1; omega) (.int .i64 0)).setCell (p := ⟨w.heap.size + 1 + 1 + 1, 6, none⟩) (by show w.heap.size ≤ w.heap.size + 1 + 1 + 1; omega) (.slice none 0 0)))
  clear E0 E1 E2 E3 E4 E5 E6 hb B6
  go_wp2
  refine post_name (fun V => Bk V (w.heap.size + 1 + 1 + 1) #[.int .i64 0, .int .i64 0, .int .i64 0, .int .i64 0, .slice none 0 0, .int .i64 0, .slice none 0 0] 29 ∧ Below w.heap.size w V) HX.out ?_
  clear HX r0 f0 r1 f1 r2 f2 r3 f3 r4 f4 r5 f5 r6 f6 lt
  rintro V2' ⟨BV, hbV⟩
  have y0 := BV.cell (v := .int .i64 0) 0 rfl
  have y1 := BV.cell (v := .int .i64 0) 1 rfl
  have y2 := BV.cell (v := .int .i64 0) 2 rfl
  have y3 := BV.cell (v := .int .i64 0) 3 rfl
  have y4 := BV.cell (v := .slice none 0 0) 4 rfl
  have y5 := BV.cell (v := .int .i64 0) 5 rfl
  have y6 := BV.cell (v := .slice none 0 0) 6 rfl
  exact bodyPost_ret (v := .tuple #[Cz, .int .i64 270]) (by simp [results, Tryz.results15, go_sem, y0, y1, y2, y3, y4, y5, y6]; try rfl) rfl ⟨rfl, hbV⟩
set_option maxHeartbeats 8000000 in
theorem recv_ok (c : Cli) (b : Wld) (k : Int) (a : Option Addr) (n cap : Nat) (pa : Option Addr) (pn pc : Nat) (ba : Option Addr) (bn bc : Nat) (w : World) (hR : RG w) (h : EntsAt w (.slice a n cap) c.b.es) (hp : InpsAt w (.slice pa pn pc) c.p) (hB : EntsAt w (.slice ba bn bc) b.es) (hv : validC c = true) (hw : Valid b) (ho : ¬ b.t < c.b.t) (ho2 : ¬ k < c.ack) :
    Calls Tryz.prog 15 #[Cv c a n cap pa pn pc, Wv b.t ba bn bc, .int .i64 k] w (CFPost w (⟨c.id, c.gx, c.gy, b, k, c.p.filter (leftB k)⟩, 0)) := by
  have hp64 : c.p.length ≤ 64 := by
    unfold validC at hv
    simp only [Bool.and_eq_true, decide_eq_true_eq] at hv
    exact hv.2.2.2.2.1
  have VC := Lib.hid (fun V (hV : Below w.heap.size w V) => by have := cvalid_any c a n cap pa pn pc V (hR.below hV) (EntsAt.below h hV) (InpsAt.below hp hV); rw [hv] at this; exact this)
  have VB := Lib.hid (fun V (hV : Below w.heap.size w V) => by have := valid_any b ba bn bc V (hR.below hV) (EntsAt.below hB hV); rw [decide_eq_true hw] at this; exact this)
  have CO := Lib.hid (fun V (hV : Below w.heap.size w V) => cown_any c a n cap pa pn pc V (EntsAt.below h hV) (InpsAt.below hp hV))
  have CP := Lib.hid (fun V (hV : Below w.heap.size w V) => ccopied_any b ba bn bc V (EntsAt.below hB hV))
  obtain ⟨id, gx, gy, ⟨t, es⟩, ack, p⟩ := c
  obtain ⟨bt, bes⟩ := b
  unfold Cv ccs at VC
  simp only at VC VB
  unfold Cv ccs at CO
  unfold Wv at CP
  simp only at CO CP ho ho2 hp64
  have d1 : decide (bt < t) = false := decide_eq_false ho
  have d2 : decide (k < ack) = false := decide_eq_false ho2
  clear hR h hp hB hv hw ho ho2
  unfold Cv ccs Wv
  simp only
  go_enter Tryz.func15, Tryz.ntmps15
  have hI0 : RI w #[.int .i64 id, .int .i64 gx, .int .i64 gy, .int .i64 t, .slice a n cap, .int .i64 ack, .slice pa pn pc] bt ba bn bc k ((((w.alloc (.cells #[.int .i64 id, .int .i64 gx, .int .i64 gy, .int .i64 t, .slice a n cap, .int .i64 ack, .slice pa pn pc] 29)).alloc (.cells #[.int .i64 bt, .slice ba bn bc] 26)).alloc (.cells #[.int .i64 k] 3)).alloc (.cells #[.int .i64 0, .int .i64 0, .int .i64 0, .int .i64 0, .slice none 0 0, .int .i64 0, .slice none 0 0] 29)) := ⟨(((Bk.made _ _ _).alloc _).alloc _).alloc _, ((Bk.at_ (by simp)).alloc _).alloc _, (Bk.at_ (by simp)).alloc _, Bk.at_ (by simp), by go_grown⟩
  have HI := Lib.hid hI0
  clear hI0
  go_wp2_with fail
  refine (VC.out _ HI.out.bel).mono ?_
  rintro e V1 ⟨rfl, hb1⟩
  replace HI := Lib.hid (HI.out.below hb1)
  clear hb1 VC
  have p0 := HI.out.b4.cell (v := .int .i64 bt) 0 rfl
  have p1 := HI.out.b4.cell (v := .slice ba bn bc) 1 rfl
  have ltp := HI.out.b4.lt
  go_wp2_with fail
  refine (VB.out _ HI.out.bel).mono ?_
  rintro e V1b ⟨rfl, hb1⟩
  replace HI := Lib.hid (HI.out.below hb1)
  clear hb1 VB p0 p1 ltp
  have s3 := HI.out.b3.cell (v := .int .i64 t) 3 rfl
  have s5 := HI.out.b3.cell (v := .int .i64 ack) 5 rfl
  have t0 := HI.out.b4.cell (v := .int .i64 bt) 0 rfl
  have u0 := HI.out.b5.cell (v := .int .i64 k) 0 rfl
  have s0 := HI.out.b3.cell (v := .int .i64 id) 0 rfl
  have s1 := HI.out.b3.cell (v := .int .i64 gx) 1 rfl
  have s2 := HI.out.b3.cell (v := .int .i64 gy) 2 rfl
  have s4 := HI.out.b3.cell (v := .slice a n cap) 4 rfl
  have s6 := HI.out.b3.cell (v := .slice pa pn pc) 6 rfl
  go_wp2_with fail
  refine (CO.out _ HI.out.bel).mono ?_
  rintro e V3 ⟨a', n', c', pa', pn', pc', rfl, ⟨hF, hRo⟩, hb3⟩
  obtain ⟨ab, cb, hv⟩ := hRo.form
  injection hv with u1 u2 u3
  subst u1 u2 u3
  have hsI := HI.out.bel.size
  replace HI := Lib.hid (HI.out.below hb3)
  have HRo := Lib.hid (hRo.mono hsI)
  have h6lt := HI.out.b6.lt
  clear hF hb3 hRo CO hsI s0 s1 s2 s3 s4 s5 s6 t0 u0
  unfold Cv ccs
  simp only
  go_upto_region 6 with fail
  refine wp_name (fun V => RI w #[.int .i64 id, .int .i64 gx, .int .i64 gy, .int .i64 t, .slice a n cap, .int .i64 ack, .slice pa pn pc] bt ba bn bc k V ∧ Bk V V3.heap.size #[.int .i64 id, .int .i64 gx, .int .i64 gy, .int .i64 t, .slice a' n' c', .int .i64 ack, .slice pa' p.length pc'] 29 ∧ RowI w.heap.size V (.slice pa' p.length pc') p) ⟨HI.out.below ((Below.refl _ _).alloc (Nat.le_refl _) _), Bk.made _ _ _, HRo.out.below ((Below.refl _ _).alloc (Nat.le_refl _) _)⟩ ?_
  obtain ⟨g8, hg8⟩ : ∃ g, V3.heap.size = g := ⟨_, rfl⟩
  rw [hg8]
  have hg8w : w.heap.size ≤ g8 := by omega
  have hg8n : w.heap.size + 1 + 1 + 1 < g8 := by omega
  have n48 : w.heap.size + 1 ≠ g8 := by omega
  have n58 : w.heap.size + 1 + 1 ≠ g8 := by omega
  have n48' : g8 ≠ w.heap.size + 1 := by omega
  have n58' : g8 ≠ w.heap.size + 1 + 1 := by omega
  clear hg8 HI HRo h6lt
  rintro V4 ⟨hI, B8, hRo⟩
  have t0 := hI.b4.cell (v := .int .i64 bt) 0 rfl
  have t1 := hI.b4.cell (v := .slice ba bn bc) 1 rfl
  have u0 := hI.b5.cell (v := .int .i64 k) 0 rfl
  have HI := Lib.hid hI
  have HRo := Lib.hid hRo
  have HB8 := Lib.hid B8
  have CPV := Lib.hid (CP.out V4 hI.bel)
  have CPD := Lib.hid (CP.out V4.drew hI.bel.drew)
  clear hI hRo B8 CP
  go_region_held3 (fun w' => w'.cell? ⟨w.heap.size + 1, 0, none⟩ = some (.int .i64 bt) ∧ w'.cell? ⟨w.heap.size + 1, 1, none⟩ = some (.slice ba bn bc) ∧ w'.cell? ⟨w.heap.size + 1 + 1, 0, none⟩ = some (.int .i64 k)) (first | exact keep3 (by assumption) (by assumption) | (simp [go_sem, n48, n58, n48', n58', t0, t1, u0]; done) | (simp [go_sem, *]; done))
    (first
      | (go_at_call 33; with_reducible refine CPV.out.mono ?_; rintro e V5 ⟨a2, n2, c2, rfl, hF2, hb5⟩; have B8 := HB8.out.below hb5; have e3 := B8.cell (v := .int .i64 t) 3 rfl; have e4 := B8.cell (v := .slice a' n' c') 4 rfl; have e5 := B8.cell (v := .int .i64 ack) 5 rfl; have f3 := B8.free 3; have f4 := B8.free 4; have f5 := B8.free 5; have lt8 := B8.lt; have HV5 := Lib.hid (And.intro (HI.out.below hb5) (And.intro (HRo.out.below hb5) (And.intro hF2 B8))); clear B8 hF2; have hb0 := hb5; clear hb5)
      | (go_at_call 33; with_reducible refine CPD.out.mono ?_; rintro e V5 ⟨a2, n2, c2, rfl, hF2, hb5⟩; have hb5' : Below V4.heap.size V4 V5 := (below_cc hb5 ((Below.refl _ _).drew)).1; have B8 := HB8.out.below hb5'; have e3 := B8.cell (v := .int .i64 t) 3 rfl; have e4 := B8.cell (v := .slice a' n' c') 4 rfl; have e5 := B8.cell (v := .int .i64 ack) 5 rfl; have f3 := B8.free 3; have f4 := B8.free 4; have f5 := B8.free 5; have lt8 := B8.lt; have HV5 := Lib.hid (And.intro (HI.out.below hb5') (And.intro (HRo.out.below hb5') (And.intro hF2 B8))); clear B8 hF2; have hb0 := hb5; clear hb5))
  have H5 := HV5.out
  have n68 : w.heap.size + 1 + 1 + 1 ≠ g8 := by omega
  have hF5 := H5.2.2.1.mono (base' := w.heap.size) HI.out.bel.size
  have E3 := H5.2.2.2.put 3 (.int .i64 bt)
  have E4 := E3.put 4 (.slice a2 n2 c2)
  have E5 := E4.put 5 (.int .i64 k)
  have HX := Lib.hid (And.intro E5 (And.intro (((H5.1.b5.far (p := ⟨g8, 3, none⟩) n58 (.int .i64 bt)).far (p := ⟨g8, 4, none⟩) n58 (.slice a2 n2 c2)).far (p := ⟨g8, 5, none⟩) n58 (.int .i64 k)) (And.intro (((H5.1.b6.far (p := ⟨g8, 3, none⟩) n68 (.int .i64 bt)).far (p := ⟨g8, 4, none⟩) n68 (.slice a2 n2 c2)).far (p := ⟨g8, 5, none⟩) n68 (.int .i64 k)) (And.intro (((hF5.set (p := ⟨g8, 3, none⟩) H5.2.2.2 (by decide) (by decide) (.int .i64 bt)).set (p := ⟨g8, 4, none⟩) E3 (by decide) (by decide) (.slice a2 n2 c2)).set (p := ⟨g8, 5, none⟩) E4 (by decide) (by decide) (.int .i64 k)) (And.intro (((H5.2.1.set (p := ⟨g8, 3, none⟩) H5.2.2.2 (by decide) (.int .i64 bt)).set (p := ⟨g8, 4, none⟩) E3 (by decide) (.slice a2 n2 c2)).set (p := ⟨g8, 5, none⟩) E4 (by decide) (.int .i64 k)) (((H5.1.bel.setCell (p := ⟨g8, 3, none⟩) hg8w (.int .i64 bt)).setCell (p := ⟨g8, 4, none⟩) hg8w (.slice a2 n2 c2)).setCell (p := ⟨g8, 5, none⟩) hg8w (.int .i64 k)))))))
  clear H5 hF5 E3 E4 E5 HV5 HI HRo HB8 CPV CPD t0 t1 u0 hb0 e3 e4 e5 f3 f4 f5 lt8
  refine at_name (R := Exit.then _ _ Exit.normal) (fun V => Bk V g8 #[.int .i64 id, .int .i64 gx, .int .i64 gy, .int .i64 bt, .slice a2 n2 c2, .int .i64 k, .slice pa' p.length pc'] 29 ∧ Bk V (w.heap.size + 1 + 1) #[.int .i64 k] 3 ∧ Bk V (w.heap.size + 1 + 1 + 1) #[.int .i64 0, .int .i64 0, .int .i64 0, .int .i64 0, .slice none 0 0, .int .i64 0, .slice none 0 0] 29 ∧ Fresh w.heap.size V (.slice a2 n2 c2) bes ∧ RowI w.heap.size V (.slice pa' p.length pc') p ∧ Below w.heap.size w V) HX.out ?_
  clear HX
  rintro V6 ⟨B8, B5, B6, hF, hRo, hb⟩
  have DI := Lib.hid (deleteI_any w.heap.size p (.slice pa' p.length pc') k (w.heap.size + 1 + 1) V6 hRo hp64 B5)
  have q6 := B8.cell (v := .slice pa' p.length pc') 6 rfl
  have lq := B8.lt
  have HV6 := Lib.hid (And.intro B8 (And.intro B6 (And.intro hF (And.intro hRo hb))))
  clear B8 B5 B6 hF hRo hb
  go_wp2_with fail
  refine DI.out.mono ?_
  rintro e V7 ⟨vf, rfl, hRf, hg7⟩
  obtain ⟨pf, cf, rfl⟩ := hRf.form
  obtain ⟨nf, hnf⟩ : ∃ nf, (p.filter (leftB k)).length = nf := ⟨_, rfl⟩
  rw [hnf] at hRf ⊢
  obtain ⟨B8, B6, hF, hRo, hb⟩ := HV6.out
  have C8 : Bk V7 g8 #[.int .i64 id, .int .i64 gx, .int .i64 gy, .int .i64 bt, .slice a2 n2 c2, .int .i64 k, .slice pa' p.length pc'] 29 := (hg7.block _ B8.lt (bk_ne_row B8 (by decide) hRo.1)).trans B8
  have C6 : Bk V7 (w.heap.size + 1 + 1 + 1) #[.int .i64 0, .int .i64 0, .int .i64 0, .int .i64 0, .slice none 0 0, .int .i64 0, .slice none 0 0] 29 := (hg7.block _ B6.lt (bk_ne_row B6 (by decide) hRo.1)).trans B6
  have hF7 := hF.grownI hg7 hRo.1 (by decide) (by decide)
  have hb7 : Below w.heap.size w V7 := hb.grown hg7 hb.size (fun k e => (hRo.1.lt k e).1)
  have hRf' : RowI w.heap.size V7 (.slice pf nf cf) (p.filter (leftB k)) := hRf
  have HX := Lib.hid (And.intro (C8.put 6 (.slice pf nf cf)) (And.intro (C6.far (p := ⟨g8, 6, none⟩) n68 (.slice pf nf cf)) (And.intro (hF7.set (p := ⟨g8, 6, none⟩) C8 (by decide) (by decide) (.slice pf nf cf)) (And.intro (hRf'.set (p := ⟨g8, 6, none⟩) C8 (by decide) (.slice pf nf cf)) (hb7.setCell (p := ⟨g8, 6, none⟩) hg8w (.slice pf nf cf))))))
  have e6 := C8.cell (v := .slice pa' p.length pc') 6 rfl
  have f6 := C8.free 6
  have lt8 := C8.lt
  clear HV6 B8 B6 hF hRo hb C8 C6 hF7 hb7 hRf hRf' hg7 hnf DI q6 lq
  go_upto_region 8 with fail
  refine wp_name (fun V => Bk V g8 #[.int .i64 id, .int .i64 gx, .int .i64 gy, .int .i64 bt, .slice a2 n2 c2, .int .i64 k, .slice pf nf cf] 29 ∧ Bk V (w.heap.size + 1 + 1 + 1) #[.int .i64 0, .int .i64 0, .int .i64 0, .int .i64 0, .slice none 0 0, .int .i64 0, .slice none 0 0] 29 ∧ Fresh w.heap.size V (.slice a2 n2 c2) bes ∧ RowI w.heap.size V (.slice pf nf cf) (p.filter (leftB k)) ∧ Below w.heap.size w V) HX.out ?_
  clear HX e6 f6 lt8
  rintro V8 ⟨B8, B6, hE, hRo, hb⟩
  have q0 := B8.cell (v := .int .i64 id) 0 rfl
  have q1 := B8.cell (v := .int .i64 gx) 1 rfl
  have q2 := B8.cell (v := .int .i64 gy) 2 rfl
  have q3 := B8.cell (v := .int .i64 bt) 3 rfl
  have q4 := B8.cell (v := .slice a2 n2 c2) 4 rfl
  have q5 := B8.cell (v := .int .i64 k) 5 rfl
  have q6 := B8.cell (v := .slice pf nf cf) 6 rfl
  have lt8 := B8.lt
  have r0 := B6.cell (v := .int .i64 0) 0 rfl
  have r1 := B6.cell (v := .int .i64 0) 1 rfl
  have r2 := B6.cell (v := .int .i64 0) 2 rfl
  have r3 := B6.cell (v := .int .i64 0) 3 rfl
  have r4 := B6.cell (v := .slice none 0 0) 4 rfl
  have r5 := B6.cell (v := .int .i64 0) 5 rfl
  have r6 := B6.cell (v := .slice none 0 0) 6 rfl
  have f0 := B6.free 0
  have f1 := B6.free 1
  have f2 := B6.free 2
  have f3 := B6.free 3
  have f4 := B6.free 4
  have f5 := B6.free 5
  have f6 := B6.free 6
  have lt := B6.lt
  have E0 := B6.put 0 (.int .i64 id)
  have E1 := E0.put 1 (.int .i64 gx)
  have E2 := E1.put 2 (.int .i64 gy)
  have E3 := E2.put 3 (.int .i64 bt)
  have E4 := E3.put 4 (.slice a2 n2 c2)
  have E5 := E4.put 5 (.int .i64 k)
  have E6 := E5.put 6 (.slice pf nf cf)
  have HX := Lib.hid (And.intro E6 (And.intro (And.intro (((((((hE.set (p := ⟨w.heap.size + 1 + 1 + 1, 0, none⟩) B6 (by decide) (by decide) (.int .i64 id)).set (p := ⟨w.heap.size + 1 + 1 + 1, 1, none⟩) E0 (by decide) (by decide) (.int .i64 gx)).set (p := ⟨w.heap.size + 1 + 1 + 1, 2, none⟩) E1 (by decide) (by decide) (.int .i64 gy)).set (p := ⟨w.heap.size + 1 + 1 + 1, 3, none⟩) E2 (by decide) (by decide) (.int .i64 bt)).set (p := ⟨w.heap.size + 1 + 1 + 1, 4, none⟩) E3 (by decide) (by decide) (.slice a2 n2 c2)).set (p := ⟨w.heap.size + 1 + 1 + 1, 5, none⟩) E4 (by decide) (by decide) (.int .i64 k)).set (p := ⟨w.heap.size + 1 + 1 + 1, 6, none⟩) E5 (by decide) (by decide) (.slice pf nf cf)) (((((((hRo.set (p := ⟨w.heap.size + 1 + 1 + 1, 0, none⟩) B6 (by decide) (.int .i64 id)).set (p := ⟨w.heap.size + 1 + 1 + 1, 1, none⟩) E0 (by decide) (.int .i64 gx)).set (p := ⟨w.heap.size + 1 + 1 + 1, 2, none⟩) E1 (by decide) (.int .i64 gy)).set (p := ⟨w.heap.size + 1 + 1 + 1, 3, none⟩) E2 (by decide) (.int .i64 bt)).set (p := ⟨w.heap.size + 1 + 1 + 1, 4, none⟩) E3 (by decide) (.slice a2 n2 c2)).set (p := ⟨w.heap.size + 1 + 1 + 1, 5, none⟩) E4 (by decide) (.int .i64 k)).set (p := ⟨w.heap.size + 1 + 1 + 1, 6, none⟩) E5 (by decide) (.slice pf nf cf))) (((((((hb.setCell (p := ⟨w.heap.size + 1 + 1 + 1, 0, none⟩) (by show w.heap.size ≤ w.heap.size + 1 + 1 + 1; omega) (.int .i64 id)).setCell (p := ⟨w.heap.size + 1 + 1 + 1, 1, none⟩) (by show w.heap.size ≤ w.heap.size + 1 + 1 + 1; omega) (.int .i64 gx)).setCell (p := ⟨w.heap.size + 1 + 1 + 1, 2, none⟩) (by show w.heap.size ≤ w.heap.size + 1 + 1 + 1; omega) (.int .i64 gy)).setCell (p := ⟨w.heap.size + 1 + 1 + 1, 3, none⟩) (by show w.heap.size ≤ w.heap.size + 1 + 1 + 1; omega) (.int .i64 bt)).setCell (p := ⟨w.heap.size + 1 + 1 + 1, 4, none⟩) (by show w.heap.size ≤ w.heap.size + 1 + 1 + 1; omega) (.slice a2 n2 c2)).setCell (p := ⟨w.heap.size + 1 + 1 + 1, 5, none⟩) (by show w.heap.size ≤ w.heap.size + 1 + 1 + 1; omega) (.int .i64 k)).setCell (p := ⟨w.heap.size + 1 + 1 + 1, 6, none⟩) (by show w.heap.size ≤ w.heap.size + 1 + 1 + 1; omega) (.slice pf nf cf))))
  clear E0 E1 E2 E3 E4 E5 E6 hE hRo hb B6 B8
  go_wp2
  refine post_name (fun V => Bk V (w.heap.size + 1 + 1 + 1) #[.int .i64 id, .int .i64 gx, .int .i64 gy, .int .i64 bt, .slice a2 n2 c2, .int .i64 k, .slice pf nf cf] 29 ∧ (Fresh w.heap.size V (.slice a2 n2 c2) bes ∧ RowI w.heap.size V (.slice pf nf cf) (p.filter (leftB k))) ∧ Below w.heap.size w V) HX.out ?_
  clear HX lt lt8 q0 r0 f0 q1 r1 f1 q2 r2 f2 q3 r3 f3 q4 r4 f4 q5 r5 f5 q6 r6 f6
  rintro V9 ⟨BV, hFR, hbV⟩
  have y0 := BV.cell (v := .int .i64 id) 0 rfl
  have y1 := BV.cell (v := .int .i64 gx) 1 rfl
  have y2 := BV.cell (v := .int .i64 gy) 2 rfl
  have y3 := BV.cell (v := .int .i64 bt) 3 rfl
  have y4 := BV.cell (v := .slice a2 n2 c2) 4 rfl
  have y5 := BV.cell (v := .int .i64 k) 5 rfl
  have y6 := BV.cell (v := .slice pf nf cf) 6 rfl
  exact bodyPost_ret (v := .tuple #[.agg #[.int .i64 id, .int .i64 gx, .int .i64 gy, .int .i64 bt, .slice a2 n2 c2, .int .i64 k, .slice pf nf cf], .int .i64 0]) (by simp [results, Tryz.results15, go_sem, y0, y1, y2, y3, y4, y5, y6]; try rfl) rfl ⟨a2, n2, c2, pf, nf, cf, rfl, ⟨hFR.1, hFR.2⟩, hbV⟩

theorem recv_fresh (c : Cli) (b : Wld) (k : Int) (a : Option Addr) (n cap : Nat) (pa : Option Addr) (pn pc : Nat) (ba : Option Addr) (bn bc : Nat) (w : World) (hR : RG w) (h : EntsAt w (.slice a n cap) c.b.es) (hp : InpsAt w (.slice pa pn pc) c.p) (hB : EntsAt w (.slice ba bn bc) b.es) :
    Calls Tryz.prog 15 #[Cv c a n cap pa pn pc, Wv b.t ba bn bc, .int .i64 k] w (CFPost w (recvR c b k)) := by
  unfold recvR
  rcases hv : validC c with _ | _
  · rw [if_neg (by simp)]
    exact (recv_bad1 c b k a n cap pa pn pc ba bn bc w hR h hp hB hv).mono fun e w' => cf_zero
  · by_cases hw : Valid b
    · rw [if_pos ⟨rfl, hw⟩]
      by_cases ho : b.t < c.b.t
      · rw [if_pos (.inl ho)]
        exact (recv_old1 c b k a n cap pa pn pc ba bn bc w hR h hp hB hv hw ho).mono fun e w' => cf_zero
      · by_cases ho2 : k < c.ack
        · rw [if_pos (.inr ho2)]
          exact (recv_old2 c b k a n cap pa pn pc ba bn bc w hR h hp hB hv hw ho ho2).mono fun e w' => cf_zero
        · rw [if_neg (by omega)]
          exact recv_ok c b k a n cap pa pn pc ba bn bc w hR h hp hB hv hw ho ho2
    · rw [if_neg (fun q => hw q.2)]
      exact (recv_bad2 c b k a n cap pa pn pc ba bn bc w hR h hp hB hv hw).mono fun e w' => cf_zero
theorem recv_any (c : Cli) (b : Wld) (k : Int) (a : Option Addr) (n cap : Nat) (pa : Option Addr) (pn pc : Nat) (ba : Option Addr) (bn bc : Nat) (w : World) (hR : RG w) (h : EntsAt w (.slice a n cap) c.b.es) (hp : InpsAt w (.slice pa pn pc) c.p) (hB : EntsAt w (.slice ba bn bc) b.es) :
    Calls Tryz.prog 15 #[Cv c a n cap pa pn pc, Wv b.t ba bn bc, .int .i64 k] w (CEPost w (recvR c b k)) :=
  (recv_fresh c b k a n cap pa pn pc ba bn bc w hR h hp hB).mono fun e w' => CFPost.ce
end Go.Proofs.YtlcjkomfjgddeaaGreatDoor
