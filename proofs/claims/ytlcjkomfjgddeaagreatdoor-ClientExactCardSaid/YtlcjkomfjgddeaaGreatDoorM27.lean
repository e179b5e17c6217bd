/- client.own. -/
import Derived.Test.YtlcjkomfjgddeaaGreatDoorM26
set_option linter.unusedVariables false
set_option linter.unusedSimpArgs false
namespace Go.Proofs.YtlcjkomfjgddeaaGreatDoor
open Go Go.RowKit Go.Sort
set_option maxRecDepth 100000
attribute [local go_sem] opLow opUpon opLow2 opUpon2

def post2 (f : FuncId) (A : Array Value → Value → World → World → Prop) (g : FuncId) (B : Array Value → Value → World → World → Prop) : Posts := fun h => if h = f then some A else if h = g then some B else none
theorem RowI.mono {base base' : Nat} {w : World} {s : Value} {l : List Inp} (h : RowI base w s l) (hb : base' ≤ base) : RowI base' w s l := ⟨h.1.mono hb, h.2⟩
theorem RowI.set {base : Nat} {w : World} {s : Value} {l : List Inp} {p : Addr} {cs : Array Value} {t : TypeId} (h : RowI base w s l) (hp : Bk w p.block cs t) (ht : t ≠ 37) (u : Value) : RowI base (w.setCell p u) s l :=
  ⟨ownsRow_setCell_other h.1 (fun e => bk_ne_row hp ht h.1 e.symm) u, h.2⟩
theorem RowI.form {base : Nat} {w : World} {s : Value} {l : List Inp} (h : RowI base w s l) : ∃ a c, s = .slice a l.length c := by
  rcases h.1.2 with ⟨h1, h2⟩ | ⟨g, cap, cur, hv, hg, hh, h3⟩
  · exact ⟨_, _, by rw [h1, h2]⟩
  · exact ⟨_, _, hv⟩
theorem Fresh.monoB {base base' : Nat} {w : World} {s : Value} {l : List Ent} (h : Fresh base w s l) (hb : base' ≤ base) : Fresh base' w s l := by
  obtain ⟨h0, ss, h1, h2, h3, h4⟩ := h
  exact ⟨h0, ss, h1, h2.mono hb, fun i s e hs he => ⟨(h3 i s e hs he).1.mono hb, (h3 i s e hs he).2⟩, h4⟩
def aCopied (w0 : World) (W : Wld) : Array Value → Value → World → World → Prop := fun _ v w1 w2 => w0.heap.size ≤ w1.heap.size ∧ ∃ a n c, v = Wv W.t a n c ∧ Fresh w1.heap.size w2 (.slice a n c) W.es
def aCloneI (w0 : World) (l : List Inp) : Array Value → Value → World → World → Prop := fun _ v w1 w2 => w0.heap.size ≤ w1.heap.size ∧ RowI w1.heap.size w2 v l
/-- a client of the call's own -/
def COwn (w : World) (c : Cli) (e : Ending) (w' : World) : Prop :=
  ∃ a n cap pa pn pc, e = .returned (Cv c a n cap pa pn pc) ∧ (Fresh w.heap.size w' (.slice a n cap) c.b.es ∧ RowI w.heap.size w' (.slice pa pn pc) c.p) ∧ Below w.heap.size w w'
set_option maxHeartbeats 4000000 in
theorem cown_any (c : Cli) (a : Option Addr) (n cap : Nat) (pa : Option Addr) (pn pc : Nat) (w : World) (h : EntsAt w (.slice a n cap) c.b.es) (hp : InpsAt w (.slice pa pn pc) c.p) :
    Calls Tryz.prog 43 #[Cv c a n cap pa pn pc] w (COwn w c) := by
  obtain ⟨id, gx, gy, ⟨t, es⟩, ack, p⟩ := c
  simp only at h hp
  have CA := Lib.hid (fun V hV => ccopied_any ⟨t, es⟩ a n cap V (EntsAt.below h hV))
  have CI := Lib.hid (fun V hV => cloneI_any (.slice pa pn pc) p V (InpsAt.below hp hV))
  clear h hp
  unfold Cv ccs
  simp only
  go_enter Tryz.func43, Tryz.ntmps43
  go_upto_region 1 with fail
  refine wp_name (fun V => (Bk V w.heap.size #[.int .i64 id, .int .i64 gx, .int .i64 gy, .int .i64 t, .slice a n cap, .int .i64 ack, .slice pa pn pc] 29 ∧ Bk V (w.heap.size + 1) #[.int .i64 0, .int .i64 0, .int .i64 0, .int .i64 0, .slice none 0 0, .int .i64 0, .slice none 0 0] 29) ∧ Below w.heap.size w V) ⟨⟨(Bk.made _ _ _).alloc _, Bk.at_ (by simp)⟩, by go_grown⟩ ?_
  rintro W1 ⟨⟨B1, B2⟩, hb⟩
  have k3 := cell_regrown (B1.cell (v := .int .i64 t) 3 rfl)
  have k4 := cell_regrown (B1.cell (v := .slice a n cap) 4 rfl)
  have k6 := cell_regrown (B1.cell (v := .slice pa pn pc) 6 rfl)
  refine wp_region_low2 (post2 33 (aCopied w ⟨t, es⟩) 65 (aCloneI w p)) 7 (by kernel_rfl) (by kernel_rfl) ?_
  simp only [List.take, List.drop]
  iterate 2 (refine low2_step (fun K hK => ?_); go_simp; first | (refine hK _ ?_; clear hK K) | (apply Exists.intro; refine ⟨fun p => ?_, hK _ ?_⟩; clear hK K))
  refine low2_call 33 #[.agg #[.int .i64 t, .slice a n cap]] (aCopied w ⟨t, es⟩) (by rfl) (fun w => by go_simp) (by simp [post2]) (fun V hV hG => by
    have hw1 : Below w.heap.size w V := (below_cc hV hb).1
    exact (CA.out V hw1).mono fun e w' ⟨a', n', c', he, hF, hbb⟩ => ⟨_, he, ⟨hw1.size, a', n', c', rfl, hF⟩, hbb⟩) ?_
  rintro v2 ⟨_, _, -, a', n', c', rfl, -⟩
  iterate 2 (refine low2_step (fun K hK => ?_); go_simp; first | (refine hK _ ?_; clear hK K) | (apply Exists.intro; refine ⟨fun p => ?_, hK _ ?_⟩; clear hK K))
  refine low2_call 65 #[.slice pa pn pc] (aCloneI w p) (by rfl) (fun w => by go_simp) (by simp [post2]) (fun V hV hG => by
    have hw1 : Below w.heap.size w V := (below_cc hV hb).1
    exact (CI.out V hw1).mono fun e w' ⟨v, he, hF, hbb⟩ => ⟨v, he, ⟨hw1.size, hF⟩, hbb⟩) ?_
  rintro v5 ⟨_, _, -, h6⟩
  obtain ⟨ab, cb, rfl⟩ := h6.form
  clear h6
  iterate 1 (refine low2_step (fun K hK => ?_); go_simp; first | (refine hK _ ?_; clear hK K) | (apply Exists.intro; refine ⟨fun p => ?_, hK _ ?_⟩; clear hK K))
  refine low2_nil ?_
  intro W2 hC
  obtain ⟨u1, u2, hA, hu1, hu2⟩ := hC.made 2 _ rfl
  obtain ⟨u3, u4, hA2, hu3, hu4⟩ := hC.made 5 _ rfl
  obtain ⟨hA1, a1, n1, c1, hv, hF⟩ := hA
  injection hv with hv
  injection hv with hv
  simp only [List.cons.injEq, Value.slice.injEq, and_true, true_and] at hv
  obtain ⟨rfl, rfl, rfl⟩ := hv
  have hFr : Fresh w.heap.size W2 (.slice a' n' c') es := (hF.below hu2).monoB hA1
  have hRo : RowI w.heap.size W2 (.slice ab p.length cb) p := (hA2.2.below hu4).mono hA2.1
  replace B1 := B1.below hC.1
  replace B2 := B2.below hC.1
  obtain ⟨hb, hs⟩ := below_cc hC.1 hb
  clear hC hF hA2 hu1 hu2 hu3 hu4 k3 k4 k6 CA CI hA1
  have E1 := B1.put 3 (.int .i64 t)
  have E2 := E1.put 4 (.slice a' n' c')
  have E3 := E2.put 6 (.slice ab p.length cb)
  have B2' : Bk (((W2.setCell ⟨w.heap.size, 3, none⟩ (.int .i64 t)).setCell ⟨w.heap.size, 4, none⟩ (.slice a' n' c')).setCell ⟨w.heap.size, 6, none⟩ (.slice ab p.length cb)) (w.heap.size + 1) #[.int .i64 0, .int .i64 0, .int .i64 0, .int .i64 0, .slice none 0 0, .int .i64 0, .slice none 0 0] 29 := ((B2.far (p := ⟨w.heap.size, 3, none⟩) (by simp) _).far (p := ⟨w.heap.size, 4, none⟩) (by simp) _).far (p := ⟨w.heap.size, 6, none⟩) (by simp) _
  have hFr' := ((hFr.set (p := ⟨w.heap.size, 3, none⟩) B1 (by decide) (by decide) (.int .i64 t)).set (p := ⟨w.heap.size, 4, none⟩) E1 (by decide) (by decide) (.slice a' n' c')).set (p := ⟨w.heap.size, 6, none⟩) E2 (by decide) (by decide) (.slice ab p.length cb)
  have hRo' := ((hRo.set (p := ⟨w.heap.size, 3, none⟩) B1 (by decide) (.int .i64 t)).set (p := ⟨w.heap.size, 4, none⟩) E1 (by decide) (.slice a' n' c')).set (p := ⟨w.heap.size, 6, none⟩) E2 (by decide) (.slice ab p.length cb)
  have hb' := ((hb.setCell (p := ⟨w.heap.size, 3, none⟩) (Nat.le_refl _) (.int .i64 t)).setCell (p := ⟨w.heap.size, 4, none⟩) (Nat.le_refl _) (.slice a' n' c')).setCell (p := ⟨w.heap.size, 6, none⟩) (Nat.le_refl _) (.slice ab p.length cb)
  have HX := Lib.hid (And.intro (And.intro E3 B2') (And.intro (And.intro hFr' hRo') hb'))
  have q3 := B1.cell (v := .int .i64 t) 3 rfl
  have q4 := B1.cell (v := .slice a n cap) 4 rfl
  have q6 := B1.cell (v := .slice pa pn pc) 6 rfl
  have f3 := B1.free 3
  have f4 := B1.free 4
  have f6 := B1.free 6
  have lt := B1.lt
  clear E1 E2 E3 B2' hFr' hRo' hb' hFr hRo hb hs B1 B2
  go_upto_region 2 with fail
  refine wp_name (fun V => (Bk V w.heap.size #[.int .i64 id, .int .i64 gx, .int .i64 gy, .int .i64 t, .slice a' n' c', .int .i64 ack, .slice ab p.length cb] 29 ∧ Bk V (w.heap.size + 1) #[.int .i64 0, .int .i64 0, .int .i64 0, .int .i64 0, .slice none 0 0, .int .i64 0, .slice none 0 0] 29) ∧ (Fresh w.heap.size V (.slice a' n' c') es ∧ RowI w.heap.size V (.slice ab p.length cb) p) ∧ Below w.heap.size w V) HX.out ?_
  clear HX q3 q4 q6 f3 f4 f6 lt
  rintro V ⟨⟨B1, B2⟩, ⟨hFr, hRo⟩, hb⟩
  have q0 := B1.cell (v := .int .i64 id) 0 rfl
  have q1 := B1.cell (v := .int .i64 gx) 1 rfl
  have q2 := B1.cell (v := .int .i64 gy) 2 rfl
  have q3 := B1.cell (v := .int .i64 t) 3 rfl
  have q4 := B1.cell (v := .slice a' n' c') 4 rfl
  have q5 := B1.cell (v := .int .i64 ack) 5 rfl
  have q6 := B1.cell (v := .slice ab p.length cb) 6 rfl
  have r0 := B2.cell (v := .int .i64 0) 0 rfl
  have r1 := B2.cell (v := .int .i64 0) 1 rfl
  have r2 := B2.cell (v := .int .i64 0) 2 rfl
  have r3 := B2.cell (v := .int .i64 0) 3 rfl
  have r4 := B2.cell (v := .slice none 0 0) 4 rfl
  have r5 := B2.cell (v := .int .i64 0) 5 rfl
  have r6 := B2.cell (v := .slice none 0 0) 6 rfl
  have f0 := B2.free 0
  have f1 := B2.free 1
  have f2 := B2.free 2
  have f3 := B2.free 3
  have f4 := B2.free 4
  have f5 := B2.free 5
  have f6 := B2.free 6
  have lt := B2.lt
  have E0 := B2.put 0 (.int .i64 id)
  have E1 := E0.put 1 (.int .i64 gx)
  have E2 := E1.put 2 (.int .i64 gy)
  have E3 := E2.put 3 (.int .i64 t)
  have E4 := E3.put 4 (.slice a' n' c')
  have E5 := E4.put 5 (.int .i64 ack)
  have E6 := E5.put 6 (.slice ab p.length cb)
  have hFr' := (((((((hFr.set (p := ⟨w.heap.size + 1, 0, none⟩) B2 (by decide) (by decide) (.int .i64 id)).set (p := ⟨w.heap.size + 1, 1, none⟩) E0 (by decide) (by decide) (.int .i64 gx)).set (p := ⟨w.heap.size + 1, 2, none⟩) E1 (by decide) (by decide) (.int .i64 gy)).set (p := ⟨w.heap.size + 1, 3, none⟩) E2 (by decide) (by decide) (.int .i64 t)).set (p := ⟨w.heap.size + 1, 4, none⟩) E3 (by decide) (by decide) (.slice a' n' c')).set (p := ⟨w.heap.size + 1, 5, none⟩) E4 (by decide) (by decide) (.int .i64 ack)).set (p := ⟨w.heap.size + 1, 6, none⟩) E5 (by decide) (by decide) (.slice ab p.length cb))
  have hRo' := (((((((hRo.set (p := ⟨w.heap.size + 1, 0, none⟩) B2 (by decide) (.int .i64 id)).set (p := ⟨w.heap.size + 1, 1, none⟩) E0 (by decide) (.int .i64 gx)).set (p := ⟨w.heap.size + 1, 2, none⟩) E1 (by decide) (.int .i64 gy)).set (p := ⟨w.heap.size + 1, 3, none⟩) E2 (by decide) (.int .i64 t)).set (p := ⟨w.heap.size + 1, 4, none⟩) E3 (by decide) (.slice a' n' c')).set (p := ⟨w.heap.size + 1, 5, none⟩) E4 (by decide) (.int .i64 ack)).set (p := ⟨w.heap.size + 1, 6, none⟩) E5 (by decide) (.slice ab p.length cb))
  have hb' := (((((((hb.setCell (p := ⟨w.heap.size + 1, 0, none⟩) (Nat.le_succ _) (.int .i64 id)).setCell (p := ⟨w.heap.size + 1, 1, none⟩) (Nat.le_succ _) (.int .i64 gx)).setCell (p := ⟨w.heap.size + 1, 2, none⟩) (Nat.le_succ _) (.int .i64 gy)).setCell (p := ⟨w.heap.size + 1, 3, none⟩) (Nat.le_succ _) (.int .i64 t)).setCell (p := ⟨w.heap.size + 1, 4, none⟩) (Nat.le_succ _) (.slice a' n' c')).setCell (p := ⟨w.heap.size + 1, 5, none⟩) (Nat.le_succ _) (.int .i64 ack)).setCell (p := ⟨w.heap.size + 1, 6, none⟩) (Nat.le_succ _) (.slice ab p.length cb))
  have HX := Lib.hid (And.intro E6 (And.intro (And.intro hFr' hRo') hb'))
  clear hFr' hRo' hb' hFr hRo hb B1 B2 E0 E1 E2 E3 E4 E5 E6
  go_wp2
  refine post_name (fun V => Bk V (w.heap.size + 1) #[.int .i64 id, .int .i64 gx, .int .i64 gy, .int .i64 t, .slice a' n' c', .int .i64 ack, .slice ab p.length cb] 29 ∧ (Fresh w.heap.size V (.slice a' n' c') es ∧ RowI w.heap.size V (.slice ab p.length cb) p) ∧ Below w.heap.size w V) HX.out ?_
  clear HX q0 r0 f0 q1 r1 f1 q2 r2 f2 q3 r3 f3 q4 r4 f4 q5 r5 f5 q6 r6 f6 lt
  rintro V2 ⟨BV, hFR, hbV⟩
  have y0 := BV.cell (v := .int .i64 id) 0 rfl
  have y1 := BV.cell (v := .int .i64 gx) 1 rfl
  have y2 := BV.cell (v := .int .i64 gy) 2 rfl
  have y3 := BV.cell (v := .int .i64 t) 3 rfl
  have y4 := BV.cell (v := .slice a' n' c') 4 rfl
  have y5 := BV.cell (v := .int .i64 ack) 5 rfl
  have y6 := BV.cell (v := .slice ab p.length cb) 6 rfl
  exact bodyPost_ret (v := .agg #[.int .i64 id, .int .i64 gx, .int .i64 gy, .int .i64 t, .slice a' n' c', .int .i64 ack, .slice ab p.length cb]) (by simp [results, Tryz.results43, go_sem, y0, y1, y2, y3, y4, y5, y6]; try rfl) rfl ⟨a', n', c', ab, p.length, cb, rfl, hFR, hbV⟩
end Go.Proofs.YtlcjkomfjgddeaaGreatDoor
