/- client.Push. -/
import Derived.Test.YtlcjkomfjgddeaaGreatDoorM27
set_option linter.unusedVariables false
set_option linter.unusedSimpArgs false
namespace Go.Proofs.YtlcjkomfjgddeaaGreatDoor
open Go Go.RowKit Go.Sort
set_option maxRecDepth 100000
attribute [local go_sem] opLow opUpon opLow2 opUpon2

/-- the number of the last input, or of the last that was acknowledged -/
def lastS (k : Int) : List Inp → Int
  | [] => k
  | x :: l => lastS x.s l
theorem risB_push (id : Int) (x : Inp) : ∀ (l : List Inp) (k : Int), risB id k (l ++ [x]) = (risB id k l && (decide (x.c = id) && decide (lastS k l < x.s)))
  | [], k => by
    rw [List.nil_append, risB, risB, risB, lastS, Bool.true_and, Bool.and_true]
  | y :: l, k => by
    rw [List.cons_append, risB, risB, lastS, risB_push id x l y.s, Bool.and_assoc, Bool.and_assoc, Bool.and_assoc]
theorem lastS_at : ∀ (l : List Inp) (k : Int) (m : Nat) (x : Inp), l.length = m + 1 → l[m]? = some x → lastS k l = x.s
  | [], k, m, x, h, hx => by simp at h
  | [y], k, m, x, h, hx => by
    have : m = 0 := by simpa using h.symm
    subst this
    simp at hx; subst hx; rfl
  | y :: z :: l, k, m, x, h, hx => by
    obtain ⟨m', rfl⟩ : ∃ m', m = m' + 1 := ⟨m - 1, by simp at h; omega⟩
    rw [List.getElem?_cons_succ] at hx
    rw [lastS]
    exact lastS_at (z :: l) y.s m' x (by simpa using h) hx
theorem lastS_ge (id : Int) : ∀ (l : List Inp) (k : Int), risB id k l = true → k ≤ lastS k l
  | [], k, _ => Int.le_refl _
  | x :: l, k, h => by
    simp only [risB, Bool.and_eq_true, decide_eq_true_eq] at h
    rw [lastS]
    have := lastS_ge id l x.s h.2
    omega
/-- whether a client takes an input -/
def pushB (c : Cli) (x : Inp) : Bool := validC c && (decide (x.c = c.id) && decide (lastS c.ack c.p < x.s))
theorem Fresh.grownI {base base' size n : Nat} {t : TypeId} {w w' : World} {v s : Value} {es : List Ent} {xs : List Value} (h : Fresh base w v es) (hg : w.grownBy w' s.ownBlock) (hr : w.ownsRow base' t size s n xs) (h1 : 48 ≠ t) (h2 : 43 ≠ t) : Fresh base w' v es := by
  obtain ⟨h0, ss, h3, h4, h5, h6⟩ := h
  refine ⟨h0, ss, h3, h4.kept hg ?_, fun i s e hs he => (h5 i s e hs he).grown hg hr h1, h6⟩
  rcases h4.2 with ⟨hv, _⟩ | ⟨g, cap, cur, hv, hb, hh, _⟩
  · left; rw [hv]; rfl
  · right
    rw [hv]
    exact bk_ne_row hh h2 hr
/-- a client with one more input -/
def PushOk (w : World) (c : Cli) (x : Inp) (e : Ending) (w' : World) : Prop :=
  ∃ a n cap pa pn pc, e = .returned (.tuple #[Cv c a n cap pa pn pc, .int .i64 0]) ∧ (Fresh w.heap.size w' (.slice a n cap) c.b.es ∧ RowI w.heap.size w' (.slice pa pn pc) (c.p ++ [x])) ∧ Below w.heap.size w w'
abbrev Cz : Value := .agg #[.int .i64 0, .int .i64 0, .int .i64 0, .int .i64 0, .slice none 0 0, .int .i64 0, .slice none 0 0]
set_option maxHeartbeats 4000000 in
theorem push_bad1 (c : Cli) (x : Inp) (a : Option Addr) (n cap : Nat) (pa : Option Addr) (pn pc : Nat) (w : World) (hR : RG w) (h : EntsAt w (.slice a n cap) c.b.es) (hp : InpsAt w (.slice pa pn pc) c.p) (hv : validC c = false) :
    Calls Tryz.prog 19 #[Cv c a n cap pa pn pc, Iv x] w fun e w' => e = .returned (.tuple #[Cz, .int .i64 2]) ∧ Below w.heap.size w w' := by
  have VC := fun V hV => cvalid_any c a n cap pa pn pc V (hR.below hV) (EntsAt.below h hV) (InpsAt.below hp hV)
  rw [hv] at VC
  have hpl : pn = c.p.length := ListAt.len hp
  have hpm : pn ≤ 1099511627776 := by
    rcases hp with ⟨hq, hn⟩ | ⟨b, off, cap', _, hl, _⟩
    · rw [hpl, hn]; simp
    · rw [hpl]; omega
  obtain ⟨id, gx, gy, ⟨t, es⟩, ack, p⟩ := c
  obtain ⟨xc, xs, xt, xmx, xmy, xfire, xax, xay, xseen, xpart⟩ := x
  simp only at h hp hpl VC hv ⊢
  have HV := Lib.hid VC
  have HPL := Lib.hid hpl
  have HH := Lib.hid (And.intro h hp)
  clear VC hv h hp hR hpl
  unfold Cv ccs Iv
  simp only
  go_enter Tryz.func19, Tryz.ntmps19
  go_upto_region 1 with fail
  refine wp_name (fun V => (Bk V w.heap.size #[.int .i64 id, .int .i64 gx, .int .i64 gy, .int .i64 t, .slice a n cap, .int .i64 ack, .slice pa pn pc] 29 ∧ Bk V (w.heap.size + 1) #[.int .i64 xc, .int .i64 xs, .int .i64 xt, .int .i64 xmx, .int .i64 xmy, .bool xfire, .int .i64 xax, .int .i64 xay, .int .i64 xseen, .int .i64 xpart] 37 ∧ Bk V (w.heap.size + 1 + 1) #[.int .i64 0, .int .i64 0, .int .i64 0, .int .i64 0, .slice none 0 0, .int .i64 0, .slice none 0 0] 29) ∧ Below w.heap.size w V) ⟨⟨((Bk.made _ _ _).alloc _).alloc _, (Bk.at_ (by simp)).alloc _, Bk.at_ (by simp)⟩, by go_grown⟩ ?_
  rintro W1 ⟨⟨B1, B2, B3⟩, hb⟩
  have k0 := cell_regrown (B1.cell (v := .int .i64 id) 0 rfl)
  have k1 := cell_regrown (B1.cell (v := .int .i64 gx) 1 rfl)
  have k2 := cell_regrown (B1.cell (v := .int .i64 gy) 2 rfl)
  have k3 := cell_regrown (B1.cell (v := .int .i64 t) 3 rfl)
  have k4 := cell_regrown (B1.cell (v := .slice a n cap) 4 rfl)
  have k5 := cell_regrown (B1.cell (v := .int .i64 ack) 5 rfl)
  have k6 := cell_regrown (B1.cell (v := .slice pa pn pc) 6 rfl)
  have j0 := cell_regrown (B2.cell (v := .int .i64 xc) 0 rfl)
  have j1 := cell_regrown (B2.cell (v := .int .i64 xs) 1 rfl)
  refine wp_region_low2 noPosts 36 (by kernel_rfl) (by kernel_rfl) ?_
  simp only [List.take, List.drop]
  iterate 1 (refine low2_step (fun K hK => ?_); go_simp; first | (refine hK _ ?_; clear hK K) | (apply Exists.intro; refine ⟨fun p => ?_, hK _ ?_⟩; clear hK K))
  refine low2_reads 12 #[.agg #[.int .i64 id, .int .i64 gx, .int .i64 gy, .int .i64 t, .slice a n cap, .int .i64 ack, .slice pa pn pc]] _ (by rfl) (fun w => by go_simp; try rfl) rfl (by kernel_rfl) (fun V hV hG => HV.out V (below_cc hV hb).1) ?_
  iterate 34 (refine low2_step (fun K hK => ?_); go_simp; first | (refine hK _ ?_; clear hK K) | (apply Exists.intro; refine ⟨fun p => ?_, hK _ ?_⟩; clear hK K))
  refine low2_nil ?_
  intro W2 hC
  replace B1 := B1.below hC.1
  replace B2 := B2.below hC.1
  replace B3 := B3.below hC.1
  obtain ⟨hb, hs⟩ := below_cc hC.1 hb
  clear hC k0 k1 k2 k3 k4 k5 k6 j0 j1
  have r0 := B3.cell (v := .int .i64 0) 0 rfl
  have r1 := B3.cell (v := .int .i64 0) 1 rfl
  have r2 := B3.cell (v := .int .i64 0) 2 rfl
  have r3 := B3.cell (v := .int .i64 0) 3 rfl
  have r4 := B3.cell (v := .slice none 0 0) 4 rfl
  have r5 := B3.cell (v := .int .i64 0) 5 rfl
  have r6 := B3.cell (v := .slice none 0 0) 6 rfl
  have f0 := B3.free 0
  have f1 := B3.free 1
  have f2 := B3.free 2
  have f3 := B3.free 3
  have f4 := B3.free 4
  have f5 := B3.free 5
  have f6 := B3.free 6
  have lt := B3.lt
  have E0 := B3.put 0 (.int .i64 0)
  have E1 := E0.put 1 (.int .i64 0)
  have E2 := E1.put 2 (.int .i64 0)
  have E3 := E2.put 3 (.int .i64 0)
  have E4 := E3.put 4 (.slice none 0 0)
  have E5 := E4.put 5 (.int .i64 0)
  have E6 := E5.put 6 (.slice none 0 0)
  have HX := Lib.hid (And.intro E6 (((((((hb.setCell (p := ⟨w.heap.size + 1 + 1, 0, none⟩) (Nat.le_trans (Nat.le_succ _) (Nat.le_succ _)) (.int .i64 0)).setCell (p := ⟨w.heap.size + 1 + 1, 1, none⟩) (Nat.le_trans (Nat.le_succ _) (Nat.le_succ _)) (.int .i64 0)).setCell (p := ⟨w.heap.size + 1 + 1, 2, none⟩) (Nat.le_trans (Nat.le_succ _) (Nat.le_succ _)) (.int .i64 0)).setCell (p := ⟨w.heap.size + 1 + 1, 3, none⟩) (Nat.le_trans (Nat.le_succ _) (Nat.le_succ _)) (.int .i64 0)).setCell (p := ⟨w.heap.size + 1 + 1, 4, none⟩) (Nat.le_trans (Nat.le_succ _) (Nat.le_succ _)) (.slice none 0 0)).setCell (p := ⟨w.heap.size + 1 + 1, 5, none⟩) (Nat.le_trans (Nat.le_succ _) (Nat.le_succ _)) (.int .i64 0)).setCell (p := ⟨w.heap.size + 1 + 1, 6, none⟩) (Nat.le_trans (Nat.le_succ _) (Nat.le_succ _)) (.slice none 0 0)))
  clear E0 E1 E2 E3 E4 E5 E6 hb B3
  go_wp2
  refine post_name (fun V => Bk V (w.heap.size + 1 + 1) #[.int .i64 0, .int .i64 0, .int .i64 0, .int .i64 0, .slice none 0 0, .int .i64 0, .slice none 0 0] 29 ∧ Below w.heap.size w V) HX.out ?_
  clear HX r0 f0 r1 f1 r2 f2 r3 f3 r4 f4 r5 f5 r6 f6 lt
  rintro V2 ⟨BV, hbV⟩
  have y0 := BV.cell (v := .int .i64 0) 0 rfl
  have y1 := BV.cell (v := .int .i64 0) 1 rfl
  have y2 := BV.cell (v := .int .i64 0) 2 rfl
  have y3 := BV.cell (v := .int .i64 0) 3 rfl
  have y4 := BV.cell (v := .slice none 0 0) 4 rfl
  have y5 := BV.cell (v := .int .i64 0) 5 rfl
  have y6 := BV.cell (v := .slice none 0 0) 6 rfl
  exact bodyPost_ret (v := .tuple #[Cz, .int .i64 2]) (by simp [results, Tryz.results19, go_sem, y0, y1, y2, y3, y4, y5, y6]; try rfl) rfl ⟨rfl, hbV⟩
set_option maxHeartbeats 4000000 in
theorem push_bad2 (c : Cli) (x : Inp) (a : Option Addr) (n cap : Nat) (pa : Option Addr) (pn pc : Nat) (w : World) (hR : RG w) (h : EntsAt w (.slice a n cap) c.b.es) (hp : InpsAt w (.slice pa pn pc) c.p) (hv : validC c = true) (h3 : ¬ x.c = c.id) :
    Calls Tryz.prog 19 #[Cv c a n cap pa pn pc, Iv x] w fun e w' => e = .returned (.tuple #[Cz, .int .i64 2]) ∧ Below w.heap.size w w' := by
  have VC := fun V hV => cvalid_any c a n cap pa pn pc V (hR.below hV) (EntsAt.below h hV) (InpsAt.below hp hV)
  rw [hv] at VC
  have hpl : pn = c.p.length := ListAt.len hp
  have hpm : pn ≤ 1099511627776 := by
    rcases hp with ⟨hq, hn⟩ | ⟨b, off, cap', _, hl, _⟩
    · rw [hpl, hn]; simp
    · rw [hpl]; omega
  obtain ⟨id, gx, gy, ⟨t, es⟩, ack, p⟩ := c
  obtain ⟨xc, xs, xt, xmx, xmy, xfire, xax, xay, xseen, xpart⟩ := x
  simp only at h hp hpl VC hv h3 ⊢
  have HV := Lib.hid VC
  have HPL := Lib.hid hpl
  have HH := Lib.hid (And.intro h hp)
  have d3 : ((xc : Int) != id) = true := by simp; exact h3
  clear VC hv h hp hR hpl h3
  unfold Cv ccs Iv
  simp only
  go_enter Tryz.func19, Tryz.ntmps19
  go_upto_region 1 with fail
  refine wp_name (fun V => (Bk V w.heap.size #[.int .i64 id, .int .i64 gx, .int .i64 gy, .int .i64 t, .slice a n cap, .int .i64 ack, .slice pa pn pc] 29 ∧ Bk V (w.heap.size + 1) #[.int .i64 xc, .int .i64 xs, .int .i64 xt, .int .i64 xmx, .int .i64 xmy, .bool xfire, .int .i64 xax, .int .i64 xay, .int .i64 xseen, .int .i64 xpart] 37 ∧ Bk V (w.heap.size + 1 + 1) #[.int .i64 0, .int .i64 0, .int .i64 0, .int .i64 0, .slice none 0 0, .int .i64 0, .slice none 0 0] 29) ∧ Below w.heap.size w V) ⟨⟨((Bk.made _ _ _).alloc _).alloc _, (Bk.at_ (by simp)).alloc _, Bk.at_ (by simp)⟩, by go_grown⟩ ?_
  rintro W1 ⟨⟨B1, B2, B3⟩, hb⟩
  have k0 := cell_regrown (B1.cell (v := .int .i64 id) 0 rfl)
  have k1 := cell_regrown (B1.cell (v := .int .i64 gx) 1 rfl)
  have k2 := cell_regrown (B1.cell (v := .int .i64 gy) 2 rfl)
  have k3 := cell_regrown (B1.cell (v := .int .i64 t) 3 rfl)
  have k4 := cell_regrown (B1.cell (v := .slice a n cap) 4 rfl)
  have k5 := cell_regrown (B1.cell (v := .int .i64 ack) 5 rfl)
  have k6 := cell_regrown (B1.cell (v := .slice pa pn pc) 6 rfl)
  have j0 := cell_regrown (B2.cell (v := .int .i64 xc) 0 rfl)
  have j1 := cell_regrown (B2.cell (v := .int .i64 xs) 1 rfl)
  refine wp_region_low2 noPosts 36 (by kernel_rfl) (by kernel_rfl) ?_
  simp only [List.take, List.drop]
  iterate 1 (refine low2_step (fun K hK => ?_); go_simp; first | (refine hK _ ?_; clear hK K) | (apply Exists.intro; refine ⟨fun p => ?_, hK _ ?_⟩; clear hK K))
  refine low2_reads 12 #[.agg #[.int .i64 id, .int .i64 gx, .int .i64 gy, .int .i64 t, .slice a n cap, .int .i64 ack, .slice pa pn pc]] _ (by rfl) (fun w => by go_simp; try rfl) rfl (by kernel_rfl) (fun V hV hG => HV.out V (below_cc hV hb).1) ?_
  iterate 34 (refine low2_step (fun K hK => ?_); go_simp; first | (refine hK _ ?_; clear hK K) | (apply Exists.intro; refine ⟨fun p => ?_, hK _ ?_⟩; clear hK K))
  refine low2_nil ?_
  intro W2 hC
  replace B1 := B1.below hC.1
  replace B2 := B2.below hC.1
  replace B3 := B3.below hC.1
  obtain ⟨hb, hs⟩ := below_cc hC.1 hb
  clear hC k0 k1 k2 k3 k4 k5 k6 j0 j1
  have r0 := B3.cell (v := .int .i64 0) 0 rfl
  have r1 := B3.cell (v := .int .i64 0) 1 rfl
  have r2 := B3.cell (v := .int .i64 0) 2 rfl
  have r3 := B3.cell (v := .int .i64 0) 3 rfl
  have r4 := B3.cell (v := .slice none 0 0) 4 rfl
  have r5 := B3.cell (v := .int .i64 0) 5 rfl
  have r6 := B3.cell (v := .slice none 0 0) 6 rfl
  have f0 := B3.free 0
  have f1 := B3.free 1
  have f2 := B3.free 2
  have f3 := B3.free 3
  have f4 := B3.free 4
  have f5 := B3.free 5
  have f6 := B3.free 6
  have lt := B3.lt
  have E0 := B3.put 0 (.int .i64 0)
  have E1 := E0.put 1 (.int .i64 0)
  have E2 := E1.put 2 (.int .i64 0)
  have E3 := E2.put 3 (.int .i64 0)
  have E4 := E3.put 4 (.slice none 0 0)
  have E5 := E4.put 5 (.int .i64 0)
  have E6 := E5.put 6 (.slice none 0 0)
  have HX := Lib.hid (And.intro E6 (((((((hb.setCell (p := ⟨w.heap.size + 1 + 1, 0, none⟩) (Nat.le_trans (Nat.le_succ _) (Nat.le_succ _)) (.int .i64 0)).setCell (p := ⟨w.heap.size + 1 + 1, 1, none⟩) (Nat.le_trans (Nat.le_succ _) (Nat.le_succ _)) (.int .i64 0)).setCell (p := ⟨w.heap.size + 1 + 1, 2, none⟩) (Nat.le_trans (Nat.le_succ _) (Nat.le_succ _)) (.int .i64 0)).setCell (p := ⟨w.heap.size + 1 + 1, 3, none⟩) (Nat.le_trans (Nat.le_succ _) (Nat.le_succ _)) (.int .i64 0)).setCell (p := ⟨w.heap.size + 1 + 1, 4, none⟩) (Nat.le_trans (Nat.le_succ _) (Nat.le_succ _)) (.slice none 0 0)).setCell (p := ⟨w.heap.size + 1 + 1, 5, none⟩) (Nat.le_trans (Nat.le_succ _) (Nat.le_succ _)) (.int .i64 0)).setCell (p := ⟨w.heap.size + 1 + 1, 6, none⟩) (Nat.le_trans (Nat.le_succ _) (Nat.le_succ _)) (.slice none 0 0)))
  clear E0 E1 E2 E3 E4 E5 E6 hb B3
  go_wp2
  refine post_name (fun V => Bk V (w.heap.size + 1 + 1) #[.int .i64 0, .int .i64 0, .int .i64 0, .int .i64 0, .slice none 0 0, .int .i64 0, .slice none 0 0] 29 ∧ Below w.heap.size w V) HX.out ?_
  clear HX r0 f0 r1 f1 r2 f2 r3 f3 r4 f4 r5 f5 r6 f6 lt
  rintro V2 ⟨BV, hbV⟩
  have y0 := BV.cell (v := .int .i64 0) 0 rfl
  have y1 := BV.cell (v := .int .i64 0) 1 rfl
  have y2 := BV.cell (v := .int .i64 0) 2 rfl
  have y3 := BV.cell (v := .int .i64 0) 3 rfl
  have y4 := BV.cell (v := .slice none 0 0) 4 rfl
  have y5 := BV.cell (v := .int .i64 0) 5 rfl
  have y6 := BV.cell (v := .slice none 0 0) 6 rfl
  exact bodyPost_ret (v := .tuple #[Cz, .int .i64 2]) (by simp [results, Tryz.results19, go_sem, y0, y1, y2, y3, y4, y5, y6]; try rfl) rfl ⟨rfl, hbV⟩
set_option maxHeartbeats 4000000 in
theorem push_bad3 (c : Cli) (x : Inp) (a : Option Addr) (n cap : Nat) (pa : Option Addr) (pn pc : Nat) (w : World) (hR : RG w) (h : EntsAt w (.slice a n cap) c.b.es) (hp : InpsAt w (.slice pa pn pc) c.p) (hv : validC c = true) (h3 : x.c = c.id) (h4 : ¬ c.ack < x.s) :
    Calls Tryz.prog 19 #[Cv c a n cap pa pn pc, Iv x] w fun e w' => e = .returned (.tuple #[Cz, .int .i64 2]) ∧ Below w.heap.size w w' := by
  have VC := fun V hV => cvalid_any c a n cap pa pn pc V (hR.below hV) (EntsAt.below h hV) (InpsAt.below hp hV)
  rw [hv] at VC
  have hpl : pn = c.p.length := ListAt.len hp
  have hpm : pn ≤ 1099511627776 := by
    rcases hp with ⟨hq, hn⟩ | ⟨b, off, cap', _, hl, _⟩
    · rw [hpl, hn]; simp
    · rw [hpl]; omega
  obtain ⟨id, gx, gy, ⟨t, es⟩, ack, p⟩ := c
  obtain ⟨xc, xs, xt, xmx, xmy, xfire, xax, xay, xseen, xpart⟩ := x
  simp only at h hp hpl VC hv h3 h4 ⊢
  have HV := Lib.hid VC
  have HPL := Lib.hid hpl
  have HH := Lib.hid (And.intro h hp)
  have d3 : ((xc : Int) != id) = false := by simp; exact h3
  have d4 : decide (xs ≤ ack) = true := by simp; omega
  clear VC hv h hp hR hpl h3 h4
  unfold Cv ccs Iv
  simp only
  go_enter Tryz.func19, Tryz.ntmps19
  go_upto_region 1 with fail
  refine wp_name (fun V => (Bk V w.heap.size #[.int .i64 id, .int .i64 gx, .int .i64 gy, .int .i64 t, .slice a n cap, .int .i64 ack, .slice pa pn pc] 29 ∧ Bk V (w.heap.size + 1) #[.int .i64 xc, .int .i64 xs, .int .i64 xt, .int .i64 xmx, .int .i64 xmy, .bool xfire, .int .i64 xax, .int .i64 xay, .int .i64 xseen, .int .i64 xpart] 37 ∧ Bk V (w.heap.size + 1 + 1) #[.int .i64 0, .int .i64 0, .int .i64 0, .int .i64 0, .slice none 0 0, .int .i64 0, .slice none 0 0] 29) ∧ Below w.heap.size w V) ⟨⟨((Bk.made _ _ _).alloc _).alloc _, (Bk.at_ (by simp)).alloc _, Bk.at_ (by simp)⟩, by go_grown⟩ ?_
  rintro W1 ⟨⟨B1, B2, B3⟩, hb⟩
  have k0 := cell_regrown (B1.cell (v := .int .i64 id) 0 rfl)
  have k1 := cell_regrown (B1.cell (v := .int .i64 gx) 1 rfl)
  have k2 := cell_regrown (B1.cell (v := .int .i64 gy) 2 rfl)
  have k3 := cell_regrown (B1.cell (v := .int .i64 t) 3 rfl)
  have k4 := cell_regrown (B1.cell (v := .slice a n cap) 4 rfl)
  have k5 := cell_regrown (B1.cell (v := .int .i64 ack) 5 rfl)
  have k6 := cell_regrown (B1.cell (v := .slice pa pn pc) 6 rfl)
  have j0 := cell_regrown (B2.cell (v := .int .i64 xc) 0 rfl)
  have j1 := cell_regrown (B2.cell (v := .int .i64 xs) 1 rfl)
  refine wp_region_low2 noPosts 36 (by kernel_rfl) (by kernel_rfl) ?_
  simp only [List.take, List.drop]
  iterate 1 (refine low2_step (fun K hK => ?_); go_simp; first | (refine hK _ ?_; clear hK K) | (apply Exists.intro; refine ⟨fun p => ?_, hK _ ?_⟩; clear hK K))
  refine low2_reads 12 #[.agg #[.int .i64 id, .int .i64 gx, .int .i64 gy, .int .i64 t, .slice a n cap, .int .i64 ack, .slice pa pn pc]] _ (by rfl) (fun w => by go_simp; try rfl) rfl (by kernel_rfl) (fun V hV hG => HV.out V (below_cc hV hb).1) ?_
  iterate 34 (refine low2_step (fun K hK => ?_); go_simp; first | (refine hK _ ?_; clear hK K) | (apply Exists.intro; refine ⟨fun p => ?_, hK _ ?_⟩; clear hK K))
  refine low2_nil ?_
  intro W2 hC
  replace B1 := B1.below hC.1
  replace B2 := B2.below hC.1
  replace B3 := B3.below hC.1
  obtain ⟨hb, hs⟩ := below_cc hC.1 hb
  clear hC k0 k1 k2 k3 k4 k5 k6 j0 j1
  have r0 := B3.cell (v := .int .i64 0) 0 rfl
  have r1 := B3.cell (v := .int .i64 0) 1 rfl
  have r2 := B3.cell (v := .int .i64 0) 2 rfl
  have r3 := B3.cell (v := .int .i64 0) 3 rfl
  have r4 := B3.cell (v := .slice none 0 0) 4 rfl
  have r5 := B3.cell (v := .int .i64 0) 5 rfl
  have r6 := B3.cell (v := .slice none 0 0) 6 rfl
  have f0 := B3.free 0
  have f1 := B3.free 1
  have f2 := B3.free 2
  have f3 := B3.free 3
  have f4 := B3.free 4
  have f5 := B3.free 5
  have f6 := B3.free 6
  have lt := B3.lt
  have E0 := B3.put 0 (.int .i64 0)
  have E1 := E0.put 1 (.int .i64 0)
  have E2 := E1.put 2 (.int .i64 0)
  have E3 := E2.put 3 (.int .i64 0)
  have E4 := E3.put 4 (.slice none 0 0)
  have E5 := E4.put 5 (.int .i64 0)
  have E6 := E5.put 6 (.slice none 0 0)
  have HX := Lib.hid (And.intro E6 (((((((hb.setCell (p := ⟨w.heap.size + 1 + 1, 0, none⟩) (Nat.le_trans (Nat.le_succ _) (Nat.le_succ _)) (.int .i64 0)).setCell (p := ⟨w.heap.size + 1 + 1, 1, none⟩) (Nat.le_trans (Nat.le_succ _) (Nat.le_succ _)) (.int .i64 0)).setCell (p := ⟨w.heap.size + 1 + 1, 2, none⟩) (Nat.le_trans (Nat.le_succ _) (Nat.le_succ _)) (.int .i64 0)).setCell (p := ⟨w.heap.size + 1 + 1, 3, none⟩) (Nat.le_trans (Nat.le_succ _) (Nat.le_succ _)) (.int .i64 0)).setCell (p := ⟨w.heap.size + 1 + 1, 4, none⟩) (Nat.le_trans (Nat.le_succ _) (Nat.le_succ _)) (.slice none 0 0)).setCell (p := ⟨w.heap.size + 1 + 1, 5, none⟩) (Nat.le_trans (Nat.le_succ _) (Nat.le_succ _)) (.int .i64 0)).setCell (p := ⟨w.heap.size + 1 + 1, 6, none⟩) (Nat.le_trans (Nat.le_succ _) (Nat.le_succ _)) (.slice none 0 0)))
  clear E0 E1 E2 E3 E4 E5 E6 hb B3
  go_wp2
  refine post_name (fun V => Bk V (w.heap.size + 1 + 1) #[.int .i64 0, .int .i64 0, .int .i64 0, .int .i64 0, .slice none 0 0, .int .i64 0, .slice none 0 0] 29 ∧ Below w.heap.size w V) HX.out ?_
  clear HX r0 f0 r1 f1 r2 f2 r3 f3 r4 f4 r5 f5 r6 f6 lt
  rintro V2 ⟨BV, hbV⟩
  have y0 := BV.cell (v := .int .i64 0) 0 rfl
  have y1 := BV.cell (v := .int .i64 0) 1 rfl
  have y2 := BV.cell (v := .int .i64 0) 2 rfl
  have y3 := BV.cell (v := .int .i64 0) 3 rfl
  have y4 := BV.cell (v := .slice none 0 0) 4 rfl
  have y5 := BV.cell (v := .int .i64 0) 5 rfl
  have y6 := BV.cell (v := .slice none 0 0) 6 rfl
  exact bodyPost_ret (v := .tuple #[Cz, .int .i64 2]) (by simp [results, Tryz.results19, go_sem, y0, y1, y2, y3, y4, y5, y6]; try rfl) rfl ⟨rfl, hbV⟩
set_option maxHeartbeats 4000000 in
theorem push_bad4 (c : Cli) (x : Inp) (a : Option Addr) (n cap : Nat) (pa : Option Addr) (pn pc : Nat) (w : World) (hR : RG w) (h : EntsAt w (.slice a n cap) c.b.es) (hp : InpsAt w (.slice pa pn pc) c.p) (hv : validC c = true) (h3 : x.c = c.id) (h4 : c.ack < x.s) (h0 : 0 < c.p.length) (h5 : ¬ lastS c.ack c.p < x.s) :
    Calls Tryz.prog 19 #[Cv c a n cap pa pn pc, Iv x] w fun e w' => e = .returned (.tuple #[Cz, .int .i64 2]) ∧ Below w.heap.size w w' := by
  have VC := fun V hV => cvalid_any c a n cap pa pn pc V (hR.below hV) (EntsAt.below h hV) (InpsAt.below hp hV)
  rw [hv] at VC
  have hpl : pn = c.p.length := ListAt.len hp
  have hpm : pn ≤ 1099511627776 := by
    rcases hp with ⟨hq, hn⟩ | ⟨b, off, cap', _, hl, _⟩
    · rw [hpl, hn]; simp
    · rw [hpl]; omega
  obtain ⟨m, rfl⟩ : ∃ m, pn = m + 1 := ⟨pn - 1, by omega⟩
  obtain ⟨y, hy⟩ := at_lt (l := c.p) (i := m) (by omega)
  have hls := lastS_at c.p c.ack m y hpl.symm hy
  obtain ⟨pb, po, rfl, y1⟩ : ∃ pb po, pa = some ⟨pb, po, none⟩ ∧ w.cell? ⟨pb, po + m * 10 + 1, none⟩ = some (.int .i64 y.s) := by
    rcases hp with ⟨hq, hn⟩ | ⟨b, off, cap', hq, hl, hc⟩
    · rw [hn] at hy; cases hy
    · injection hq with q1 q2 q3
      exact ⟨b, off, q1, (hc m y hy).2.1⟩
  rw [hls] at h5
  obtain ⟨id, gx, gy, ⟨t, es⟩, ack, p⟩ := c
  obtain ⟨xc, xs, xt, xmx, xmy, xfire, xax, xay, xseen, xpart⟩ := x
  simp only at h hp hpl VC hv h3 h4 h5 ⊢
  have HV := Lib.hid VC
  have HPL := Lib.hid hpl
  have HH := Lib.hid (And.intro h hp)
  have d3 : ((xc : Int) != id) = false := by simp; exact h3
  have d4 : decide (xs ≤ ack) = false := by simp; omega
  have d5 : decide ((m : Int) + 1 > 0) = true := decide_eq_true (by omega)
  have d5' : decide (0 < (m : Int) + 1) = true := decide_eq_true (by omega)
  have d5n : (0 : Int) ≤ (m : Int) := by omega
  have d5m : (m : Int) < (m : Int) + 1 := by omega
  have d5w : IntKind.i64.wrap (m : Int) = (m : Int) := by rw [IntKind.wrap_i64]; omega
  have d6 : decide (xs ≤ y.s) = true := by simp; omega
  obtain ⟨ys, hys⟩ : ∃ ys, y.s = ys := ⟨_, rfl⟩
  rw [hys] at y1 d6
  clear VC hv h hp hR hpl h3 h4 h5 hy hys hls
  unfold Cv ccs Iv
  simp only
  go_enter Tryz.func19, Tryz.ntmps19
  go_upto_region 1 with fail
  refine wp_name (fun V => (Bk V w.heap.size #[.int .i64 id, .int .i64 gx, .int .i64 gy, .int .i64 t, .slice a n cap, .int .i64 ack, .slice (some ⟨pb, po, none⟩) (m + 1) pc] 29 ∧ Bk V (w.heap.size + 1) #[.int .i64 xc, .int .i64 xs, .int .i64 xt, .int .i64 xmx, .int .i64 xmy, .bool xfire, .int .i64 xax, .int .i64 xay, .int .i64 xseen, .int .i64 xpart] 37 ∧ Bk V (w.heap.size + 1 + 1) #[.int .i64 0, .int .i64 0, .int .i64 0, .int .i64 0, .slice none 0 0, .int .i64 0, .slice none 0 0] 29) ∧ Below w.heap.size w V) ⟨⟨((Bk.made _ _ _).alloc _).alloc _, (Bk.at_ (by simp)).alloc _, Bk.at_ (by simp)⟩, by go_grown⟩ ?_
  rintro W1 ⟨⟨B1, B2, B3⟩, hb⟩
  have k0 := cell_regrown (B1.cell (v := .int .i64 id) 0 rfl)
  have k1 := cell_regrown (B1.cell (v := .int .i64 gx) 1 rfl)
  have k2 := cell_regrown (B1.cell (v := .int .i64 gy) 2 rfl)
  have k3 := cell_regrown (B1.cell (v := .int .i64 t) 3 rfl)
  have k4 := cell_regrown (B1.cell (v := .slice a n cap) 4 rfl)
  have k5 := cell_regrown (B1.cell (v := .int .i64 ack) 5 rfl)
  have k6 := cell_regrown (B1.cell (v := .slice (some ⟨pb, po, none⟩) (m + 1) pc) 6 rfl)
  have j0 := cell_regrown (B2.cell (v := .int .i64 xc) 0 rfl)
  have j1 := cell_regrown (B2.cell (v := .int .i64 xs) 1 rfl)
  replace y1 := cell_regrown (cell_later hb y1)
  refine wp_region_low2 noPosts 36 (by kernel_rfl) (by kernel_rfl) ?_
  simp only [List.take, List.drop]
  iterate 1 (refine low2_step (fun K hK => ?_); go_simp; first | (refine hK _ ?_; clear hK K) | (apply Exists.intro; refine ⟨fun p => ?_, hK _ ?_⟩; clear hK K))
  refine low2_reads 12 #[.agg #[.int .i64 id, .int .i64 gx, .int .i64 gy, .int .i64 t, .slice a n cap, .int .i64 ack, .slice (some ⟨pb, po, none⟩) (m + 1) pc]] _ (by rfl) (fun w => by go_simp; try rfl) rfl (by kernel_rfl) (fun V hV hG => HV.out V (below_cc hV hb).1) ?_
  iterate 34 (refine low2_step (fun K hK => ?_); go_simp; first | (refine hK _ ?_; clear hK K) | (apply Exists.intro; refine ⟨fun p => ?_, hK _ ?_⟩; clear hK K))
  refine low2_nil ?_
  intro W2 hC
  replace B1 := B1.below hC.1
  replace B2 := B2.below hC.1
  replace B3 := B3.below hC.1
  obtain ⟨hb, hs⟩ := below_cc hC.1 hb
  clear hC k0 k1 k2 k3 k4 k5 k6 j0 j1 y1
  have r0 := B3.cell (v := .int .i64 0) 0 rfl
  have r1 := B3.cell (v := .int .i64 0) 1 rfl
  have r2 := B3.cell (v := .int .i64 0) 2 rfl
  have r3 := B3.cell (v := .int .i64 0) 3 rfl
  have r4 := B3.cell (v := .slice none 0 0) 4 rfl
  have r5 := B3.cell (v := .int .i64 0) 5 rfl
  have r6 := B3.cell (v := .slice none 0 0) 6 rfl
  have f0 := B3.free 0
  have f1 := B3.free 1
  have f2 := B3.free 2
  have f3 := B3.free 3
  have f4 := B3.free 4
  have f5 := B3.free 5
  have f6 := B3.free 6
  have lt := B3.lt
  have E0 := B3.put 0 (.int .i64 0)
  have E1 := E0.put 1 (.int .i64 0)
  have E2 := E1.put 2 (.int .i64 0)
  have E3 := E2.put 3 (.int .i64 0)
  have E4 := E3.put 4 (.slice none 0 0)
  have E5 := E4.put 5 (.int .i64 0)
  have E6 := E5.put 6 (.slice none 0 0)
  have HX := Lib.hid (And.intro E6 (((((((hb.setCell (p := ⟨w.heap.size + 1 + 1, 0, none⟩) (Nat.le_trans (Nat.le_succ _) (Nat.le_succ _)) (.int .i64 0)).setCell (p := ⟨w.heap.size + 1 + 1, 1, none⟩) (Nat.le_trans (Nat.le_succ _) (Nat.le_succ _)) (.int .i64 0)).setCell (p := ⟨w.heap.size + 1 + 1, 2, none⟩) (Nat.le_trans (Nat.le_succ _) (Nat.le_succ _)) (.int .i64 0)).setCell (p := ⟨w.heap.size + 1 + 1, 3, none⟩) (Nat.le_trans (Nat.le_succ _) (Nat.le_succ _)) (.int .i64 0)).setCell (p := ⟨w.heap.size + 1 + 1, 4, none⟩) (Nat.le_trans (Nat.le_succ _) (Nat.le_succ _)) (.slice none 0 0)).setCell (p := ⟨w.heap.size + 1 + 1, 5, none⟩) (Nat.le_trans (Nat.le_succ _) (Nat.le_succ _)) (.int .i64 0)).setCell (p := ⟨w.heap.size + 1 + 1, 6, none⟩) (Nat.le_trans (Nat.le_succ _) (Nat.le_succ _)) (.slice none 0 0)))
  clear E0 E1 E2 E3 E4 E5 E6 hb B3
  go_wp2
  refine post_name (fun V => Bk V (w.heap.size + 1 + 1) #[.int .i64 0, .int .i64 0, .int .i64 0, .int .i64 0, .slice none 0 0, .int .i64 0, .slice none 0 0] 29 ∧ Below w.heap.size w V) HX.out ?_
  clear HX r0 f0 r1 f1 r2 f2 r3 f3 r4 f4 r5 f5 r6 f6 lt
  rintro V2 ⟨BV, hbV⟩
  have y0 := BV.cell (v := .int .i64 0) 0 rfl
  have y1 := BV.cell (v := .int .i64 0) 1 rfl
  have y2 := BV.cell (v := .int .i64 0) 2 rfl
  have y3 := BV.cell (v := .int .i64 0) 3 rfl
  have y4 := BV.cell (v := .slice none 0 0) 4 rfl
  have y5 := BV.cell (v := .int .i64 0) 5 rfl
  have y6 := BV.cell (v := .slice none 0 0) 6 rfl
  exact bodyPost_ret (v := .tuple #[Cz, .int .i64 2]) (by simp [results, Tryz.results19, go_sem, y0, y1, y2, y3, y4, y5, y6]; try rfl) rfl ⟨rfl, hbV⟩
set_option maxHeartbeats 4000000 in
theorem push_full1 (c : Cli) (x : Inp) (a : Option Addr) (n cap : Nat) (pa : Option Addr) (pn pc : Nat) (w : World) (hR : RG w) (h : EntsAt w (.slice a n cap) c.b.es) (hp : InpsAt w (.slice pa pn pc) c.p) (hv : validC c = true) (h3 : x.c = c.id) (h4 : c.ack < x.s) (h0 : 0 < c.p.length) (h5 : lastS c.ack c.p < x.s) (h6 : 64 ≤ c.p.length) :
    Calls Tryz.prog 19 #[Cv c a n cap pa pn pc, Iv x] w fun e w' => e = .returned (.tuple #[Cz, .int .i64 4]) ∧ Below w.heap.size w w' := by
  have VC := fun V hV => cvalid_any c a n cap pa pn pc V (hR.below hV) (EntsAt.below h hV) (InpsAt.below hp hV)
  rw [hv] at VC
  have hpl : pn = c.p.length := ListAt.len hp
  have hpm : pn ≤ 1099511627776 := by
    rcases hp with ⟨hq, hn⟩ | ⟨b, off, cap', _, hl, _⟩
    · rw [hpl, hn]; simp
    · rw [hpl]; omega
  obtain ⟨m, rfl⟩ : ∃ m, pn = m + 1 := ⟨pn - 1, by omega⟩
  obtain ⟨y, hy⟩ := at_lt (l := c.p) (i := m) (by omega)
  have hls := lastS_at c.p c.ack m y hpl.symm hy
  obtain ⟨pb, po, rfl, y1⟩ : ∃ pb po, pa = some ⟨pb, po, none⟩ ∧ w.cell? ⟨pb, po + m * 10 + 1, none⟩ = some (.int .i64 y.s) := by
    rcases hp with ⟨hq, hn⟩ | ⟨b, off, cap', hq, hl, hc⟩
    · rw [hn] at hy; cases hy
    · injection hq with q1 q2 q3
      exact ⟨b, off, q1, (hc m y hy).2.1⟩
  rw [hls] at h5
  obtain ⟨id, gx, gy, ⟨t, es⟩, ack, p⟩ := c
  obtain ⟨xc, xs, xt, xmx, xmy, xfire, xax, xay, xseen, xpart⟩ := x
  simp only at h hp hpl VC hv h0 h3 h4 h5 h6 ⊢
  have HV := Lib.hid VC
  have HPL := Lib.hid hpl
  have HH := Lib.hid (And.intro h hp)
  have d3 : ((xc : Int) != id) = false := by simp; exact h3
  have d4 : decide (xs ≤ ack) = false := by simp; omega
  have d5 : decide ((m : Int) + 1 > 0) = true := decide_eq_true (by omega)
  have d5' : decide (0 < (m : Int) + 1) = true := decide_eq_true (by omega)
  have d5n : (0 : Int) ≤ (m : Int) := by omega
  have d5m : (m : Int) < (m : Int) + 1 := by omega
  have d5w : IntKind.i64.wrap (m : Int) = (m : Int) := by rw [IntKind.wrap_i64]; omega
  have d6 : decide (xs ≤ y.s) = false := by simp; omega
  obtain ⟨ys, hys⟩ : ∃ ys, y.s = ys := ⟨_, rfl⟩
  rw [hys] at y1 d6
  have d7 : decide ((64 : Int) ≤ (m : Int) + 1) = true := decide_eq_true (by omega)
  clear VC hv h hp hR hpl h3 h4 h5 hy hys hls h0 h6
  unfold Cv ccs Iv
  simp only
  go_enter Tryz.func19, Tryz.ntmps19
  go_upto_region 1 with fail
  refine wp_name (fun V => (Bk V w.heap.size #[.int .i64 id, .int .i64 gx, .int .i64 gy, .int .i64 t, .slice a n cap, .int .i64 ack, .slice (some ⟨pb, po, none⟩) (m + 1) pc] 29 ∧ Bk V (w.heap.size + 1) #[.int .i64 xc, .int .i64 xs, .int .i64 xt, .int .i64 xmx, .int .i64 xmy, .bool xfire, .int .i64 xax, .int .i64 xay, .int .i64 xseen, .int .i64 xpart] 37 ∧ Bk V (w.heap.size + 1 + 1) #[.int .i64 0, .int .i64 0, .int .i64 0, .int .i64 0, .slice none 0 0, .int .i64 0, .slice none 0 0] 29) ∧ Below w.heap.size w V) ⟨⟨((Bk.made _ _ _).alloc _).alloc _, (Bk.at_ (by simp)).alloc _, Bk.at_ (by simp)⟩, by go_grown⟩ ?_
  rintro W1 ⟨⟨B1, B2, B3⟩, hb⟩
  have k0 := cell_regrown (B1.cell (v := .int .i64 id) 0 rfl)
  have k1 := cell_regrown (B1.cell (v := .int .i64 gx) 1 rfl)
  have k2 := cell_regrown (B1.cell (v := .int .i64 gy) 2 rfl)
  have k3 := cell_regrown (B1.cell (v := .int .i64 t) 3 rfl)
  have k4 := cell_regrown (B1.cell (v := .slice a n cap) 4 rfl)
  have k5 := cell_regrown (B1.cell (v := .int .i64 ack) 5 rfl)
  have k6 := cell_regrown (B1.cell (v := .slice (some ⟨pb, po, none⟩) (m + 1) pc) 6 rfl)
  have j0 := cell_regrown (B2.cell (v := .int .i64 xc) 0 rfl)
  have j1 := cell_regrown (B2.cell (v := .int .i64 xs) 1 rfl)
  replace y1 := cell_regrown (cell_later hb y1)
  refine wp_region_low2 noPosts 36 (by kernel_rfl) (by kernel_rfl) ?_
  simp only [List.take, List.drop]
  iterate 1 (refine low2_step (fun K hK => ?_); go_simp; first | (refine hK _ ?_; clear hK K) | (apply Exists.intro; refine ⟨fun p => ?_, hK _ ?_⟩; clear hK K))
  refine low2_reads 12 #[.agg #[.int .i64 id, .int .i64 gx, .int .i64 gy, .int .i64 t, .slice a n cap, .int .i64 ack, .slice (some ⟨pb, po, none⟩) (m + 1) pc]] _ (by rfl) (fun w => by go_simp; try rfl) rfl (by kernel_rfl) (fun V hV hG => HV.out V (below_cc hV hb).1) ?_
  iterate 34 (refine low2_step (fun K hK => ?_); go_simp; first | (refine hK _ ?_; clear hK K) | (apply Exists.intro; refine ⟨fun p => ?_, hK _ ?_⟩; clear hK K))
  refine low2_nil ?_
  intro W2 hC
  replace B1 := B1.below hC.1
  replace B2 := B2.below hC.1
  replace B3 := B3.below hC.1
  obtain ⟨hb, hs⟩ := below_cc hC.1 hb
  clear hC k0 k1 k2 k3 k4 k5 k6 j0 j1 y1
  have q6 := B1.cell (v := .slice (some ⟨pb, po, none⟩) (m + 1) pc) 6 rfl
  have r0 := B3.cell (v := .int .i64 0) 0 rfl
  have r1 := B3.cell (v := .int .i64 0) 1 rfl
  have r2 := B3.cell (v := .int .i64 0) 2 rfl
  have r3 := B3.cell (v := .int .i64 0) 3 rfl
  have r4 := B3.cell (v := .slice none 0 0) 4 rfl
  have r5 := B3.cell (v := .int .i64 0) 5 rfl
  have r6 := B3.cell (v := .slice none 0 0) 6 rfl
  have f0 := B3.free 0
  have f1 := B3.free 1
  have f2 := B3.free 2
  have f3 := B3.free 3
  have f4 := B3.free 4
  have f5 := B3.free 5
  have f6 := B3.free 6
  have lt := B3.lt
  have E0 := B3.put 0 (.int .i64 0)
  have E1 := E0.put 1 (.int .i64 0)
  have E2 := E1.put 2 (.int .i64 0)
  have E3 := E2.put 3 (.int .i64 0)
  have E4 := E3.put 4 (.slice none 0 0)
  have E5 := E4.put 5 (.int .i64 0)
  have E6 := E5.put 6 (.slice none 0 0)
  have HX := Lib.hid (And.intro E6 (((((((hb.setCell (p := ⟨w.heap.size + 1 + 1, 0, none⟩) (Nat.le_trans (Nat.le_succ _) (Nat.le_succ _)) (.int .i64 0)).setCell (p := ⟨w.heap.size + 1 + 1, 1, none⟩) (Nat.le_trans (Nat.le_succ _) (Nat.le_succ _)) (.int .i64 0)).setCell (p := ⟨w.heap.size + 1 + 1, 2, none⟩) (Nat.le_trans (Nat.le_succ _) (Nat.le_succ _)) (.int .i64 0)).setCell (p := ⟨w.heap.size + 1 + 1, 3, none⟩) (Nat.le_trans (Nat.le_succ _) (Nat.le_succ _)) (.int .i64 0)).setCell (p := ⟨w.heap.size + 1 + 1, 4, none⟩) (Nat.le_trans (Nat.le_succ _) (Nat.le_succ _)) (.slice none 0 0)).setCell (p := ⟨w.heap.size + 1 + 1, 5, none⟩) (Nat.le_trans (Nat.le_succ _) (Nat.le_succ _)) (.int .i64 0)).setCell (p := ⟨w.heap.size + 1 + 1, 6, none⟩) (Nat.le_trans (Nat.le_succ _) (Nat.le_succ _)) (.slice none 0 0)))
  clear E0 E1 E2 E3 E4 E5 E6 hb B3
  clear B1 B2
  go_wp2
  refine post_name (fun V => Bk V (w.heap.size + 1 + 1) #[.int .i64 0, .int .i64 0, .int .i64 0, .int .i64 0, .slice none 0 0, .int .i64 0, .slice none 0 0] 29 ∧ Below w.heap.size w V) HX.out ?_
  clear HX r0 f0 r1 f1 r2 f2 r3 f3 r4 f4 r5 f5 r6 f6 lt
  rintro V2 ⟨BV, hbV⟩
  have y0 := BV.cell (v := .int .i64 0) 0 rfl
  have y1 := BV.cell (v := .int .i64 0) 1 rfl
  have y2 := BV.cell (v := .int .i64 0) 2 rfl
  have y3 := BV.cell (v := .int .i64 0) 3 rfl
  have y4 := BV.cell (v := .slice none 0 0) 4 rfl
  have y5 := BV.cell (v := .int .i64 0) 5 rfl
  have y6 := BV.cell (v := .slice none 0 0) 6 rfl
  exact bodyPost_ret (v := .tuple #[Cz, .int .i64 4]) (by simp [results, Tryz.results19, go_sem, y0, y1, y2, y3, y4, y5, y6]; try rfl) rfl ⟨rfl, hbV⟩
set_option maxHeartbeats 4000000 in
theorem push_ok0 (c : Cli) (x : Inp) (a : Option Addr) (n cap : Nat) (pa : Option Addr) (pn pc : Nat) (w : World) (hR : RG w) (h : EntsAt w (.slice a n cap) c.b.es) (hp : InpsAt w (.slice pa pn pc) c.p) (hv : validC c = true) (h3 : x.c = c.id) (h4 : c.ack < x.s) (h0 : c.p.length = 0) (h5 : lastS c.ack c.p < x.s) (h6 : c.p.length < 64) :
    Calls Tryz.prog 19 #[Cv c a n cap pa pn pc, Iv x] w (PushOk w c x) := by
  have VC := fun V hV => cvalid_any c a n cap pa pn pc V (hR.below hV) (EntsAt.below h hV) (InpsAt.below hp hV)
  rw [hv] at VC
  have hpl : pn = c.p.length := ListAt.len hp
  have hpm : pn ≤ 1099511627776 := by
    rcases hp with ⟨hq, hn⟩ | ⟨b, off, cap', _, hl, _⟩
    · rw [hpl, hn]; simp
    · rw [hpl]; omega
  obtain ⟨id, gx, gy, ⟨t, es⟩, ack, p⟩ := c
  obtain ⟨xc, xs, xt, xmx, xmy, xfire, xax, xay, xseen, xpart⟩ := x
  simp only at h hp hpl VC hv h0 h3 h4 h5 h6 ⊢
  have HV := Lib.hid VC
  have HPL := Lib.hid hpl
  have HH := Lib.hid (And.intro h hp)
  have d3 : ((xc : Int) != id) = false := by simp; exact h3
  have d4 : decide (xs ≤ ack) = false := by simp; omega
  have d5 : decide ((pn : Int) > 0) = false := by simp; omega
  have d5' : decide (0 < pn) = false := by simp; omega
  have d7 : decide ((64 : Int) ≤ (pn : Int)) = false := decide_eq_false (by omega)
  have hl64 : p.length < 64 := h6
  obtain ⟨i0, hi, hz0, hz1, hz2⟩ := info_parts infoI
  have HIi := Lib.hid hi
  clear VC hv h hp hR hpl h3 h4 h5 h0 h6 hi
  unfold Cv ccs Iv
  simp only
  go_enter Tryz.func19, Tryz.ntmps19
  go_upto_region 1 with fail
  refine wp_name (fun V => (Bk V w.heap.size #[.int .i64 id, .int .i64 gx, .int .i64 gy, .int .i64 t, .slice a n cap, .int .i64 ack, .slice pa pn pc] 29 ∧ Bk V (w.heap.size + 1) #[.int .i64 xc, .int .i64 xs, .int .i64 xt, .int .i64 xmx, .int .i64 xmy, .bool xfire, .int .i64 xax, .int .i64 xay, .int .i64 xseen, .int .i64 xpart] 37 ∧ Bk V (w.heap.size + 1 + 1) #[.int .i64 0, .int .i64 0, .int .i64 0, .int .i64 0, .slice none 0 0, .int .i64 0, .slice none 0 0] 29) ∧ Below w.heap.size w V) ⟨⟨((Bk.made _ _ _).alloc _).alloc _, (Bk.at_ (by simp)).alloc _, Bk.at_ (by simp)⟩, by go_grown⟩ ?_
  rintro W1 ⟨⟨B1, B2, B3⟩, hb⟩
  have k0 := cell_regrown (B1.cell (v := .int .i64 id) 0 rfl)
  have k1 := cell_regrown (B1.cell (v := .int .i64 gx) 1 rfl)
  have k2 := cell_regrown (B1.cell (v := .int .i64 gy) 2 rfl)
  have k3 := cell_regrown (B1.cell (v := .int .i64 t) 3 rfl)
  have k4 := cell_regrown (B1.cell (v := .slice a n cap) 4 rfl)
  have k5 := cell_regrown (B1.cell (v := .int .i64 ack) 5 rfl)
  have k6 := cell_regrown (B1.cell (v := .slice pa pn pc) 6 rfl)
  have j0 := cell_regrown (B2.cell (v := .int .i64 xc) 0 rfl)
  have j1 := cell_regrown (B2.cell (v := .int .i64 xs) 1 rfl)
  refine wp_region_low2 noPosts 36 (by kernel_rfl) (by kernel_rfl) ?_
  simp only [List.take, List.drop]
  iterate 1 (refine low2_step (fun K hK => ?_); go_simp; first | (refine hK _ ?_; clear hK K) | (apply Exists.intro; refine ⟨fun p => ?_, hK _ ?_⟩; clear hK K))
  refine low2_reads 12 #[.agg #[.int .i64 id, .int .i64 gx, .int .i64 gy, .int .i64 t, .slice a n cap, .int .i64 ack, .slice pa pn pc]] _ (by rfl) (fun w => by go_simp; try rfl) rfl (by kernel_rfl) (fun V hV hG => HV.out V (below_cc hV hb).1) ?_
  iterate 34 (refine low2_step (fun K hK => ?_); go_simp; first | (refine hK _ ?_; clear hK K) | (apply Exists.intro; refine ⟨fun p => ?_, hK _ ?_⟩; clear hK K))
  refine low2_nil ?_
  intro W2 hC
  replace B1 := B1.below hC.1
  replace B2 := B2.below hC.1
  replace B3 := B3.below hC.1
  obtain ⟨hb, hs⟩ := below_cc hC.1 hb
  clear hC k0 k1 k2 k3 k4 k5 k6 j0 j1
  have q0 := B1.cell (v := .int .i64 id) 0 rfl
  have q1 := B1.cell (v := .int .i64 gx) 1 rfl
  have q2 := B1.cell (v := .int .i64 gy) 2 rfl
  have q3 := B1.cell (v := .int .i64 t) 3 rfl
  have q4 := B1.cell (v := .slice a n cap) 4 rfl
  have q5 := B1.cell (v := .int .i64 ack) 5 rfl
  have q6 := B1.cell (v := .slice pa pn pc) 6 rfl
  have CO := Lib.hid (fun V (hV : Below w.heap.size w V) => cown_any ⟨id, gx, gy, ⟨t, es⟩, ack, p⟩ a n cap pa (pn) pc V (EntsAt.below HH.out.1 hV) (InpsAt.below HH.out.2 hV))
  unfold Cv ccs at CO
  simp only at CO
  have HB := Lib.hid hb
  go_wp2_with fail
  refine (CO.out _ HB.out).mono ?_
  rintro e V3 ⟨a', n', c', pa', pn', pc', rfl, ⟨hF, hRo⟩, hb3⟩
  obtain ⟨ab, cb, hv⟩ := hRo.form
  injection hv with u1 u2 u3
  subst u1 u2 u3
  have hE := hF.mono hs
  replace hRo := hRo.mono hs
  replace B2 := B2.below hb3
  replace B3 := B3.below hb3
  obtain ⟨hb, hs⟩ := below_cc hb3 HB.out
  clear hF hb3 HB CO q0 q1 q2 q3 q4 q5 q6 B1
  unfold Cv ccs
  simp only
  have HE := Lib.hid hE
  have HRo := Lib.hid hRo
  have HB := Lib.hid (And.intro hb hs)
  clear hE hRo hb hs
  go_upto_region 6 with fail
  refine wp_name (fun V => (Bk V V3.heap.size #[.int .i64 id, .int .i64 gx, .int .i64 gy, .int .i64 t, .slice a' n' c', .int .i64 ack, .slice pa' p.length pc'] 29 ∧ Bk V (w.heap.size + 1) #[.int .i64 xc, .int .i64 xs, .int .i64 xt, .int .i64 xmx, .int .i64 xmy, .bool xfire, .int .i64 xax, .int .i64 xay, .int .i64 xseen, .int .i64 xpart] 37 ∧ Bk V (w.heap.size + 1 + 1) #[.int .i64 0, .int .i64 0, .int .i64 0, .int .i64 0, .slice none 0 0, .int .i64 0, .slice none 0 0] 29) ∧ (Fresh w.heap.size V (.slice a' n' c') es ∧ RowI w.heap.size V (.slice pa' p.length pc') p) ∧ Below w.heap.size w V) ⟨⟨Bk.made _ _ _, B2.alloc _, B3.alloc _⟩, ⟨HE.out.below ((Below.refl _ _).alloc (Nat.le_refl _) _), HRo.out.below ((Below.refl _ _).alloc (Nat.le_refl _) _)⟩, HB.out.1.alloc HB.out.2 _⟩ ?_
  have hs3 := HB.out.2
  have h3lt := B3.lt
  clear B2 B3 HE HRo HB
  obtain ⟨g6, hg6⟩ : ∃ g, V3.heap.size = g := ⟨_, rfl⟩
  rw [hg6]
  have hg6w : w.heap.size ≤ g6 := by omega
  have h3lt' : w.heap.size + 1 + 1 < g6 := by omega
  clear hg6 h3lt
  rintro V4 ⟨⟨B6, B2, B3⟩, ⟨hE, hRo⟩, hb⟩
  have hs := hb.size
  have e6 := B6.cell (v := .slice pa' p.length pc') 6 rfl
  have j0 := B2.cell (v := .int .i64 xc) 0 rfl
  have j1 := B2.cell (v := .int .i64 xs) 1 rfl
  have j2 := B2.cell (v := .int .i64 xt) 2 rfl
  have j3 := B2.cell (v := .int .i64 xmx) 3 rfl
  have j4 := B2.cell (v := .int .i64 xmy) 4 rfl
  have j5 := B2.cell (v := .bool xfire) 5 rfl
  have j6 := B2.cell (v := .int .i64 xax) 6 rfl
  have j7 := B2.cell (v := .int .i64 xay) 7 rfl
  have j8 := B2.cell (v := .int .i64 xseen) 8 rfl
  have j9 := B2.cell (v := .int .i64 xpart) 9 rfl
  have lt2 := B2.lt
  have lt6 := B6.lt
  have HRo := Lib.hid hRo
  have HE := Lib.hid hE
  have HB := Lib.hid hb
  have HS := Lib.hid hs
  clear hRo hE hb hs
  go_wp2_with (at_builtin; refine wpL_name (fun W5 => Bk W5 V4.heap.size #[.int .i64 xc, .int .i64 xs, .int .i64 xt, .int .i64 xmx, .int .i64 xmy, .bool xfire, .int .i64 xax, .int .i64 xay, .int .i64 xseen, .int .i64 xpart] 37 ∧ Below V4.heap.size V4 W5) ⟨Bk.made _ _ _, (Below.refl _ _).alloc (Nat.le_refl _) _⟩ ?_)
  rintro V5 ⟨B5, hb5⟩
  have hRo := HRo.out.below hb5
  have hE := HE.out.below hb5
  obtain ⟨hb, hs⟩ := below_cc hb5 HB.out
  replace B6 := B6.below hb5
  replace B3 := B3.below hb5
  clear hb5 e6 B2 lt2 lt6 HRo HE HB HS j0 j1 j2 j3 j4 j5 j6 j7 j8 j9
  refine wpList_append_mine _ rfl _ _ 27 rfl w.heap.size 37 i0 (.agg #[.int .i64 0, .int .i64 0, .int .i64 0, .int .i64 0, .int .i64 0, .bool false, .int .i64 0, .int .i64 0, .int .i64 0, .int .i64 0]) 10 80 Tryz.underlying27 HIi.out hz0 hz1 hz2 rfl (by decide) _ _ _ rfl hRo.1 ⟨V4.heap.size, 0, none⟩ 1 1 [.int .i64 xc, .int .i64 xs, .int .i64 xt, .int .i64 xmx, .int .i64 xmy, .bool xfire, .int .i64 xax, .int .i64 xay, .int .i64 xseen, .int .i64 xpart] rfl rfl ?c1 ?c2 (by decide) ?c4 ?c5 hs ?_
  case c1 =>
    intro j u hj
    rw [Addr.add_lit, Nat.zero_add]
    exact B5.cell j (by rw [← hj]; simp)
  case c2 => intro u hu; simp at hu; rcases hu with rfl | rfl | rfl | rfl | rfl | rfl | rfl | rfl | rfl | rfl <;> rfl
  case c4 => unfold maxLen; omega
  case c5 => omega
  intro gS capS wS hownS hgS hlS
  change V5.grownBy wS (Value.slice pa' p.length pc').ownBlock at hgS
  have hrow2 : RowI w.heap.size wS (.slice (some ⟨gS, 0, none⟩) (p.length + 1) capS) (p ++ [(⟨xc, xs, xt, xmx, xmy, xfire, xax, xay, xseen, xpart⟩ : Inp)]) :=
    ⟨by rw [List.length_append]; unfold ivs; rw [List.flatMap_append]; exact hownS, by simp; omega⟩
  have D6 : Bk wS g6 #[.int .i64 id, .int .i64 gx, .int .i64 gy, .int .i64 t, .slice a' n' c', .int .i64 ack, .slice pa' p.length pc'] 29 := (hgS.block _ B6.lt (bk_ne_row B6 (by decide) hRo.1)).trans B6
  have D3 : Bk wS (w.heap.size + 1 + 1) #[.int .i64 0, .int .i64 0, .int .i64 0, .int .i64 0, .slice none 0 0, .int .i64 0, .slice none 0 0] 29 := (hgS.block _ B3.lt (bk_ne_row B3 (by decide) hRo.1)).trans B3
  have hb6 : Below w.heap.size w wS := hb.grown hgS hs (fun k e => (hRo.1.lt k e).1)
  have hFr := hE.grownI hgS hRo.1 (by decide) (by decide)
  have n63 : w.heap.size + 1 + 1 ≠ g6 := by omega
  have HX := Lib.hid (And.intro (And.intro (D6.put 6 (.slice (some ⟨gS, 0, none⟩) (p.length + 1) capS)) (D3.far (p := ⟨g6, 6, none⟩) n63 (.slice (some ⟨gS, 0, none⟩) (p.length + 1) capS))) (And.intro (And.intro (hFr.set (p := ⟨g6, 6, none⟩) D6 (by decide) (by decide) (.slice (some ⟨gS, 0, none⟩) (p.length + 1) capS)) (hrow2.set (p := ⟨g6, 6, none⟩) D6 (by decide) (.slice (some ⟨gS, 0, none⟩) (p.length + 1) capS))) (hb6.setCell (p := ⟨g6, 6, none⟩) hg6w (.slice (some ⟨gS, 0, none⟩) (p.length + 1) capS))))
  have e6 := D6.cell (v := .slice pa' p.length pc') 6 rfl
  have f6 := D6.free 6
  have lt6 := D6.lt
  clear hFr hrow2 hb6 hgS hownS hlS hRo hE hb hs B5 B6 B3 D6 D3 HIi hz0 hz1 hz2
  go_upto_region 7 with fail
  refine wp_name (fun V => (Bk V g6 #[.int .i64 id, .int .i64 gx, .int .i64 gy, .int .i64 t, .slice a' n' c', .int .i64 ack, .slice (some ⟨gS, 0, none⟩) (p.length + 1) capS] 29 ∧ Bk V (w.heap.size + 1 + 1) #[.int .i64 0, .int .i64 0, .int .i64 0, .int .i64 0, .slice none 0 0, .int .i64 0, .slice none 0 0] 29) ∧ (Fresh w.heap.size V (.slice a' n' c') es ∧ RowI w.heap.size V (.slice (some ⟨gS, 0, none⟩) (p.length + 1) capS) (p ++ [(⟨xc, xs, xt, xmx, xmy, xfire, xax, xay, xseen, xpart⟩ : Inp)])) ∧ Below w.heap.size w V) HX.out ?_
  clear HX e6 f6 lt6
  rintro V6 ⟨⟨B6, B3⟩, ⟨hE, hRo⟩, hb⟩
  have q0 := B6.cell (v := .int .i64 id) 0 rfl
  have q1 := B6.cell (v := .int .i64 gx) 1 rfl
  have q2 := B6.cell (v := .int .i64 gy) 2 rfl
  have q3 := B6.cell (v := .int .i64 t) 3 rfl
  have q4 := B6.cell (v := .slice a' n' c') 4 rfl
  have q5 := B6.cell (v := .int .i64 ack) 5 rfl
  have q6 := B6.cell (v := .slice (some ⟨gS, 0, none⟩) (p.length + 1) capS) 6 rfl
  have lt6 := B6.lt
  have r0 := B3.cell (v := .int .i64 0) 0 rfl
  have r1 := B3.cell (v := .int .i64 0) 1 rfl
  have r2 := B3.cell (v := .int .i64 0) 2 rfl
  have r3 := B3.cell (v := .int .i64 0) 3 rfl
  have r4 := B3.cell (v := .slice none 0 0) 4 rfl
  have r5 := B3.cell (v := .int .i64 0) 5 rfl
  have r6 := B3.cell (v := .slice none 0 0) 6 rfl
  have f0 := B3.free 0
  have f1 := B3.free 1
  have f2 := B3.free 2
  have f3 := B3.free 3
  have f4 := B3.free 4
  have f5 := B3.free 5
  have f6 := B3.free 6
  have lt := B3.lt
  have E0 := B3.put 0 (.int .i64 id)
  have E1 := E0.put 1 (.int .i64 gx)
  have E2 := E1.put 2 (.int .i64 gy)
  have E3 := E2.put 3 (.int .i64 t)
  have E4 := E3.put 4 (.slice a' n' c')
  have E5 := E4.put 5 (.int .i64 ack)
  have E6 := E5.put 6 (.slice (some ⟨gS, 0, none⟩) (p.length + 1) capS)
  have HX := Lib.hid (And.intro E6 (And.intro (And.intro (((((((hE.set (p := ⟨w.heap.size + 1 + 1, 0, none⟩) B3 (by decide) (by decide) (.int .i64 id)).set (p := ⟨w.heap.size + 1 + 1, 1, none⟩) E0 (by decide) (by decide) (.int .i64 gx)).set (p := ⟨w.heap.size + 1 + 1, 2, none⟩) E1 (by decide) (by decide) (.int .i64 gy)).set (p := ⟨w.heap.size + 1 + 1, 3, none⟩) E2 (by decide) (by decide) (.int .i64 t)).set (p := ⟨w.heap.size + 1 + 1, 4, none⟩) E3 (by decide) (by decide) (.slice a' n' c')).set (p := ⟨w.heap.size + 1 + 1, 5, none⟩) E4 (by decide) (by decide) (.int .i64 ack)).set (p := ⟨w.heap.size + 1 + 1, 6, none⟩) E5 (by decide) (by decide) (.slice (some ⟨gS, 0, none⟩) (p.length + 1) capS)) (((((((hRo.set (p := ⟨w.heap.size + 1 + 1, 0, none⟩) B3 (by decide) (.int .i64 id)).set (p := ⟨w.heap.size + 1 + 1, 1, none⟩) E0 (by decide) (.int .i64 gx)).set (p := ⟨w.heap.size + 1 + 1, 2, none⟩) E1 (by decide) (.int .i64 gy)).set (p := ⟨w.heap.size + 1 + 1, 3, none⟩) E2 (by decide) (.int .i64 t)).set (p := ⟨w.heap.size + 1 + 1, 4, none⟩) E3 (by decide) (.slice a' n' c')).set (p := ⟨w.heap.size + 1 + 1, 5, none⟩) E4 (by decide) (.int .i64 ack)).set (p := ⟨w.heap.size + 1 + 1, 6, none⟩) E5 (by decide) (.slice (some ⟨gS, 0, none⟩) (p.length + 1) capS))) (((((((hb.setCell (p := ⟨w.heap.size + 1 + 1, 0, none⟩) (Nat.le_trans (Nat.le_succ _) (Nat.le_succ _)) (.int .i64 id)).setCell (p := ⟨w.heap.size + 1 + 1, 1, none⟩) (Nat.le_trans (Nat.le_succ _) (Nat.le_succ _)) (.int .i64 gx)).setCell (p := ⟨w.heap.size + 1 + 1, 2, none⟩) (Nat.le_trans (Nat.le_succ _) (Nat.le_succ _)) (.int .i64 gy)).setCell (p := ⟨w.heap.size + 1 + 1, 3, none⟩) (Nat.le_trans (Nat.le_succ _) (Nat.le_succ _)) (.int .i64 t)).setCell (p := ⟨w.heap.size + 1 + 1, 4, none⟩) (Nat.le_trans (Nat.le_succ _) (Nat.le_succ _)) (.slice a' n' c')).setCell (p := ⟨w.heap.size + 1 + 1, 5, none⟩) (Nat.le_trans (Nat.le_succ _) (Nat.le_succ _)) (.int .i64 ack)).setCell (p := ⟨w.heap.size + 1 + 1, 6, none⟩) (Nat.le_trans (Nat.le_succ _) (Nat.le_succ _)) (.slice (some ⟨gS, 0, none⟩) (p.length + 1) capS))))
  clear E0 E1 E2 E3 E4 E5 E6 hE hRo hb B3 B6
  go_wp2
  refine post_name (fun V => Bk V (w.heap.size + 1 + 1) #[.int .i64 id, .int .i64 gx, .int .i64 gy, .int .i64 t, .slice a' n' c', .int .i64 ack, .slice (some ⟨gS, 0, none⟩) (p.length + 1) capS] 29 ∧ (Fresh w.heap.size V (.slice a' n' c') es ∧ RowI w.heap.size V (.slice (some ⟨gS, 0, none⟩) (p.length + 1) capS) (p ++ [(⟨xc, xs, xt, xmx, xmy, xfire, xax, xay, xseen, xpart⟩ : Inp)])) ∧ Below w.heap.size w V) HX.out ?_
  clear HX lt lt6 q0 r0 f0 q1 r1 f1 q2 r2 f2 q3 r3 f3 q4 r4 f4 q5 r5 f5 q6 r6 f6
  rintro V7 ⟨BV, hFR, hbV⟩
  have y0 := BV.cell (v := .int .i64 id) 0 rfl
  have y1 := BV.cell (v := .int .i64 gx) 1 rfl
  have y2 := BV.cell (v := .int .i64 gy) 2 rfl
  have y3 := BV.cell (v := .int .i64 t) 3 rfl
  have y4 := BV.cell (v := .slice a' n' c') 4 rfl
  have y5 := BV.cell (v := .int .i64 ack) 5 rfl
  have y6 := BV.cell (v := .slice (some ⟨gS, 0, none⟩) (p.length + 1) capS) 6 rfl
  exact bodyPost_ret (v := .tuple #[.agg #[.int .i64 id, .int .i64 gx, .int .i64 gy, .int .i64 t, .slice a' n' c', .int .i64 ack, .slice (some ⟨gS, 0, none⟩) (p.length + 1) capS], .int .i64 0]) (by simp [results, Tryz.results19, go_sem, y0, y1, y2, y3, y4, y5, y6]; try rfl) rfl ⟨a', n', c', _, _, _, rfl, ⟨hFR.1, hFR.2⟩, hbV⟩
set_option maxHeartbeats 4000000 in
theorem push_ok1 (c : Cli) (x : Inp) (a : Option Addr) (n cap : Nat) (pa : Option Addr) (pn pc : Nat) (w : World) (hR : RG w) (h : EntsAt w (.slice a n cap) c.b.es) (hp : InpsAt w (.slice pa pn pc) c.p) (hv : validC c = true) (h3 : x.c = c.id) (h4 : c.ack < x.s) (h0 : 0 < c.p.length) (h5 : lastS c.ack c.p < x.s) (h6 : c.p.length < 64) :
    Calls Tryz.prog 19 #[Cv c a n cap pa pn pc, Iv x] w (PushOk w c x) := by
  have VC := fun V hV => cvalid_any c a n cap pa pn pc V (hR.below hV) (EntsAt.below h hV) (InpsAt.below hp hV)
  rw [hv] at VC
  have hpl : pn = c.p.length := ListAt.len hp
  have hpm : pn ≤ 1099511627776 := by
    rcases hp with ⟨hq, hn⟩ | ⟨b, off, cap', _, hl, _⟩
    · rw [hpl, hn]; simp
    · rw [hpl]; omega
  obtain ⟨m, rfl⟩ : ∃ m, pn = m + 1 := ⟨pn - 1, by omega⟩
  obtain ⟨y, hy⟩ := at_lt (l := c.p) (i := m) (by omega)
  have hls := lastS_at c.p c.ack m y hpl.symm hy
  obtain ⟨pb, po, rfl, y1⟩ : ∃ pb po, pa = some ⟨pb, po, none⟩ ∧ w.cell? ⟨pb, po + m * 10 + 1, none⟩ = some (.int .i64 y.s) := by
    rcases hp with ⟨hq, hn⟩ | ⟨b, off, cap', hq, hl, hc⟩
    · rw [hn] at hy; cases hy
    · injection hq with q1 q2 q3
      exact ⟨b, off, q1, (hc m y hy).2.1⟩
  rw [hls] at h5
  obtain ⟨id, gx, gy, ⟨t, es⟩, ack, p⟩ := c
  obtain ⟨xc, xs, xt, xmx, xmy, xfire, xax, xay, xseen, xpart⟩ := x
  simp only at h hp hpl VC hv h0 h3 h4 h5 h6 ⊢
  have HV := Lib.hid VC
  have HPL := Lib.hid hpl
  have HH := Lib.hid (And.intro h hp)
  have d3 : ((xc : Int) != id) = false := by simp; exact h3
  have d4 : decide (xs ≤ ack) = false := by simp; omega
  have d5 : decide ((m : Int) + 1 > 0) = true := decide_eq_true (by omega)
  have d5' : decide (0 < (m : Int) + 1) = true := decide_eq_true (by omega)
  have d5n : (0 : Int) ≤ (m : Int) := by omega
  have d5m : (m : Int) < (m : Int) + 1 := by omega
  have d5w : IntKind.i64.wrap (m : Int) = (m : Int) := by rw [IntKind.wrap_i64]; omega
  have d6 : decide (xs ≤ y.s) = false := by simp; omega
  obtain ⟨ys, hys⟩ : ∃ ys, y.s = ys := ⟨_, rfl⟩
  rw [hys] at y1 d6
  have d7 : decide ((64 : Int) ≤ (m : Int) + 1) = false := decide_eq_false (by omega)
  have hl64 : p.length < 64 := h6
  obtain ⟨i0, hi, hz0, hz1, hz2⟩ := info_parts infoI
  have HIi := Lib.hid hi
  clear VC hv h hp hR hpl h3 h4 h5 h0 h6 hi hy hys hls
  unfold Cv ccs Iv
  simp only
  go_enter Tryz.func19, Tryz.ntmps19
  go_upto_region 1 with fail
  refine wp_name (fun V => (Bk V w.heap.size #[.int .i64 id, .int .i64 gx, .int .i64 gy, .int .i64 t, .slice a n cap, .int .i64 ack, .slice (some ⟨pb, po, none⟩) (m + 1) pc] 29 ∧ Bk V (w.heap.size + 1) #[.int .i64 xc, .int .i64 xs, .int .i64 xt, .int .i64 xmx, .int .i64 xmy, .bool xfire, .int .i64 xax, .int .i64 xay, .int .i64 xseen, .int .i64 xpart] 37 ∧ Bk V (w.heap.size + 1 + 1) #[.int .i64 0, .int .i64 0, .int .i64 0, .int .i64 0, .slice none 0 0, .int .i64 0, .slice none 0 0] 29) ∧ Below w.heap.size w V) ⟨⟨((Bk.made _ _ _).alloc _).alloc _, (Bk.at_ (by simp)).alloc _, Bk.at_ (by simp)⟩, by go_grown⟩ ?_
  rintro W1 ⟨⟨B1, B2, B3⟩, hb⟩
  have k0 := cell_regrown (B1.cell (v := .int .i64 id) 0 rfl)
  have k1 := cell_regrown (B1.cell (v := .int .i64 gx) 1 rfl)
  have k2 := cell_regrown (B1.cell (v := .int .i64 gy) 2 rfl)
  have k3 := cell_regrown (B1.cell (v := .int .i64 t) 3 rfl)
  have k4 := cell_regrown (B1.cell (v := .slice a n cap) 4 rfl)
  have k5 := cell_regrown (B1.cell (v := .int .i64 ack) 5 rfl)
  have k6 := cell_regrown (B1.cell (v := .slice (some ⟨pb, po, none⟩) (m + 1) pc) 6 rfl)
  have j0 := cell_regrown (B2.cell (v := .int .i64 xc) 0 rfl)
  have j1 := cell_regrown (B2.cell (v := .int .i64 xs) 1 rfl)
  replace y1 := cell_regrown (cell_later hb y1)
  refine wp_region_low2 noPosts 36 (by kernel_rfl) (by kernel_rfl) ?_
  simp only [List.take, List.drop]
  iterate 1 (refine low2_step (fun K hK => ?_); go_simp; first | (refine hK _ ?_; clear hK K) | (apply Exists.intro; refine ⟨fun p => ?_, hK _ ?_⟩; clear hK K))
  refine low2_reads 12 #[.agg #[.int .i64 id, .int .i64 gx, .int .i64 gy, .int .i64 t, .slice a n cap, .int .i64 ack, .slice (some ⟨pb, po, none⟩) (m + 1) pc]] _ (by rfl) (fun w => by go_simp; try rfl) rfl (by kernel_rfl) (fun V hV hG => HV.out V (below_cc hV hb).1) ?_
  iterate 34 (refine low2_step (fun K hK => ?_); go_simp; first | (refine hK _ ?_; clear hK K) | (apply Exists.intro; refine ⟨fun p => ?_, hK _ ?_⟩; clear hK K))
  refine low2_nil ?_
  intro W2 hC
  replace B1 := B1.below hC.1
  replace B2 := B2.below hC.1
  replace B3 := B3.below hC.1
  obtain ⟨hb, hs⟩ := below_cc hC.1 hb
  clear hC k0 k1 k2 k3 k4 k5 k6 j0 j1 y1
  have q0 := B1.cell (v := .int .i64 id) 0 rfl
  have q1 := B1.cell (v := .int .i64 gx) 1 rfl
  have q2 := B1.cell (v := .int .i64 gy) 2 rfl
  have q3 := B1.cell (v := .int .i64 t) 3 rfl
  have q4 := B1.cell (v := .slice a n cap) 4 rfl
  have q5 := B1.cell (v := .int .i64 ack) 5 rfl
  have q6 := B1.cell (v := .slice (some ⟨pb, po, none⟩) (m + 1) pc) 6 rfl
  have CO := Lib.hid (fun V (hV : Below w.heap.size w V) => cown_any ⟨id, gx, gy, ⟨t, es⟩, ack, p⟩ a n cap (some ⟨pb, po, none⟩) (m + 1) pc V (EntsAt.below HH.out.1 hV) (InpsAt.below HH.out.2 hV))
  unfold Cv ccs at CO
  simp only at CO
  have HB := Lib.hid hb
  go_wp2_with fail
  refine (CO.out _ HB.out).mono ?_
  rintro e V3 ⟨a', n', c', pa', pn', pc', rfl, ⟨hF, hRo⟩, hb3⟩
  obtain ⟨ab, cb, hv⟩ := hRo.form
  injection hv with u1 u2 u3
  subst u1 u2 u3
  have hE := hF.mono hs
  replace hRo := hRo.mono hs
  replace B2 := B2.below hb3
  replace B3 := B3.below hb3
  obtain ⟨hb, hs⟩ := below_cc hb3 HB.out
  clear hF hb3 HB CO q0 q1 q2 q3 q4 q5 q6 B1
  unfold Cv ccs
  simp only
  have HE := Lib.hid hE
  have HRo := Lib.hid hRo
  have HB := Lib.hid (And.intro hb hs)
  clear hE hRo hb hs
  go_upto_region 6 with fail
  refine wp_name (fun V => (Bk V V3.heap.size #[.int .i64 id, .int .i64 gx, .int .i64 gy, .int .i64 t, .slice a' n' c', .int .i64 ack, .slice pa' p.length pc'] 29 ∧ Bk V (w.heap.size + 1) #[.int .i64 xc, .int .i64 xs, .int .i64 xt, .int .i64 xmx, .int .i64 xmy, .bool xfire, .int .i64 xax, .int .i64 xay, .int .i64 xseen, .int .i64 xpart] 37 ∧ Bk V (w.heap.size + 1 + 1) #[.int .i64 0, .int .i64 0, .int .i64 0, .int .i64 0, .slice none 0 0, .int .i64 0, .slice none 0 0] 29) ∧ (Fresh w.heap.size V (.slice a' n' c') es ∧ RowI w.heap.size V (.slice pa' p.length pc') p) ∧ Below w.heap.size w V) ⟨⟨Bk.made _ _ _, B2.alloc _, B3.alloc _⟩, ⟨HE.out.below ((Below.refl _ _).alloc (Nat.le_refl _) _), HRo.out.below ((Below.refl _ _).alloc (Nat.le_refl _) _)⟩, HB.out.1.alloc HB.out.2 _⟩ ?_
  have hs3 := HB.out.2
  have h3lt := B3.lt
  clear B2 B3 HE HRo HB
  obtain ⟨g6, hg6⟩ : ∃ g, V3.heap.size = g := ⟨_, rfl⟩
  rw [hg6]
  have hg6w : w.heap.size ≤ g6 := by omega
  have h3lt' : w.heap.size + 1 + 1 < g6 := by omega
  clear hg6 h3lt
  rintro V4 ⟨⟨B6, B2, B3⟩, ⟨hE, hRo⟩, hb⟩
  have hs := hb.size
  have e6 := B6.cell (v := .slice pa' p.length pc') 6 rfl
  have j0 := B2.cell (v := .int .i64 xc) 0 rfl
  have j1 := B2.cell (v := .int .i64 xs) 1 rfl
  have j2 := B2.cell (v := .int .i64 xt) 2 rfl
  have j3 := B2.cell (v := .int .i64 xmx) 3 rfl
  have j4 := B2.cell (v := .int .i64 xmy) 4 rfl
  have j5 := B2.cell (v := .bool xfire) 5 rfl
  have j6 := B2.cell (v := .int .i64 xax) 6 rfl
  have j7 := B2.cell (v := .int .i64 xay) 7 rfl
  have j8 := B2.cell (v := .int .i64 xseen) 8 rfl
  have j9 := B2.cell (v := .int .i64 xpart) 9 rfl
  have lt2 := B2.lt
  have lt6 := B6.lt
  have HRo := Lib.hid hRo
  have HE := Lib.hid hE
  have HB := Lib.hid hb
  have HS := Lib.hid hs
  clear hRo hE hb hs
  go_wp2_with (at_builtin; refine wpL_name (fun W5 => Bk W5 V4.heap.size #[.int .i64 xc, .int .i64 xs, .int .i64 xt, .int .i64 xmx, .int .i64 xmy, .bool xfire, .int .i64 xax, .int .i64 xay, .int .i64 xseen, .int .i64 xpart] 37 ∧ Below V4.heap.size V4 W5) ⟨Bk.made _ _ _, (Below.refl _ _).alloc (Nat.le_refl _) _⟩ ?_)
  rintro V5 ⟨B5, hb5⟩
  have hRo := HRo.out.below hb5
  have hE := HE.out.below hb5
  obtain ⟨hb, hs⟩ := below_cc hb5 HB.out
  replace B6 := B6.below hb5
  replace B3 := B3.below hb5
  clear hb5 e6 B2 lt2 lt6 HRo HE HB HS j0 j1 j2 j3 j4 j5 j6 j7 j8 j9
  refine wpList_append_mine _ rfl _ _ 27 rfl w.heap.size 37 i0 (.agg #[.int .i64 0, .int .i64 0, .int .i64 0, .int .i64 0, .int .i64 0, .bool false, .int .i64 0, .int .i64 0, .int .i64 0, .int .i64 0]) 10 80 Tryz.underlying27 HIi.out hz0 hz1 hz2 rfl (by decide) _ _ _ rfl hRo.1 ⟨V4.heap.size, 0, none⟩ 1 1 [.int .i64 xc, .int .i64 xs, .int .i64 xt, .int .i64 xmx, .int .i64 xmy, .bool xfire, .int .i64 xax, .int .i64 xay, .int .i64 xseen, .int .i64 xpart] rfl rfl ?c1 ?c2 (by decide) ?c4 ?c5 hs ?_
  case c1 =>
    intro j u hj
    rw [Addr.add_lit, Nat.zero_add]
    exact B5.cell j (by rw [← hj]; simp)
  case c2 => intro u hu; simp at hu; rcases hu with rfl | rfl | rfl | rfl | rfl | rfl | rfl | rfl | rfl | rfl <;> rfl
  case c4 => unfold maxLen; omega
  case c5 => omega
  intro gS capS wS hownS hgS hlS
  change V5.grownBy wS (Value.slice pa' p.length pc').ownBlock at hgS
  have hrow2 : RowI w.heap.size wS (.slice (some ⟨gS, 0, none⟩) (p.length + 1) capS) (p ++ [(⟨xc, xs, xt, xmx, xmy, xfire, xax, xay, xseen, xpart⟩ : Inp)]) :=
    ⟨by rw [List.length_append]; unfold ivs; rw [List.flatMap_append]; exact hownS, by simp; omega⟩
  have D6 : Bk wS g6 #[.int .i64 id, .int .i64 gx, .int .i64 gy, .int .i64 t, .slice a' n' c', .int .i64 ack, .slice pa' p.length pc'] 29 := (hgS.block _ B6.lt (bk_ne_row B6 (by decide) hRo.1)).trans B6
  have D3 : Bk wS (w.heap.size + 1 + 1) #[.int .i64 0, .int .i64 0, .int .i64 0, .int .i64 0, .slice none 0 0, .int .i64 0, .slice none 0 0] 29 := (hgS.block _ B3.lt (bk_ne_row B3 (by decide) hRo.1)).trans B3
  have hb6 : Below w.heap.size w wS := hb.grown hgS hs (fun k e => (hRo.1.lt k e).1)
  have hFr := hE.grownI hgS hRo.1 (by decide) (by decide)
  have n63 : w.heap.size + 1 + 1 ≠ g6 := by omega
  have HX := Lib.hid (And.intro (And.intro (D6.put 6 (.slice (some ⟨gS, 0, none⟩) (p.length + 1) capS)) (D3.far (p := ⟨g6, 6, none⟩) n63 (.slice (some ⟨gS, 0, none⟩) (p.length + 1) capS))) (And.intro (And.intro (hFr.set (p := ⟨g6, 6, none⟩) D6 (by decide) (by decide) (.slice (some ⟨gS, 0, none⟩) (p.length + 1) capS)) (hrow2.set (p := ⟨g6, 6, none⟩) D6 (by decide) (.slice (some ⟨gS, 0, none⟩) (p.length + 1) capS))) (hb6.setCell (p := ⟨g6, 6, none⟩) hg6w (.slice (some ⟨gS, 0, none⟩) (p.length + 1) capS))))
  have e6 := D6.cell (v := .slice pa' p.length pc') 6 rfl
  have f6 := D6.free 6
  have lt6 := D6.lt
  clear hFr hrow2 hb6 hgS hownS hlS hRo hE hb hs B5 B6 B3 D6 D3 HIi hz0 hz1 hz2
  go_upto_region 7 with fail
  refine wp_name (fun V => (Bk V g6 #[.int .i64 id, .int .i64 gx, .int .i64 gy, .int .i64 t, .slice a' n' c', .int .i64 ack, .slice (some ⟨gS, 0, none⟩) (p.length + 1) capS] 29 ∧ Bk V (w.heap.size + 1 + 1) #[.int .i64 0, .int .i64 0, .int .i64 0, .int .i64 0, .slice none 0 0, .int .i64 0, .slice none 0 0] 29) ∧ (Fresh w.heap.size V (.slice a' n' c') es ∧ RowI w.heap.size V (.slice (some ⟨gS, 0, none⟩) (p.length + 1) capS) (p ++ [(⟨xc, xs, xt, xmx, xmy, xfire, xax, xay, xseen, xpart⟩ : Inp)])) ∧ Below w.heap.size w V) HX.out ?_
  clear HX e6 f6 lt6
  rintro V6 ⟨⟨B6, B3⟩, ⟨hE, hRo⟩, hb⟩
  have q0 := B6.cell (v := .int .i64 id) 0 rfl
  have q1 := B6.cell (v := .int .i64 gx) 1 rfl
  have q2 := B6.cell (v := .int .i64 gy) 2 rfl
  have q3 := B6.cell (v := .int .i64 t) 3 rfl
  have q4 := B6.cell (v := .slice a' n' c') 4 rfl
  have q5 := B6.cell (v := .int .i64 ack) 5 rfl
  have q6 := B6.cell (v := .slice (some ⟨gS, 0, none⟩) (p.length + 1) capS) 6 rfl
  have lt6 := B6.lt
  have r0 := B3.cell (v := .int .i64 0) 0 rfl
  have r1 := B3.cell (v := .int .i64 0) 1 rfl
  have r2 := B3.cell (v := .int .i64 0) 2 rfl
  have r3 := B3.cell (v := .int .i64 0) 3 rfl
  have r4 := B3.cell (v := .slice none 0 0) 4 rfl
  have r5 := B3.cell (v := .int .i64 0) 5 rfl
  have r6 := B3.cell (v := .slice none 0 0) 6 rfl
  have f0 := B3.free 0
  have f1 := B3.free 1
  have f2 := B3.free 2
  have f3 := B3.free 3
  have f4 := B3.free 4
  have f5 := B3.free 5
  have f6 := B3.free 6
  have lt := B3.lt
  have E0 := B3.put 0 (.int .i64 id)
  have E1 := E0.put 1 (.int .i64 gx)
  have E2 := E1.put 2 (.int .i64 gy)
  have E3 := E2.put 3 (.int .i64 t)
  have E4 := E3.put 4 (.slice a' n' c')
  have E5 := E4.put 5 (.int .i64 ack)
  have E6 := E5.put 6 (.slice (some ⟨gS, 0, none⟩) (p.length + 1) capS)
  have HX := Lib.hid (And.intro E6 (And.intro (And.intro (((((((hE.set (p := ⟨w.heap.size + 1 + 1, 0, none⟩) B3 (by decide) (by decide) (.int .i64 id)).set (p := ⟨w.heap.size + 1 + 1, 1, none⟩) E0 (by decide) (by decide) (.int .i64 gx)).set (p := ⟨w.heap.size + 1 + 1, 2, none⟩) E1 (by decide) (by decide) (.int .i64 gy)).set (p := ⟨w.heap.size + 1 + 1, 3, none⟩) E2 (by decide) (by decide) (.int .i64 t)).set (p := ⟨w.heap.size + 1 + 1, 4, none⟩) E3 (by decide) (by decide) (.slice a' n' c')).set (p := ⟨w.heap.size + 1 + 1, 5, none⟩) E4 (by decide) (by decide) (.int .i64 ack)).set (p := ⟨w.heap.size + 1 + 1, 6, none⟩) E5 (by decide) (by decide) (.slice (some ⟨gS, 0, none⟩) (p.length + 1) capS)) (((((((hRo.set (p := ⟨w.heap.size + 1 + 1, 0, none⟩) B3 (by decide) (.int .i64 id)).set (p := ⟨w.heap.size + 1 + 1, 1, none⟩) E0 (by decide) (.int .i64 gx)).set (p := ⟨w.heap.size + 1 + 1, 2, none⟩) E1 (by decide) (.int .i64 gy)).set (p := ⟨w.heap.size + 1 + 1, 3, none⟩) E2 (by decide) (.int .i64 t)).set (p := ⟨w.heap.size + 1 + 1, 4, none⟩) E3 (by decide) (.slice a' n' c')).set (p := ⟨w.heap.size + 1 + 1, 5, none⟩) E4 (by decide) (.int .i64 ack)).set (p := ⟨w.heap.size + 1 + 1, 6, none⟩) E5 (by decide) (.slice (some ⟨gS, 0, none⟩) (p.length + 1) capS))) (((((((hb.setCell (p := ⟨w.heap.size + 1 + 1, 0, none⟩) (Nat.le_trans (Nat.le_succ _) (Nat.le_succ _)) (.int .i64 id)).setCell (p := ⟨w.heap.size + 1 + 1, 1, none⟩) (Nat.le_trans (Nat.le_succ _) (Nat.le_succ _)) (.int .i64 gx)).setCell (p := ⟨w.heap.size + 1 + 1, 2, none⟩) (Nat.le_trans (Nat.le_succ _) (Nat.le_succ _)) (.int .i64 gy)).setCell (p := ⟨w.heap.size + 1 + 1, 3, none⟩) (Nat.le_trans (Nat.le_succ _) (Nat.le_succ _)) (.int .i64 t)).setCell (p := ⟨w.heap.size + 1 + 1, 4, none⟩) (Nat.le_trans (Nat.le_succ _) (Nat.le_succ _)) (.slice a' n' c')).setCell (p := ⟨w.heap.size + 1 + 1, 5, none⟩) (Nat.le_trans (Nat.le_succ _) (Nat.le_succ _)) (.int .i64 ack)).setCell (p := ⟨w.heap.size + 1 + 1, 6, none⟩) (Nat.le_trans (Nat.le_succ _) (Nat.le_succ _)) (.slice (some ⟨gS, 0, none⟩) (p.length + 1) capS))))
  clear E0 E1 E2 E3 E4 E5 E6 hE hRo hb B3 B6
  go_wp2
  refine post_name (fun V => Bk V (w.heap.size + 1 + 1) #[.int .i64 id, .int .i64 gx, .int .i64 gy, .int .i64 t, .slice a' n' c', .int .i64 ack, .slice (some ⟨gS, 0, none⟩) (p.length + 1) capS] 29 ∧ (Fresh w.heap.size V (.slice a' n' c') es ∧ RowI w.heap.size V (.slice (some ⟨gS, 0, none⟩) (p.length + 1) capS) (p ++ [(⟨xc, xs, xt, xmx, xmy, xfire, xax, xay, xseen, xpart⟩ : Inp)])) ∧ Below w.heap.size w V) HX.out ?_
  clear HX lt lt6 q0 r0 f0 q1 r1 f1 q2 r2 f2 q3 r3 f3 q4 r4 f4 q5 r5 f5 q6 r6 f6
  rintro V7 ⟨BV, hFR, hbV⟩
  have y0 := BV.cell (v := .int .i64 id) 0 rfl
  have y1 := BV.cell (v := .int .i64 gx) 1 rfl
  have y2 := BV.cell (v := .int .i64 gy) 2 rfl
  have y3 := BV.cell (v := .int .i64 t) 3 rfl
  have y4 := BV.cell (v := .slice a' n' c') 4 rfl
  have y5 := BV.cell (v := .int .i64 ack) 5 rfl
  have y6 := BV.cell (v := .slice (some ⟨gS, 0, none⟩) (p.length + 1) capS) 6 rfl
  exact bodyPost_ret (v := .tuple #[.agg #[.int .i64 id, .int .i64 gx, .int .i64 gy, .int .i64 t, .slice a' n' c', .int .i64 ack, .slice (some ⟨gS, 0, none⟩) (p.length + 1) capS], .int .i64 0]) (by simp [results, Tryz.results19, go_sem, y0, y1, y2, y3, y4, y5, y6]; try rfl) rfl ⟨a', n', c', _, _, _, rfl, ⟨hFR.1, hFR.2⟩, hbV⟩
end Go.Proofs.YtlcjkomfjgddeaaGreatDoor
