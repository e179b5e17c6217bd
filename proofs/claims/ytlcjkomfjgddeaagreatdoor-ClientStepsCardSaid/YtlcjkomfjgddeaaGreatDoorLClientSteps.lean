/- The walk of ClientSteps. -/
import Derived.Test.YtlcjkomfjgddeaaGreatDoorM41
import Derived.Test.YtlcjkomfjgddeaaGreatDoorStepsPlain
set_option linter.unusedVariables false
set_option linter.unusedSimpArgs false
namespace Go.Proofs.YtlcjkomfjgddeaaGreatDoor
open Go Go.RowKit Go.Sort
set_option maxRecDepth 100000
attribute [local go_sem] opLow opUpon opLow2 opUpon2 opLow3

theorem cell_later' {w W : World} {p : Addr} {v : Value} (hb : Below w.heap.size w W) (h : w.cell? p = some v) : W.cell? p = some v := cell_later hb h
def aPred (r : Wld × Int) : Array Value → Value → World → World → Prop := fun _ v w1 w2 => ∃ a n c, v = .tuple #[Wv r.1.t a n c, .int .i64 r.2] ∧ Fresh w1.heap.size w2 (.slice a n c) r.1.es
set_option maxHeartbeats 8000000 in
theorem steps_2 (c : Cli) (a : Option Addr) (n cap : Nat) (pa : Option Addr) (pn pc : Nat) (w : World) (hR : RG w) (hM : RM w) (hw : 2 ≤ w.heap.size) (h : EntsAt w (.slice a n cap) c.b.es) (hp : InpsAt w (.slice pa pn pc) c.p) (hcap : pn ≤ pc) (hx : I64s c.p) (h0 : pn = 0) :
    Calls Tryz.prog 4 #[Cv c a n cap pa pn pc] w fun e w' => e = .returned (.bool true) ∧ Below w.heap.size w w' := by
  have AWK := Lib.hid (fun V (hV : Below w.heap.size w V) => awake_any V (hR.below hV) (hM.low hV hw) (Nat.le_trans hw hV.size))
  have FW := Lib.hid (fun V (hV : Below w.heap.size w V) => Few_any c a n cap pa pn pc V (EntsAt.below h hV) (InpsAt.below hp hV))
  have hpl : pn = c.p.length := ListAt.len hp
  have hpm : pn ≤ 1099511627776 := by
    rcases hp with ⟨hq, hn⟩ | ⟨b, off, cap', _, hl, _⟩
    · rw [hpl, hn]; simp
    · rw [hpl]; omega
  obtain ⟨id, gx, gy, ⟨t, es⟩, ack, p⟩ := c
  unfold Cv ccs at FW
  simp only at FW
  subst h0
  clear hR hM hw h hp hx hpl
  unfold Cv ccs
  simp only
  go_enter Tryz.func4, Tryz.ntmps4
  have HB1 := Lib.hid (show Bk (w.alloc (.cells #[.int .i64 id, .int .i64 gx, .int .i64 gy, .int .i64 t, .slice a n cap, .int .i64 ack, .slice pa 0 pc] 29)) w.heap.size #[.int .i64 id, .int .i64 gx, .int .i64 gy, .int .i64 t, .slice a n cap, .int .i64 ack, .slice pa 0 pc] 29 ∧ Below w.heap.size w (w.alloc (.cells #[.int .i64 id, .int .i64 gx, .int .i64 gy, .int .i64 t, .slice a n cap, .int .i64 ack, .slice pa 0 pc] 29)) from ⟨Bk.made _ _ _, by go_grown⟩)
  go_wp2_with fail
  refine (FW.out _ HB1.out.2).mono ?_
  rintro e V1 ⟨fb, rfl, hb1⟩
  have B1 := HB1.out.1.below hb1
  obtain ⟨hb, hs⟩ := below_cc hb1 HB1.out.2
  clear hb1 HB1 FW
  cases fb
  · go_wp2_with fail
    refine (AWK.out _ hb).mono ?_
    rintro e VA ⟨rfl, hbA⟩
    have hbE := (below_cc hbA hb).1
    clear hbA
    go_wp2
    go_returns
    exact ⟨rfl, hbE⟩
  · have s6 := B1.cell (v := .slice pa 0 pc) 6 rfl
    have lb := B1.lt
    go_wp2_with fail
    refine (AWK.out _ hb).mono ?_
    rintro e VA ⟨rfl, hbA⟩
    have hbE := (below_cc hbA hb).1
    clear hbA
    go_wp2
    go_returns
    exact ⟨rfl, hbE⟩
set_option maxHeartbeats 8000000 in
theorem steps_3 (c : Cli) (a : Option Addr) (n cap : Nat) (pa : Option Addr) (pn pc : Nat) (w : World) (hR : RG w) (hM : RM w) (hw : 2 ≤ w.heap.size) (h : EntsAt w (.slice a n cap) c.b.es) (hp : InpsAt w (.slice pa pn pc) c.p) (hcap : pn ≤ pc) (hx : I64s c.p) (h0 : 0 < pn) (hv : validC c = false) :
    Calls Tryz.prog 4 #[Cv c a n cap pa pn pc] w fun e w' => e = .returned (.bool true) ∧ Below w.heap.size w w' := by
  have AWK := Lib.hid (fun V (hV : Below w.heap.size w V) => awake_any V (hR.below hV) (hM.low hV hw) (Nat.le_trans hw hV.size))
  have FW := Lib.hid (fun V (hV : Below w.heap.size w V) => Few_any c a n cap pa pn pc V (EntsAt.below h hV) (InpsAt.below hp hV))
  have hpl : pn = c.p.length := ListAt.len hp
  have hpm : pn ≤ 1099511627776 := by
    rcases hp with ⟨hq, hn⟩ | ⟨b, off, cap', _, hl, _⟩
    · rw [hpl, hn]; simp
    · rw [hpl]; omega
  obtain ⟨m, rfl⟩ : ∃ m, pn = m + 1 := ⟨pn - 1, by omega⟩
  obtain ⟨l, x, hlx, hlm, hxm⟩ := last_of hpl.symm
  have hpl2 : InpsAt w (.slice pa m pc) l := InpsAt.less (by rw [← hlx]; exact hp) hlm
  have hxl : I64s l := fun y hy => hx y (by rw [hlx]; exact List.mem_append_left _ hy)
  have hxx : I64 x.mx ∧ I64 x.my := hx x (by rw [hlx]; simp)
  have VW := Lib.hid (fun V (hV : Below w.heap.size w V) => view_any c a n cap pa (m + 1) pc V (hR.below hV) (hM.low hV hw) (Nat.le_trans hw hV.size) (EntsAt.below h hV) (InpsAt.below hp hV) hx)
  have VL := Lib.hid (fun V (hV : Below w.heap.size w V) => view_any ⟨c.id, c.gx, c.gy, c.b, c.ack, l⟩ a n cap pa m pc V (hR.below hV) (hM.low hV hw) (Nat.le_trans hw hV.size) (EntsAt.below h hV) (InpsAt.below hpl2 hV) hxl)
  have VC := Lib.hid (fun V (hV : Below w.heap.size w V) => cvalid_any c a n cap pa (m + 1) pc V (hR.below hV) (EntsAt.below h hV) (InpsAt.below hp hV))
  have hv1 : viewR c = (⟨0, []⟩, 2) := by unfold viewR; rw [hv, if_neg (by decide)]
  rw [hv1] at VW
  rw [hv] at VC
  obtain ⟨⟨⟨Rt, Res⟩, Re⟩, hRR⟩ : ∃ R, viewR ⟨c.id, c.gx, c.gy, c.b, c.ack, l⟩ = R := ⟨_, rfl⟩
  rw [hRR] at VL
  obtain ⟨id, gx, gy, ⟨t, es⟩, ack, p⟩ := c
  unfold Cv ccs at FW VW VL VC
  simp only at FW VW VL VC
  have d5 : ((m : Int) + 1 == 0) = false := by simp; omega
  have d5b : ((m + 1 : Nat) == 0) = false := by simp
  have d5w : IntKind.i64.wrap (m : Int) = (m : Int) := by rw [IntKind.wrap_i64]; omega
  have d5c : m ≤ pc := by omega
  have d5m : (m : Int) < (m : Int) + 1 := by omega
  have d5n : (0 : Int) ≤ (m : Int) := by omega
  clear hR hM hw h hp hx hpl hv hlx hlm hxm hpl2 hxl hxx hv1 hRR
  unfold Cv ccs
  simp only
  go_enter Tryz.func4, Tryz.ntmps4
  have HB1 := Lib.hid (show Bk (w.alloc (.cells #[.int .i64 id, .int .i64 gx, .int .i64 gy, .int .i64 t, .slice a n cap, .int .i64 ack, .slice pa (m + 1) pc] 29)) w.heap.size #[.int .i64 id, .int .i64 gx, .int .i64 gy, .int .i64 t, .slice a n cap, .int .i64 ack, .slice pa (m + 1) pc] 29 ∧ Below w.heap.size w (w.alloc (.cells #[.int .i64 id, .int .i64 gx, .int .i64 gy, .int .i64 t, .slice a n cap, .int .i64 ack, .slice pa (m + 1) pc] 29)) from ⟨Bk.made _ _ _, by go_grown⟩)
  go_wp2_with fail
  refine (FW.out _ HB1.out.2).mono ?_
  rintro e V1 ⟨fb, rfl, hb1⟩
  have B1 := HB1.out.1.below hb1
  obtain ⟨hb, hs⟩ := below_cc hb1 HB1.out.2
  clear hb1 HB1 FW
  cases fb
  · go_wp2_with fail
    refine (AWK.out _ hb).mono ?_
    rintro e VA ⟨rfl, hbA⟩
    have hbE := (below_cc hbA hb).1
    clear hbA
    go_wp2
    go_returns
    exact ⟨rfl, hbE⟩
  · have s0 := B1.cell (v := .int .i64 id) 0 rfl
    have s1 := B1.cell (v := .int .i64 gx) 1 rfl
    have s2 := B1.cell (v := .int .i64 gy) 2 rfl
    have s3 := B1.cell (v := .int .i64 t) 3 rfl
    have s4 := B1.cell (v := .slice a n cap) 4 rfl
    have s5 := B1.cell (v := .int .i64 ack) 5 rfl
    have s6 := B1.cell (v := .slice pa (m + 1) pc) 6 rfl
    have sl := B1.lt
    have HB := Lib.hid (And.intro hb hs)
    clear hb hs
    go_upto_region 4 with fail
    refine wp_name (fun V => Bk V w.heap.size #[.int .i64 id, .int .i64 gx, .int .i64 gy, .int .i64 t, .slice a n cap, .int .i64 ack, .slice pa (m + 1) pc] 29 ∧ Bk V V1.heap.size #[.int .i64 id, .int .i64 gx, .int .i64 gy, .int .i64 t, .slice a n cap, .int .i64 ack, .slice pa (m + 1) pc] 29 ∧ Below w.heap.size w V) ⟨B1.alloc _, Bk.made _ _ _, HB.out.1.alloc HB.out.2 _⟩ ?_
    have n13 := B1.lt
    obtain ⟨g3, hg3⟩ : ∃ g, V1.heap.size = g := ⟨_, rfl⟩
    rw [hg3] at n13 ⊢
    have hs1 := HB.out.2
    rw [hg3] at hs1
    clear hg3 HB B1 s0 s1 s2 s3 s4 s5 s6 sl
    rintro V2 ⟨B1, B3, hb⟩
    have n31 : w.heap.size ≠ g3 := Nat.ne_of_lt n13
    have HX := Lib.hid (And.intro (B1.far (p := ⟨g3, 6, none⟩) n31 (.slice pa m pc)) (And.intro (B3.put 6 (.slice pa m pc)) (hb.setCell (p := ⟨g3, 6, none⟩) hs1 (.slice pa m pc))))
    have s6 := B1.cell (v := .slice pa (m + 1) pc) 6 rfl
    have sl := B1.lt
    have r6 := B3.cell (v := .slice pa (m + 1) pc) 6 rfl
    have rf := B3.free 6
    have rl := B3.lt
    clear B1 B3 hb n31 n13
    go_upto_region 5 with fail
    refine wp_name (fun V => Bk V w.heap.size #[.int .i64 id, .int .i64 gx, .int .i64 gy, .int .i64 t, .slice a n cap, .int .i64 ack, .slice pa (m + 1) pc] 29 ∧ Bk V g3 #[.int .i64 id, .int .i64 gx, .int .i64 gy, .int .i64 t, .slice a n cap, .int .i64 ack, .slice pa m pc] 29 ∧ Below w.heap.size w V) HX.out ?_
    clear HX s6 sl r6 rf rl
    rintro V3 ⟨B1, B3, hb⟩
    have s0 := B1.cell (v := .int .i64 id) 0 rfl
    have s1 := B1.cell (v := .int .i64 gx) 1 rfl
    have s2 := B1.cell (v := .int .i64 gy) 2 rfl
    have s3 := B1.cell (v := .int .i64 t) 3 rfl
    have s4 := B1.cell (v := .slice a n cap) 4 rfl
    have s5 := B1.cell (v := .int .i64 ack) 5 rfl
    have s6 := B1.cell (v := .slice pa (m + 1) pc) 6 rfl
    have sl := B1.lt
    go_wp2_with fail
    refine (VW.out _ hb).mono ?_
    rintro e V4 ⟨va, vn, vc, rfl, hFv, hb4⟩
    replace B1 := B1.below hb4
    replace B3 := B3.below hb4
    obtain ⟨hb, hs⟩ := below_cc hb4 hb
    clear hb4 VW s0 s1 s2 s3 s4 s5 s6 sl
    (try unfold Wv)
    (try simp only)
    have HB := Lib.hid (And.intro hb (And.intro hs hFv))
    clear hb hs hFv
    go_upto_region 6 with fail
    refine wp_name (fun V => (Bk V w.heap.size #[.int .i64 id, .int .i64 gx, .int .i64 gy, .int .i64 t, .slice a n cap, .int .i64 ack, .slice pa (m + 1) pc] 29 ∧ Bk V g3 #[.int .i64 id, .int .i64 gx, .int .i64 gy, .int .i64 t, .slice a n cap, .int .i64 ack, .slice pa m pc] 29 ∧ Below w.heap.size w V) ∧ Bk V V4.heap.size #[.int .i64 0, .slice va vn vc] 26 ∧ EntsAt V (.slice va vn vc) ([] : List Ent)) ⟨⟨B1.alloc _, B3.alloc _, HB.out.1.alloc HB.out.2.1 _⟩, Bk.made _ _ _, EntsAt.below HB.out.2.2.ents ((Below.refl _ _).alloc (Nat.le_refl _) _)⟩ ?_
    obtain ⟨g4, hg4⟩ : ∃ g, V4.heap.size = g := ⟨_, rfl⟩
    rw [hg4]
    clear hg4 HB B1 B3
    rintro V5 ⟨⟨B1, B3, hb⟩, B4, hE4⟩
    have s0 := B3.cell (v := .int .i64 id) 0 rfl
    have s1 := B3.cell (v := .int .i64 gx) 1 rfl
    have s2 := B3.cell (v := .int .i64 gy) 2 rfl
    have s3 := B3.cell (v := .int .i64 t) 3 rfl
    have s4 := B3.cell (v := .slice a n cap) 4 rfl
    have s5 := B3.cell (v := .int .i64 ack) 5 rfl
    have s6 := B3.cell (v := .slice pa m pc) 6 rfl
    have sl := B3.lt
    go_wp2_with fail
    refine (VL.out _ hb).mono ?_
    rintro e V6 ⟨ua, un, uc, rfl, hFu, hb4⟩
    replace B1 := B1.below hb4
    replace B4 := B4.below hb4
    have hE4' := EntsAt.below hE4 hb4
    obtain ⟨hb, hs⟩ := below_cc hb4 hb
    clear hb4 VL B3 hE4 s0 s1 s2 s3 s4 s5 s6 sl
    (try unfold Wv)
    (try simp only)
    have HB := Lib.hid (And.intro hb (And.intro hs (And.intro hFu hE4')))
    clear hb hs hFu hE4'
    go_upto_region 7 with fail
    refine wp_name (fun V => (Bk V w.heap.size #[.int .i64 id, .int .i64 gx, .int .i64 gy, .int .i64 t, .slice a n cap, .int .i64 ack, .slice pa (m + 1) pc] 29 ∧ Below w.heap.size w V) ∧ (Bk V g4 #[.int .i64 0, .slice va vn vc] 26 ∧ EntsAt V (.slice va vn vc) ([] : List Ent)) ∧ Bk V V6.heap.size #[.int .i64 Rt, .slice ua un uc] 26 ∧ EntsAt V (.slice ua un uc) Res) ⟨⟨B1.alloc _, HB.out.1.alloc HB.out.2.1 _⟩, ⟨B4.alloc _, EntsAt.below HB.out.2.2.2 ((Below.refl _ _).alloc (Nat.le_refl _) _)⟩, Bk.made _ _ _, EntsAt.below HB.out.2.2.1.ents ((Below.refl _ _).alloc (Nat.le_refl _) _)⟩ ?_
    obtain ⟨g6, hg6⟩ : ∃ g, V6.heap.size = g := ⟨_, rfl⟩
    rw [hg6]
    clear hg6 HB B1 B4
    rintro V7 ⟨⟨B1, hb⟩, ⟨B4, hE4⟩, B6, hE6⟩
    have s0 := B1.cell (v := .int .i64 id) 0 rfl
    have s1 := B1.cell (v := .int .i64 gx) 1 rfl
    have s2 := B1.cell (v := .int .i64 gy) 2 rfl
    have s3 := B1.cell (v := .int .i64 t) 3 rfl
    have s4 := B1.cell (v := .slice a n cap) 4 rfl
    have s5 := B1.cell (v := .int .i64 ack) 5 rfl
    have s6 := B1.cell (v := .slice pa (m + 1) pc) 6 rfl
    have sl := B1.lt
    go_wp2_with fail
    refine (VC.out _ hb).mono ?_
    rintro e V8 ⟨rfl, hb4⟩
    replace B1 := B1.below hb4
    replace B4 := B4.below hb4
    replace B6 := B6.below hb4
    have hE4' := EntsAt.below hE4 hb4
    have hE6' := EntsAt.below hE6 hb4
    obtain ⟨hb, hs⟩ := below_cc hb4 hb
    clear hb4 VC hE4 hE6 s0 s1 s2 s3 s4 s5 s6 sl
    go_wp2_with fail
    refine (AWK.out _ hb).mono ?_
    rintro e VA ⟨rfl, hbA⟩
    have hbE := (below_cc hbA hb).1
    clear hbA
    go_wp2
    go_returns
    exact ⟨rfl, hbE⟩
set_option maxHeartbeats 8000000 in
theorem steps_4 (c : Cli) (a : Option Addr) (n cap : Nat) (pa : Option Addr) (pn pc : Nat) (w : World) (hR : RG w) (hM : RM w) (hw : 2 ≤ w.heap.size) (h : EntsAt w (.slice a n cap) c.b.es) (hp : InpsAt w (.slice pa pn pc) c.p) (hcap : pn ≤ pc) (hx : I64s c.p) (h0 : 0 < pn) (hv : validC c = true) (hf : ∀ l x, c.p = l ++ [x] → ¬ (viewM c.id c.gx c.gy l c.b).2 = 0) :
    Calls Tryz.prog 4 #[Cv c a n cap pa pn pc] w fun e w' => e = .returned (.bool true) ∧ Below w.heap.size w w' := by
  have AWK := Lib.hid (fun V (hV : Below w.heap.size w V) => awake_any V (hR.below hV) (hM.low hV hw) (Nat.le_trans hw hV.size))
  have FW := Lib.hid (fun V (hV : Below w.heap.size w V) => Few_any c a n cap pa pn pc V (EntsAt.below h hV) (InpsAt.below hp hV))
  have hpl : pn = c.p.length := ListAt.len hp
  have hpm : pn ≤ 1099511627776 := by
    rcases hp with ⟨hq, hn⟩ | ⟨b, off, cap', _, hl, _⟩
    · rw [hpl, hn]; simp
    · rw [hpl]; omega
  obtain ⟨m, rfl⟩ : ∃ m, pn = m + 1 := ⟨pn - 1, by omega⟩
  obtain ⟨l, x, hlx, hlm, hxm⟩ := last_of hpl.symm
  have hpl2 : InpsAt w (.slice pa m pc) l := InpsAt.less (by rw [← hlx]; exact hp) hlm
  have hxl : I64s l := fun y hy => hx y (by rw [hlx]; exact List.mem_append_left _ hy)
  have hxx : I64 x.mx ∧ I64 x.my := hx x (by rw [hlx]; simp)
  have VW := Lib.hid (fun V (hV : Below w.heap.size w V) => view_any c a n cap pa (m + 1) pc V (hR.below hV) (hM.low hV hw) (Nat.le_trans hw hV.size) (EntsAt.below h hV) (InpsAt.below hp hV) hx)
  have VL := Lib.hid (fun V (hV : Below w.heap.size w V) => view_any ⟨c.id, c.gx, c.gy, c.b, c.ack, l⟩ a n cap pa m pc V (hR.below hV) (hM.low hV hw) (Nat.le_trans hw hV.size) (EntsAt.below h hV) (InpsAt.below hpl2 hV) hxl)
  have VC := Lib.hid (fun V (hV : Below w.heap.size w V) => cvalid_any c a n cap pa (m + 1) pc V (hR.below hV) (EntsAt.below h hV) (InpsAt.below hp hV))
  have hvl := validC_less hv hlx
  obtain ⟨hn1, hn2, hn3, -, -, -⟩ := validC_parts hv
  have hv2 : viewR ⟨c.id, c.gx, c.gy, c.b, c.ack, l⟩ = viewM c.id c.gx c.gy l c.b := by unfold viewR; rw [hvl, if_pos rfl]
  have hv1 : viewR c = viewM c.id c.gx c.gy (l ++ [x]) c.b := by unfold viewR; rw [hv, if_pos rfl, hlx]
  rw [view_snoc] at hv1
  rw [hv2] at VL
  rw [hv] at VC
  obtain ⟨R, hRR⟩ : ∃ R, viewM c.id c.gx c.gy l c.b = R := ⟨_, rfl⟩
  have her := view_errs hn1 hn2 l hn3
  rw [hRR] at her hv1 VL
  have hf' : ¬ R.2 = 0 := fun q => hf l x hlx (by rw [hRR]; exact q)
  have hR271 : R.2 = 271 := her.resolve_left hf'
  rw [if_neg hf', hR271] at hv1
  rw [hv1] at VW
  obtain ⟨⟨Rt, Res⟩, Re⟩ := R
  simp only at hR271
  subst hR271
  obtain ⟨id, gx, gy, ⟨t, es⟩, ack, p⟩ := c
  unfold Cv ccs at FW VW VL VC
  simp only at FW VW VL VC
  have d5 : ((m : Int) + 1 == 0) = false := by simp; omega
  have d5b : ((m + 1 : Nat) == 0) = false := by simp
  have d5w : IntKind.i64.wrap (m : Int) = (m : Int) := by rw [IntKind.wrap_i64]; omega
  have d5c : m ≤ pc := by omega
  have d5m : (m : Int) < (m : Int) + 1 := by omega
  have d5n : (0 : Int) ≤ (m : Int) := by omega
  clear hR hM hw h hp hx hpl hv hlx hlm hxm hpl2 hxl hxx hvl hn1 hn2 hn3 hv2 hv1 hRR her hf hf'
  unfold Cv ccs
  simp only
  go_enter Tryz.func4, Tryz.ntmps4
  have HB1 := Lib.hid (show Bk (w.alloc (.cells #[.int .i64 id, .int .i64 gx, .int .i64 gy, .int .i64 t, .slice a n cap, .int .i64 ack, .slice pa (m + 1) pc] 29)) w.heap.size #[.int .i64 id, .int .i64 gx, .int .i64 gy, .int .i64 t, .slice a n cap, .int .i64 ack, .slice pa (m + 1) pc] 29 ∧ Below w.heap.size w (w.alloc (.cells #[.int .i64 id, .int .i64 gx, .int .i64 gy, .int .i64 t, .slice a n cap, .int .i64 ack, .slice pa (m + 1) pc] 29)) from ⟨Bk.made _ _ _, by go_grown⟩)
  go_wp2_with fail
  refine (FW.out _ HB1.out.2).mono ?_
  rintro e V1 ⟨fb, rfl, hb1⟩
  have B1 := HB1.out.1.below hb1
  obtain ⟨hb, hs⟩ := below_cc hb1 HB1.out.2
  clear hb1 HB1 FW
  cases fb
  · go_wp2_with fail
    refine (AWK.out _ hb).mono ?_
    rintro e VA ⟨rfl, hbA⟩
    have hbE := (below_cc hbA hb).1
    clear hbA
    go_wp2
    go_returns
    exact ⟨rfl, hbE⟩
  · have s0 := B1.cell (v := .int .i64 id) 0 rfl
    have s1 := B1.cell (v := .int .i64 gx) 1 rfl
    have s2 := B1.cell (v := .int .i64 gy) 2 rfl
    have s3 := B1.cell (v := .int .i64 t) 3 rfl
    have s4 := B1.cell (v := .slice a n cap) 4 rfl
    have s5 := B1.cell (v := .int .i64 ack) 5 rfl
    have s6 := B1.cell (v := .slice pa (m + 1) pc) 6 rfl
    have sl := B1.lt
    have HB := Lib.hid (And.intro hb hs)
    clear hb hs
    go_upto_region 4 with fail
    refine wp_name (fun V => Bk V w.heap.size #[.int .i64 id, .int .i64 gx, .int .i64 gy, .int .i64 t, .slice a n cap, .int .i64 ack, .slice pa (m + 1) pc] 29 ∧ Bk V V1.heap.size #[.int .i64 id, .int .i64 gx, .int .i64 gy, .int .i64 t, .slice a n cap, .int .i64 ack, .slice pa (m + 1) pc] 29 ∧ Below w.heap.size w V) ⟨B1.alloc _, Bk.made _ _ _, HB.out.1.alloc HB.out.2 _⟩ ?_
    have n13 := B1.lt
    obtain ⟨g3, hg3⟩ : ∃ g, V1.heap.size = g := ⟨_, rfl⟩
    rw [hg3] at n13 ⊢
    have hs1 := HB.out.2
    rw [hg3] at hs1
    clear hg3 HB B1 s0 s1 s2 s3 s4 s5 s6 sl
    rintro V2 ⟨B1, B3, hb⟩
    have n31 : w.heap.size ≠ g3 := Nat.ne_of_lt n13
    have HX := Lib.hid (And.intro (B1.far (p := ⟨g3, 6, none⟩) n31 (.slice pa m pc)) (And.intro (B3.put 6 (.slice pa m pc)) (hb.setCell (p := ⟨g3, 6, none⟩) hs1 (.slice pa m pc))))
    have s6 := B1.cell (v := .slice pa (m + 1) pc) 6 rfl
    have sl := B1.lt
    have r6 := B3.cell (v := .slice pa (m + 1) pc) 6 rfl
    have rf := B3.free 6
    have rl := B3.lt
    clear B1 B3 hb n31 n13
    go_upto_region 5 with fail
    refine wp_name (fun V => Bk V w.heap.size #[.int .i64 id, .int .i64 gx, .int .i64 gy, .int .i64 t, .slice a n cap, .int .i64 ack, .slice pa (m + 1) pc] 29 ∧ Bk V g3 #[.int .i64 id, .int .i64 gx, .int .i64 gy, .int .i64 t, .slice a n cap, .int .i64 ack, .slice pa m pc] 29 ∧ Below w.heap.size w V) HX.out ?_
    clear HX s6 sl r6 rf rl
    rintro V3 ⟨B1, B3, hb⟩
    have s0 := B1.cell (v := .int .i64 id) 0 rfl
    have s1 := B1.cell (v := .int .i64 gx) 1 rfl
    have s2 := B1.cell (v := .int .i64 gy) 2 rfl
    have s3 := B1.cell (v := .int .i64 t) 3 rfl
    have s4 := B1.cell (v := .slice a n cap) 4 rfl
    have s5 := B1.cell (v := .int .i64 ack) 5 rfl
    have s6 := B1.cell (v := .slice pa (m + 1) pc) 6 rfl
    have sl := B1.lt
    go_wp2_with fail
    refine (VW.out _ hb).mono ?_
    rintro e V4 ⟨va, vn, vc, rfl, hFv, hb4⟩
    replace B1 := B1.below hb4
    replace B3 := B3.below hb4
    obtain ⟨hb, hs⟩ := below_cc hb4 hb
    clear hb4 VW s0 s1 s2 s3 s4 s5 s6 sl
    (try unfold Wv)
    (try simp only)
    have HB := Lib.hid (And.intro hb (And.intro hs hFv))
    clear hb hs hFv
    go_upto_region 6 with fail
    refine wp_name (fun V => (Bk V w.heap.size #[.int .i64 id, .int .i64 gx, .int .i64 gy, .int .i64 t, .slice a n cap, .int .i64 ack, .slice pa (m + 1) pc] 29 ∧ Bk V g3 #[.int .i64 id, .int .i64 gx, .int .i64 gy, .int .i64 t, .slice a n cap, .int .i64 ack, .slice pa m pc] 29 ∧ Below w.heap.size w V) ∧ Bk V V4.heap.size #[.int .i64 0, .slice va vn vc] 26 ∧ EntsAt V (.slice va vn vc) ([] : List Ent)) ⟨⟨B1.alloc _, B3.alloc _, HB.out.1.alloc HB.out.2.1 _⟩, Bk.made _ _ _, EntsAt.below HB.out.2.2.ents ((Below.refl _ _).alloc (Nat.le_refl _) _)⟩ ?_
    obtain ⟨g4, hg4⟩ : ∃ g, V4.heap.size = g := ⟨_, rfl⟩
    rw [hg4]
    clear hg4 HB B1 B3
    rintro V5 ⟨⟨B1, B3, hb⟩, B4, hE4⟩
    have s0 := B3.cell (v := .int .i64 id) 0 rfl
    have s1 := B3.cell (v := .int .i64 gx) 1 rfl
    have s2 := B3.cell (v := .int .i64 gy) 2 rfl
    have s3 := B3.cell (v := .int .i64 t) 3 rfl
    have s4 := B3.cell (v := .slice a n cap) 4 rfl
    have s5 := B3.cell (v := .int .i64 ack) 5 rfl
    have s6 := B3.cell (v := .slice pa m pc) 6 rfl
    have sl := B3.lt
    go_wp2_with fail
    refine (VL.out _ hb).mono ?_
    rintro e V6 ⟨ua, un, uc, rfl, hFu, hb4⟩
    replace B1 := B1.below hb4
    replace B4 := B4.below hb4
    have hE4' := EntsAt.below hE4 hb4
    obtain ⟨hb, hs⟩ := below_cc hb4 hb
    clear hb4 VL B3 hE4 s0 s1 s2 s3 s4 s5 s6 sl
    (try unfold Wv)
    (try simp only)
    have HB := Lib.hid (And.intro hb (And.intro hs (And.intro hFu hE4')))
    clear hb hs hFu hE4'
    go_upto_region 7 with fail
    refine wp_name (fun V => (Bk V w.heap.size #[.int .i64 id, .int .i64 gx, .int .i64 gy, .int .i64 t, .slice a n cap, .int .i64 ack, .slice pa (m + 1) pc] 29 ∧ Below w.heap.size w V) ∧ (Bk V g4 #[.int .i64 0, .slice va vn vc] 26 ∧ EntsAt V (.slice va vn vc) ([] : List Ent)) ∧ Bk V V6.heap.size #[.int .i64 Rt, .slice ua un uc] 26 ∧ EntsAt V (.slice ua un uc) Res) ⟨⟨B1.alloc _, HB.out.1.alloc HB.out.2.1 _⟩, ⟨B4.alloc _, EntsAt.below HB.out.2.2.2 ((Below.refl _ _).alloc (Nat.le_refl _) _)⟩, Bk.made _ _ _, EntsAt.below HB.out.2.2.1.ents ((Below.refl _ _).alloc (Nat.le_refl _) _)⟩ ?_
    obtain ⟨g6, hg6⟩ : ∃ g, V6.heap.size = g := ⟨_, rfl⟩
    rw [hg6]
    clear hg6 HB B1 B4
    rintro V7 ⟨⟨B1, hb⟩, ⟨B4, hE4⟩, B6, hE6⟩
    have s0 := B1.cell (v := .int .i64 id) 0 rfl
    have s1 := B1.cell (v := .int .i64 gx) 1 rfl
    have s2 := B1.cell (v := .int .i64 gy) 2 rfl
    have s3 := B1.cell (v := .int .i64 t) 3 rfl
    have s4 := B1.cell (v := .slice a n cap) 4 rfl
    have s5 := B1.cell (v := .int .i64 ack) 5 rfl
    have s6 := B1.cell (v := .slice pa (m + 1) pc) 6 rfl
    have sl := B1.lt
    go_wp2_with fail
    refine (VC.out _ hb).mono ?_
    rintro e V8 ⟨rfl, hb4⟩
    replace B1 := B1.below hb4
    replace B4 := B4.below hb4
    replace B6 := B6.below hb4
    have hE4' := EntsAt.below hE4 hb4
    have hE6' := EntsAt.below hE6 hb4
    obtain ⟨hb, hs⟩ := below_cc hb4 hb
    clear hb4 VC hE4 hE6 s0 s1 s2 s3 s4 s5 s6 sl
    go_wp2_with fail
    refine (AWK.out _ hb).mono ?_
    rintro e VA ⟨rfl, hbA⟩
    have hbE := (below_cc hbA hb).1
    clear hbA
    go_wp2
    go_returns
    exact ⟨rfl, hbE⟩
set_option maxHeartbeats 8000000 in
theorem steps_5 (c : Cli) (a : Option Addr) (n cap : Nat) (pa : Option Addr) (pn pc : Nat) (w : World) (hR : RG w) (hM : RM w) (hw : 2 ≤ w.heap.size) (h : EntsAt w (.slice a n cap) c.b.es) (hp : InpsAt w (.slice pa pn pc) c.p) (hcap : pn ≤ pc) (hx : I64s c.p) (h0 : 0 < pn) (hv : validC c = true) (hf : ∀ l x, c.p = l ++ [x] → (viewM c.id c.gx c.gy l c.b).2 = 0) :
    Calls Tryz.prog 4 #[Cv c a n cap pa pn pc] w fun e w' => e = .returned (.bool true) ∧ Below w.heap.size w w' := by
  have AWK := Lib.hid (fun V (hV : Below w.heap.size w V) => awake_any V (hR.below hV) (hM.low hV hw) (Nat.le_trans hw hV.size))
  have FW := Lib.hid (fun V (hV : Below w.heap.size w V) => Few_any c a n cap pa pn pc V (EntsAt.below h hV) (InpsAt.below hp hV))
  have hpl : pn = c.p.length := ListAt.len hp
  have hpm : pn ≤ 1099511627776 := by
    rcases hp with ⟨hq, hn⟩ | ⟨b, off, cap', _, hl, _⟩
    · rw [hpl, hn]; simp
    · rw [hpl]; omega
  obtain ⟨m, rfl⟩ : ∃ m, pn = m + 1 := ⟨pn - 1, by omega⟩
  obtain ⟨l, x, hlx, hlm, hxm⟩ := last_of hpl.symm
  have hpl2 : InpsAt w (.slice pa m pc) l := InpsAt.less (by rw [← hlx]; exact hp) hlm
  have hxl : I64s l := fun y hy => hx y (by rw [hlx]; exact List.mem_append_left _ hy)
  have hxx : I64 x.mx ∧ I64 x.my := hx x (by rw [hlx]; simp)
  have VW := Lib.hid (fun V (hV : Below w.heap.size w V) => view_any c a n cap pa (m + 1) pc V (hR.below hV) (hM.low hV hw) (Nat.le_trans hw hV.size) (EntsAt.below h hV) (InpsAt.below hp hV) hx)
  have VL := Lib.hid (fun V (hV : Below w.heap.size w V) => view_any ⟨c.id, c.gx, c.gy, c.b, c.ack, l⟩ a n cap pa m pc V (hR.below hV) (hM.low hV hw) (Nat.le_trans hw hV.size) (EntsAt.below h hV) (InpsAt.below hpl2 hV) hxl)
  have VC := Lib.hid (fun V (hV : Below w.heap.size w V) => cvalid_any c a n cap pa (m + 1) pc V (hR.below hV) (EntsAt.below h hV) (InpsAt.below hp hV))
  have PR := Lib.hid (fun V (hV : Below w.heap.size w V) (W : Wld) a n k (hF : EntsAt V (.slice a n k) W.es) => predict_fresh W a n k c.id c.gx c.gy x V (hR.below hV) (hM.low hV hw) (Nat.le_trans hw hV.size) hF hxx)
  have hvl := validC_less hv hlx
  obtain ⟨hn1, hn2, hn3, -, -, -⟩ := validC_parts hv
  have hv2 : viewR ⟨c.id, c.gx, c.gy, c.b, c.ack, l⟩ = viewM c.id c.gx c.gy l c.b := by unfold viewR; rw [hvl, if_pos rfl]
  have hv1 : viewR c = viewM c.id c.gx c.gy (l ++ [x]) c.b := by unfold viewR; rw [hv, if_pos rfl, hlx]
  rw [view_snoc] at hv1
  rw [hv2] at VL
  rw [hv] at VC
  obtain ⟨R, hRR⟩ : ∃ R, viewM c.id c.gx c.gy l c.b = R := ⟨_, rfl⟩
  have her := view_errs hn1 hn2 l hn3
  rw [hRR] at her hv1 VL
  have hf' : R.2 = 0 := by have := hf l x hlx; rw [hRR] at this; exact this
  rw [if_pos hf'] at hv1
  obtain ⟨⟨Rt, Res⟩, Re⟩ := R
  simp only at hf' hv1
  subst hf'
  rw [hv1] at VW
  have PRR := Lib.hid (fun V (hV : Below w.heap.size w V) a n k hF => PR.out V hV ⟨Rt, Res⟩ a n k hF)
  obtain ⟨⟨⟨Pt, Pes⟩, Pe⟩, hPP⟩ : ∃ P, predR ⟨Rt, Res⟩ c.id c.gx c.gy x = P := ⟨_, rfl⟩
  rw [hPP] at VW PRR
  obtain ⟨xb, xo, hxa, hxc⟩ : ∃ b off, pa = some ⟨b, off, none⟩ ∧ InpAt w b (off + m * 10) x := by
    rcases hp with ⟨hq, hn⟩ | ⟨b, off, cap', hq, hl, hc⟩
    · rw [hn] at hxm; cases hxm
    · injection hq with q1 q2 q3
      exact ⟨b, off, q1, hc m x hxm⟩
  subst hxa
  obtain ⟨id, gx, gy, ⟨t, es⟩, ack, p⟩ := c
  unfold Cv ccs at FW VW VL VC
  simp only at FW VW VL VC PRR
  unfold Wv V2 Iv at PRR
  obtain ⟨xc, xs, xt, xmx, xmy, xfire, xax, xay, xseen, xpart⟩ := x
  simp only at PRR hxc
  have d5 : ((m : Int) + 1 == 0) = false := by simp; omega
  have d5b : ((m + 1 : Nat) == 0) = false := by simp
  have d5w : IntKind.i64.wrap (m : Int) = (m : Int) := by rw [IntKind.wrap_i64]; omega
  have d5c : m ≤ pc := by omega
  have d5m : (m : Int) < (m : Int) + 1 := by omega
  have d5n : (0 : Int) ≤ (m : Int) := by omega
  clear hR hM hw h hp hx hpl hv hlx hlm hxm hpl2 hxl hxx hvl hn1 hn2 hn3 hv2 hv1 hRR her hf PR hPP
  unfold Cv ccs
  simp only
  go_enter Tryz.func4, Tryz.ntmps4
  have HB1 := Lib.hid (show Bk (w.alloc (.cells #[.int .i64 id, .int .i64 gx, .int .i64 gy, .int .i64 t, .slice a n cap, .int .i64 ack, .slice (some ⟨xb, xo, none⟩) (m + 1) pc] 29)) w.heap.size #[.int .i64 id, .int .i64 gx, .int .i64 gy, .int .i64 t, .slice a n cap, .int .i64 ack, .slice (some ⟨xb, xo, none⟩) (m + 1) pc] 29 ∧ Below w.heap.size w (w.alloc (.cells #[.int .i64 id, .int .i64 gx, .int .i64 gy, .int .i64 t, .slice a n cap, .int .i64 ack, .slice (some ⟨xb, xo, none⟩) (m + 1) pc] 29)) from ⟨Bk.made _ _ _, by go_grown⟩)
  go_wp2_with fail
  refine (FW.out _ HB1.out.2).mono ?_
  rintro e V1 ⟨fb, rfl, hb1⟩
  have B1 := HB1.out.1.below hb1
  obtain ⟨hb, hs⟩ := below_cc hb1 HB1.out.2
  clear hb1 HB1 FW
  cases fb
  · go_wp2_with fail
    refine (AWK.out _ hb).mono ?_
    rintro e VA ⟨rfl, hbA⟩
    have hbE := (below_cc hbA hb).1
    clear hbA
    go_wp2
    go_returns
    exact ⟨rfl, hbE⟩
  · have s0 := B1.cell (v := .int .i64 id) 0 rfl
    have s1 := B1.cell (v := .int .i64 gx) 1 rfl
    have s2 := B1.cell (v := .int .i64 gy) 2 rfl
    have s3 := B1.cell (v := .int .i64 t) 3 rfl
    have s4 := B1.cell (v := .slice a n cap) 4 rfl
    have s5 := B1.cell (v := .int .i64 ack) 5 rfl
    have s6 := B1.cell (v := .slice (some ⟨xb, xo, none⟩) (m + 1) pc) 6 rfl
    have sl := B1.lt
    have HB := Lib.hid (And.intro hb hs)
    clear hb hs
    go_upto_region 4 with fail
    refine wp_name (fun V => Bk V w.heap.size #[.int .i64 id, .int .i64 gx, .int .i64 gy, .int .i64 t, .slice a n cap, .int .i64 ack, .slice (some ⟨xb, xo, none⟩) (m + 1) pc] 29 ∧ Bk V V1.heap.size #[.int .i64 id, .int .i64 gx, .int .i64 gy, .int .i64 t, .slice a n cap, .int .i64 ack, .slice (some ⟨xb, xo, none⟩) (m + 1) pc] 29 ∧ Below w.heap.size w V) ⟨B1.alloc _, Bk.made _ _ _, HB.out.1.alloc HB.out.2 _⟩ ?_
    have n13 := B1.lt
    obtain ⟨g3, hg3⟩ : ∃ g, V1.heap.size = g := ⟨_, rfl⟩
    rw [hg3] at n13 ⊢
    have hs1 := HB.out.2
    rw [hg3] at hs1
    clear hg3 HB B1 s0 s1 s2 s3 s4 s5 s6 sl
    rintro V2 ⟨B1, B3, hb⟩
    have n31 : w.heap.size ≠ g3 := Nat.ne_of_lt n13
    have HX := Lib.hid (And.intro (B1.far (p := ⟨g3, 6, none⟩) n31 (.slice (some ⟨xb, xo, none⟩) m pc)) (And.intro (B3.put 6 (.slice (some ⟨xb, xo, none⟩) m pc)) (hb.setCell (p := ⟨g3, 6, none⟩) hs1 (.slice (some ⟨xb, xo, none⟩) m pc))))
    have s6 := B1.cell (v := .slice (some ⟨xb, xo, none⟩) (m + 1) pc) 6 rfl
    have sl := B1.lt
    have r6 := B3.cell (v := .slice (some ⟨xb, xo, none⟩) (m + 1) pc) 6 rfl
    have rf := B3.free 6
    have rl := B3.lt
    clear B1 B3 hb n31 n13
    go_upto_region 5 with fail
    refine wp_name (fun V => Bk V w.heap.size #[.int .i64 id, .int .i64 gx, .int .i64 gy, .int .i64 t, .slice a n cap, .int .i64 ack, .slice (some ⟨xb, xo, none⟩) (m + 1) pc] 29 ∧ Bk V g3 #[.int .i64 id, .int .i64 gx, .int .i64 gy, .int .i64 t, .slice a n cap, .int .i64 ack, .slice (some ⟨xb, xo, none⟩) m pc] 29 ∧ Below w.heap.size w V) HX.out ?_
    clear HX s6 sl r6 rf rl
    rintro V3 ⟨B1, B3, hb⟩
    have s0 := B1.cell (v := .int .i64 id) 0 rfl
    have s1 := B1.cell (v := .int .i64 gx) 1 rfl
    have s2 := B1.cell (v := .int .i64 gy) 2 rfl
    have s3 := B1.cell (v := .int .i64 t) 3 rfl
    have s4 := B1.cell (v := .slice a n cap) 4 rfl
    have s5 := B1.cell (v := .int .i64 ack) 5 rfl
    have s6 := B1.cell (v := .slice (some ⟨xb, xo, none⟩) (m + 1) pc) 6 rfl
    have sl := B1.lt
    go_wp2_with fail
    refine (VW.out _ hb).mono ?_
    rintro e V4 ⟨va, vn, vc, rfl, hFv, hb4⟩
    replace B1 := B1.below hb4
    replace B3 := B3.below hb4
    obtain ⟨hb, hs⟩ := below_cc hb4 hb
    clear hb4 VW s0 s1 s2 s3 s4 s5 s6 sl
    (try unfold Wv)
    (try simp only)
    have HB := Lib.hid (And.intro hb (And.intro hs hFv))
    clear hb hs hFv
    go_upto_region 6 with fail
    refine wp_name (fun V => (Bk V w.heap.size #[.int .i64 id, .int .i64 gx, .int .i64 gy, .int .i64 t, .slice a n cap, .int .i64 ack, .slice (some ⟨xb, xo, none⟩) (m + 1) pc] 29 ∧ Bk V g3 #[.int .i64 id, .int .i64 gx, .int .i64 gy, .int .i64 t, .slice a n cap, .int .i64 ack, .slice (some ⟨xb, xo, none⟩) m pc] 29 ∧ Below w.heap.size w V) ∧ Bk V V4.heap.size #[.int .i64 Pt, .slice va vn vc] 26 ∧ EntsAt V (.slice va vn vc) Pes) ⟨⟨B1.alloc _, B3.alloc _, HB.out.1.alloc HB.out.2.1 _⟩, Bk.made _ _ _, EntsAt.below HB.out.2.2.ents ((Below.refl _ _).alloc (Nat.le_refl _) _)⟩ ?_
    obtain ⟨g4, hg4⟩ : ∃ g, V4.heap.size = g := ⟨_, rfl⟩
    rw [hg4]
    clear hg4 HB B1 B3
    rintro V5 ⟨⟨B1, B3, hb⟩, B4, hE4⟩
    have s0 := B3.cell (v := .int .i64 id) 0 rfl
    have s1 := B3.cell (v := .int .i64 gx) 1 rfl
    have s2 := B3.cell (v := .int .i64 gy) 2 rfl
    have s3 := B3.cell (v := .int .i64 t) 3 rfl
    have s4 := B3.cell (v := .slice a n cap) 4 rfl
    have s5 := B3.cell (v := .int .i64 ack) 5 rfl
    have s6 := B3.cell (v := .slice (some ⟨xb, xo, none⟩) m pc) 6 rfl
    have sl := B3.lt
    go_wp2_with fail
    refine (VL.out _ hb).mono ?_
    rintro e V6 ⟨ua, un, uc, rfl, hFu, hb4⟩
    replace B1 := B1.below hb4
    replace B4 := B4.below hb4
    have hE4' := EntsAt.below hE4 hb4
    obtain ⟨hb, hs⟩ := below_cc hb4 hb
    clear hb4 VL B3 hE4 s0 s1 s2 s3 s4 s5 s6 sl
    (try unfold Wv)
    (try simp only)
    have HB := Lib.hid (And.intro hb (And.intro hs (And.intro hFu hE4')))
    clear hb hs hFu hE4'
    go_upto_region 7 with fail
    refine wp_name (fun V => (Bk V w.heap.size #[.int .i64 id, .int .i64 gx, .int .i64 gy, .int .i64 t, .slice a n cap, .int .i64 ack, .slice (some ⟨xb, xo, none⟩) (m + 1) pc] 29 ∧ Below w.heap.size w V) ∧ (Bk V g4 #[.int .i64 Pt, .slice va vn vc] 26 ∧ EntsAt V (.slice va vn vc) Pes) ∧ Bk V V6.heap.size #[.int .i64 Rt, .slice ua un uc] 26 ∧ EntsAt V (.slice ua un uc) Res) ⟨⟨B1.alloc _, HB.out.1.alloc HB.out.2.1 _⟩, ⟨B4.alloc _, EntsAt.below HB.out.2.2.2 ((Below.refl _ _).alloc (Nat.le_refl _) _)⟩, Bk.made _ _ _, EntsAt.below HB.out.2.2.1.ents ((Below.refl _ _).alloc (Nat.le_refl _) _)⟩ ?_
    obtain ⟨g6, hg6⟩ : ∃ g, V6.heap.size = g := ⟨_, rfl⟩
    rw [hg6]
    clear hg6 HB B1 B4
    rintro V7 ⟨⟨B1, hb⟩, ⟨B4, hE4⟩, B6, hE6⟩
    have s0 := B1.cell (v := .int .i64 id) 0 rfl
    have s1 := B1.cell (v := .int .i64 gx) 1 rfl
    have s2 := B1.cell (v := .int .i64 gy) 2 rfl
    have s3 := B1.cell (v := .int .i64 t) 3 rfl
    have s4 := B1.cell (v := .slice a n cap) 4 rfl
    have s5 := B1.cell (v := .int .i64 ack) 5 rfl
    have s6 := B1.cell (v := .slice (some ⟨xb, xo, none⟩) (m + 1) pc) 6 rfl
    have sl := B1.lt
    go_wp2_with fail
    refine (VC.out _ hb).mono ?_
    rintro e V8 ⟨rfl, hb4⟩
    replace B1 := B1.below hb4
    replace B4 := B4.below hb4
    replace B6 := B6.below hb4
    have hE4' := EntsAt.below hE4 hb4
    have hE6' := EntsAt.below hE6 hb4
    obtain ⟨hb, hs⟩ := below_cc hb4 hb
    clear hb4 VC hE4 hE6 s0 s1 s2 s3 s4 s5 s6 sl
    go_upto_region 11 with fail
    have c0 := B1.cell (v := .int .i64 id) 0 rfl
    have c1 := B1.cell (v := .int .i64 gx) 1 rfl
    have c2 := B1.cell (v := .int .i64 gy) 2 rfl
    have c6 := B1.cell (v := .slice (some ⟨xb, xo, none⟩) (m + 1) pc) 6 rfl
    have r0 := B6.cell (v := .int .i64 Rt) 0 rfl
    have r1 := B6.cell (v := .slice ua un uc) 1 rfl
    obtain ⟨x_0, x_1, x_2, x_3, x_4, x_5, x_6, x_7, x_8, x_9⟩ := hxc
    replace x_0 := cell_later' hb x_0
    replace x_1 := cell_later' hb x_1
    replace x_2 := cell_later' hb x_2
    replace x_3 := cell_later' hb x_3
    replace x_4 := cell_later' hb x_4
    replace x_5 := cell_later' hb x_5
    replace x_6 := cell_later' hb x_6
    replace x_7 := cell_later' hb x_7
    replace x_8 := cell_later' hb x_8
    replace x_9 := cell_later' hb x_9
    have c0m := fun p : Mutd (fun _ : Nat => False) V8 => cell_mutd c0 (fun e => e) p
    have c1m := fun p : Mutd (fun _ : Nat => False) V8 => cell_mutd c1 (fun e => e) p
    have c2m := fun p : Mutd (fun _ : Nat => False) V8 => cell_mutd c2 (fun e => e) p
    have c6m := fun p : Mutd (fun _ : Nat => False) V8 => cell_mutd c6 (fun e => e) p
    have r0m := fun p : Mutd (fun _ : Nat => False) V8 => cell_mutd r0 (fun e => e) p
    have r1m := fun p : Mutd (fun _ : Nat => False) V8 => cell_mutd r1 (fun e => e) p
    have x_0m := fun p : Mutd (fun _ : Nat => False) V8 => cell_mutd x_0 (fun e => e) p
    have x_1m := fun p : Mutd (fun _ : Nat => False) V8 => cell_mutd x_1 (fun e => e) p
    have x_2m := fun p : Mutd (fun _ : Nat => False) V8 => cell_mutd x_2 (fun e => e) p
    have x_3m := fun p : Mutd (fun _ : Nat => False) V8 => cell_mutd x_3 (fun e => e) p
    have x_4m := fun p : Mutd (fun _ : Nat => False) V8 => cell_mutd x_4 (fun e => e) p
    have x_5m := fun p : Mutd (fun _ : Nat => False) V8 => cell_mutd x_5 (fun e => e) p
    have x_6m := fun p : Mutd (fun _ : Nat => False) V8 => cell_mutd x_6 (fun e => e) p
    have x_7m := fun p : Mutd (fun _ : Nat => False) V8 => cell_mutd x_7 (fun e => e) p
    have x_8m := fun p : Mutd (fun _ : Nat => False) V8 => cell_mutd x_8 (fun e => e) p
    have x_9m := fun p : Mutd (fun _ : Nat => False) V8 => cell_mutd x_9 (fun e => e) p
    have HK := Lib.hid (And.intro hb (And.intro B4 (And.intro hE4' hE6')))
    clear hb hs B1 B4 B6 hE4' hE6'
    refine wp_region_low3 (post1 14 (aPred (⟨Pt, Pes⟩, Pe))) (fun _ : Nat => False) [13] (sto1 17 18) 19 (by kernel_rfl) (fun b hb => hb.elim) (sto1_inj 17 18) (by kernel_rfl) ?_
    simp only [List.take, List.drop]
    iterate 13 (refine low3_step (sto1_no (by decide)) (fun K hK => ?_); go_simp; first | (refine hK _ ?_; clear hK K) | (apply Exists.intro; refine ⟨fun p => ?_, hK _ ?_⟩; clear hK K))
    refine low3_call 14 #[.agg #[.int .i64 Rt, .slice ua un uc], .int .i64 id, .agg #[.int .i64 gx, .int .i64 gy], .agg #[.int .i64 xc, .int .i64 xs, .int .i64 xt, .int .i64 xmx, .int .i64 xmy, .bool xfire, .int .i64 xax, .int .i64 xay, .int .i64 xseen, .int .i64 xpart]] (aPred (⟨Pt, Pes⟩, Pe)) (sto1_no (by decide)) (by decide) (by rfl) (fun w => by go_simp) (post1_same _ _) (fun V hV => by
    have hbV : Below V8.heap.size V8 V := Mut.below hV.1 (Nat.le_refl _) (fun _ _ e => e)
    exact (PRR.out V (below_cc hbV HK.out.1).1 ua un uc (EntsAt.below HK.out.2.2.2 hbV)).mono fun e w' ⟨a3, n3, c3, he, hF, hb3⟩ => ⟨_, he, ⟨a3, n3, c3, rfl, hF⟩, Mut.of_below hb3⟩) ?_
    rintro v13 w1 w2 - ⟨a3, n3, c3, rfl, hF3⟩ -
    unfold Wv
    (try simp only)
    iterate 3 (refine low3_step (sto1_no (by decide)) (fun K hK => ?_); go_simp; first | (refine hK _ ?_; clear hK K) | (apply Exists.intro; refine ⟨fun p => ?_, hK _ ?_⟩; clear hK K))
    refine low3_new (.cells #[.int .i64 0, .slice none 0 0] 26) (sto1_no (by decide)) (by rfl) (fun w => by go_simp; try rfl) ?_
    intro g8
    refine low3_sto 17 g8 #[.int .i64 0, .slice none 0 0] #[.int .i64 Pt, .slice a3 n3 c3] 26 rfl (by rfl) ⟨⟨17, .data⟩, by simp, rfl, rfl⟩ rfl (fun w B => by
    have lt := B.lt
    have c_0 := B.cell (v := .int .i64 0) 0 rfl
    have c_1 := B.cell (v := .slice none 0 0) 1 rfl
    have f_0 := B.free 0
    have f_1 := B.free 1
    go_simp
    show (w.setCell ⟨g8, 0, none⟩ (.int .i64 Pt)).setCell ⟨g8, 1, none⟩ (.slice a3 n3 c3) = putObj w g8 (.cells #[.int .i64 Pt, .slice a3 n3 c3] 26)
    rw [setCell_put B, setCell_put (putObj_heap B), putObj_twice]; rfl) ?_
    refine low3_nil ?_
    intro W9 hC
    obtain ⟨-, B8⟩ : _ ∧ Bk W9 g8 #[.int .i64 Pt, .slice a3 n3 c3] 26 := hC.made 17 g8 _ rfl
    have hfr : Below V8.heap.size V8 W9 := hC.fr.below (Nat.le_refl _) (fun _ _ e => e)
    have hF9 : Fresh w1.heap.size W9 (.slice a3 n3 c3) Pes := hF3.agree (fun b h1 h2 => hC.phi b (.inr (.inr ⟨h1, h2⟩)))
    have hE9 := hF9.ents
    have B4 := HK.out.2.1.below hfr
    have hE4 := EntsAt.below HK.out.2.2.1 hfr
    obtain ⟨hb, hs⟩ := below_cc hfr HK.out.1
    clear hC hF3 hF9 hfr HK c0 c1 c2 c6 r0 r1 x_0 x_1 x_2 x_3 x_4 x_5 x_6 x_7 x_8 x_9 c0m c1m c2m c6m r0m r1m x_0m x_1m x_2m x_3m x_4m x_5m x_6m x_7m x_8m x_9m
    have SM := Lib.hid (sameW_any ⟨Pt, Pes⟩ a3 n3 c3 va vn vc W9 hE9 hE4)
    unfold Wv at SM
    simp only at SM
    have y0 := B8.cell (v := .int .i64 Pt) 0 rfl
    have y1 := B8.cell (v := .slice a3 n3 c3) 1 rfl
    have z0 := B4.cell (v := .int .i64 Pt) 0 rfl
    have z1 := B4.cell (v := .slice va vn vc) 1 rfl
    have yl := B8.lt
    have zl := B4.lt
    go_wp2_with fail
    refine SM.out.mono ?_
    rintro e V10 ⟨rfl, hb10⟩
    obtain ⟨hb, hs⟩ := below_cc hb10 hb
    clear hb10 SM y0 y1 z0 z1 yl zl hE9 hE4 B4 B8
    go_wp2_with fail
    refine (AWK.out _ hb).mono ?_
    rintro e VA ⟨rfl, hbA⟩
    have hbE := (below_cc hbA hb).1
    clear hbA
    go_wp2
    go_returns
    exact ⟨rfl, hbE⟩
theorem steps_any (c : Cli) (a : Option Addr) (n cap : Nat) (pa : Option Addr) (pn pc : Nat) (w : World) (hR : RG w) (hM : RM w) (hw : 2 ≤ w.heap.size) (h : EntsAt w (.slice a n cap) c.b.es) (hp : InpsAt w (.slice pa pn pc) c.p) (hcap : pn ≤ pc) (hx : I64s c.p) :
    Calls Tryz.prog 4 #[Cv c a n cap pa pn pc] w fun e w' => e = .returned (.bool true) ∧ Below w.heap.size w w' := by
  rcases Nat.eq_zero_or_pos pn with h0 | h0
  · exact steps_2 c a n cap pa pn pc w hR hM hw h hp hcap hx h0
  · rcases hv : validC c with _ | _
    · exact steps_3 c a n cap pa pn pc w hR hM hw h hp hcap hx h0 hv
    · have hpl : pn = c.p.length := ListAt.len hp
      obtain ⟨m, hm⟩ : ∃ m, c.p.length = m + 1 := ⟨pn - 1, by omega⟩
      obtain ⟨l, x, hlx, -, -⟩ := last_of hm
      have uniq : ∀ l' x', c.p = l' ++ [x'] → l' = l := fun l' x' h' => by
        rw [hlx] at h'
        exact (List.append_inj_left' h' rfl).symm
      by_cases hf : (viewM c.id c.gx c.gy l c.b).2 = 0
      · exact steps_5 c a n cap pa pn pc w hR hM hw h hp hcap hx h0 hv (fun l' x' h' => by rw [uniq l' x' h']; exact hf)
      · exact steps_4 c a n cap pa pn pc w hR hM hw h hp hcap hx h0 hv (fun l' x' h' => by rw [uniq l' x' h']; exact hf)
end Go.Proofs.YtlcjkomfjgddeaaGreatDoor
