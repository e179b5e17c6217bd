/- The walk of ClientReconciles. -/
import Derived.Test.YtlcjkomfjgddeaaGreatDoorReconPlain
import Derived.Test.YtlcjkomfjgddeaaGreatDoorM41
import Derived.Test.YtlcjkomfjgddeaaGreatDoorM42
import Derived.Test.YtlcjkomfjgddeaaGreatDoorM39
import Derived.Deep.RegionHeld3
set_option linter.unusedVariables false
set_option linter.unusedSimpArgs false
namespace Go.Proofs.YtlcjkomfjgddeaaGreatDoor
open Go Go.RowKit Go.Sort
set_option maxRecDepth 100000
attribute [local go_sem] opLow opUpon opLow2 opUpon2 opLow3

theorem InpsRaw.below' {w w' : World} {v : Value} (h : InpsRaw w v) (hb : Below w.heap.size w w') : InpsRaw w' v :=
  SlRaw.below (fun b o ⟨x, hx, hi⟩ => ⟨x, InpAt.below' hb b o x hx, hi⟩) h
/-- entities that came in, or that are of the call's own -/
def HeldE (w V : World) (v : Value) (es : List Ent) : Prop := EntsAt w v es ∨ Fresh 0 V v es
theorem HeldE.ents {w V : World} {v : Value} {es : List Ent} (h : HeldE w V v es) (hb : Below w.heap.size w V) : EntsAt V v es := by
  rcases h with h | h
  · exact EntsAt.below h hb
  · exact h.ents
theorem HeldE.below {w V V' : World} {v : Value} {es : List Ent} (h : HeldE w V v es) (hb : Below V.heap.size V V') : HeldE w V' v es := by
  rcases h with h | h
  · exact .inl h
  · exact .inr (h.below hb)
theorem HeldE.set {w V : World} {v : Value} {es : List Ent} {p : Addr} {cs : Array Value} (h : HeldE w V v es) (hp : Bk V p.block cs 26) (u : Value) : HeldE w (V.setCell p u) v es := by
  rcases h with h | h
  · exact .inl h
  · exact .inr (h.set hp (by decide) (by decide) u)
/-- what stays -/
structure RS (w : World) (A1 A5 : Array Value) (g5 : Nat) (vv : Value) (ves : List Ent) (V : World) : Prop where
  b1 : Bk V w.heap.size A1 29
  b5 : Bk V g5 A5 26
  view : Fresh 0 V vv ves
  bel : Below w.heap.size w V
theorem RS.below {w : World} {A1 A5 : Array Value} {g5 : Nat} {vv : Value} {ves : List Ent} {V V' : World} (h : RS w A1 A5 g5 vv ves V) (hb : Below V.heap.size V V') : RS w A1 A5 g5 vv ves V' :=
  ⟨h.b1.below hb, h.b5.below hb, h.view.below hb, (below_cc hb h.bel).1⟩
theorem RS.set {w : World} {A1 A5 : Array Value} {g5 : Nat} {vv : Value} {ves : List Ent} {V : World} (h : RS w A1 A5 g5 vv ves V) {g : Nat} {cs : Array Value} (hp : Bk V g cs 26) (n1 : w.heap.size ≠ g) (n5 : g5 ≠ g) (hw : w.heap.size ≤ g) (i : Nat) (u : Value) : RS w A1 A5 g5 vv ves (V.setCell ⟨g, i, none⟩ u) :=
  ⟨h.b1.far (p := ⟨g, i, none⟩) n1 u, h.b5.far (p := ⟨g, i, none⟩) n5 u, h.view.set (p := ⟨g, i, none⟩) hp (by decide) (by decide) u, h.bel.setCell (p := ⟨g, i, none⟩) hw u⟩
theorem Bk.drew' {w : World} {g : Nat} {cs : Array Value} {t : TypeId} (h : Bk w g cs t) : Bk w.drew g cs t := h
theorem rcv_post {w : World} {c : Cli} {j : Nat} {st la : Int} {e : Ending} {w' : World} (h1 : lst c j = la) (h2 : (srv c j).t = st) (h : CFPost w (rcv c j, 0) e w') : ∃ da dn dc ea en ec, e = .returned (.tuple #[.agg #[.int .i64 c.id, .int .i64 c.gx, .int .i64 c.gy, .int .i64 st, .slice da dn dc, .int .i64 la, .slice ea en ec], .int .i64 0]) ∧ (EntsAt w' (.slice da dn dc) (srv c j).es ∧ InpsAt w' (.slice ea en ec) (c.p.drop j)) ∧ Below w.heap.size w w' := by
  subst h1 h2
  obtain ⟨a, n, cap, pa, pn, pc, he, hf, hb⟩ := h
  exact ⟨a, n, cap, pa, pn, pc, he, ⟨hf.1.ents, hf.2.inps⟩, hb⟩
set_option maxHeartbeats 16000000 in
theorem recon_1 (c : Cli) (a : Option Addr) (n cap : Nat) (pa : Option Addr) (pn pc : Nat) (nn : Int) (hn : 0 ≤ nn ∧ nn ≤ 255) (w : World) (hR : RG w) (hM : RM w) (hw : 2 ≤ w.heap.size) (h : EntsAt w (.slice a n cap) c.b.es) (hp : InpsAt w (.slice pa pn pc) c.p) (hcap : pn ≤ pc) (hx : I64s c.p) (hv : validC c = false) :
    Calls Tryz.prog 3 #[Cv c a n cap pa pn pc, .int .u8 nn] w fun e w' => e = .returned (.bool true) ∧ Below w.heap.size w w' := by
  have AWK := Lib.hid (fun V (hV : Below w.heap.size w V) => awake_any V (hR.below hV) (hM.low hV hw) (Nat.le_trans hw hV.size))
  have FW := Lib.hid (fun V (hV : Below w.heap.size w V) => Few_any c a n cap pa pn pc V (EntsAt.below h hV) (InpsAt.below hp hV))
  have VW := Lib.hid (fun V (hV : Below w.heap.size w V) => view_any c a n cap pa pn pc V (hR.below hV) (hM.low hV hw) (Nat.le_trans hw hV.size) (EntsAt.below h hV) (InpsAt.below hp hV) hx)
  have VC := Lib.hid (fun V (hV : Below w.heap.size w V) => cvalid_any c a n cap pa pn pc V (hR.below hV) (EntsAt.below h hV) (InpsAt.below hp hV))
  have hpl : pn = c.p.length := ListAt.len hp
  have hpm : pn < 1099511627776 := by rw [hpl]; exact hp.len64
  have hv1 : viewR c = (⟨0, []⟩, 2) := by unfold viewR; rw [hv, if_neg (by decide)]
  rw [hv1] at VW
  rw [hv] at VC
  clear hv hv1
  obtain ⟨id, gx, gy, ⟨t, es⟩, ack, p⟩ := c
  unfold Cv ccs at FW VW VC
  simp only at FW VW VC hpl
  clear hR hM hw h hp hx hpl
  unfold Cv ccs
  simp only
  go_enter Tryz.func3, Tryz.ntmps3
  have HB1 := Lib.hid (show Bk (w.alloc (.cells #[.int .i64 id, .int .i64 gx, .int .i64 gy, .int .i64 t, .slice a n cap, .int .i64 ack, .slice pa pn pc] 29)) w.heap.size #[.int .i64 id, .int .i64 gx, .int .i64 gy, .int .i64 t, .slice a n cap, .int .i64 ack, .slice pa pn pc] 29 ∧ Below w.heap.size w (w.alloc (.cells #[.int .i64 id, .int .i64 gx, .int .i64 gy, .int .i64 t, .slice a n cap, .int .i64 ack, .slice pa pn pc] 29)) from ⟨Bk.made _ _ _, by go_grown⟩)
  go_wp2_with fail
  refine (FW.out _ HB1.out.2).mono ?_
  rintro e V1 ⟨fb, rfl, hb1⟩
  have B1 := HB1.out.1.below hb1
  obtain ⟨hb, hs⟩ := below_cc hb1 HB1.out.2
  clear hb1 HB1 FW
  cases fb
  · go_wp2_with fail
    refine (AWK.out _ hb).mono ?_
    rintro e VA ⟨rfl, hbA⟩
    have hbE := (below_cc hbA hb).1
    clear hbA
    go_wp2
    go_returns
    exact ⟨rfl, hbE⟩
  · have s0 := B1.cell (v := .int .i64 id) 0 rfl
    have s1 := B1.cell (v := .int .i64 gx) 1 rfl
    have s2 := B1.cell (v := .int .i64 gy) 2 rfl
    have s3 := B1.cell (v := .int .i64 t) 3 rfl
    have s4 := B1.cell (v := .slice a n cap) 4 rfl
    have s5 := B1.cell (v := .int .i64 ack) 5 rfl
    have s6 := B1.cell (v := .slice pa pn pc) 6 rfl
    have sl := B1.lt
    go_wp2_with fail
    refine (VW.out _ hb).mono ?_
    rintro e V4 ⟨va, vn, vc, rfl, hFv, hb4⟩
    replace B1 := B1.below hb4
    obtain ⟨hb, hs⟩ := below_cc hb4 hb
    clear hb4 VW hFv s0 s1 s2 s3 s4 s5 s6 sl
    (try unfold Wv)
    (try simp only)
    go_upto_region 4 with fail
    refine wp_name (fun V => Bk V w.heap.size #[.int .i64 id, .int .i64 gx, .int .i64 gy, .int .i64 t, .slice a n cap, .int .i64 ack, .slice pa pn pc] 29 ∧ Below w.heap.size w V) ⟨B1.alloc _, hb.alloc hs _⟩ ?_
    clear B1 hb hs
    rintro V5 ⟨B1, hb⟩
    have s0 := B1.cell (v := .int .i64 id) 0 rfl
    have s1 := B1.cell (v := .int .i64 gx) 1 rfl
    have s2 := B1.cell (v := .int .i64 gy) 2 rfl
    have s3 := B1.cell (v := .int .i64 t) 3 rfl
    have s4 := B1.cell (v := .slice a n cap) 4 rfl
    have s5 := B1.cell (v := .int .i64 ack) 5 rfl
    have s6 := B1.cell (v := .slice pa pn pc) 6 rfl
    have sl := B1.lt
    go_wp2_with fail
    refine (VC.out _ hb).mono ?_
    rintro e V6 ⟨rfl, hb4⟩
    obtain ⟨hb, hs⟩ := below_cc hb4 hb
    clear hb4 VC B1 s0 s1 s2 s3 s4 s5 s6 sl
    go_wp2_with fail
    refine (AWK.out _ hb).mono ?_
    rintro e VA ⟨rfl, hbA⟩
    have hbE := (below_cc hbA hb).1
    clear hbA
    go_wp2
    go_returns
    exact ⟨rfl, hbE⟩
set_option maxHeartbeats 16000000 in
theorem recon_2 (c : Cli) (a : Option Addr) (n cap : Nat) (pa : Option Addr) (pn pc : Nat) (nn : Int) (hn : 0 ≤ nn ∧ nn ≤ 255) (w : World) (hR : RG w) (hM : RM w) (hw : 2 ≤ w.heap.size) (h : EntsAt w (.slice a n cap) c.b.es) (hp : InpsAt w (.slice pa pn pc) c.p) (hcap : pn ≤ pc) (hx : I64s c.p) (hv : validC c = true) (hf : ¬ (viewR c).2 = 0) :
    Calls Tryz.prog 3 #[Cv c a n cap pa pn pc, .int .u8 nn] w fun e w' => e = .returned (.bool true) ∧ Below w.heap.size w w' := by
  have AWK := Lib.hid (fun V (hV : Below w.heap.size w V) => awake_any V (hR.below hV) (hM.low hV hw) (Nat.le_trans hw hV.size))
  have FW := Lib.hid (fun V (hV : Below w.heap.size w V) => Few_any c a n cap pa pn pc V (EntsAt.below h hV) (InpsAt.below hp hV))
  have VW := Lib.hid (fun V (hV : Below w.heap.size w V) => view_any c a n cap pa pn pc V (hR.below hV) (hM.low hV hw) (Nat.le_trans hw hV.size) (EntsAt.below h hV) (InpsAt.below hp hV) hx)
  have VC := Lib.hid (fun V (hV : Below w.heap.size w V) => cvalid_any c a n cap pa pn pc V (hR.below hV) (EntsAt.below h hV) (InpsAt.below hp hV))
  have hpl : pn = c.p.length := ListAt.len hp
  have hpm : pn < 1099511627776 := by rw [hpl]; exact hp.len64
  have h271 : (viewR c).2 = 271 := by
    obtain ⟨hn1, hn2, hn3, -, -, -⟩ := validC_parts hv
    have := view_errs hn1 hn2 c.p hn3
    rw [← viewR_of hv] at this
    exact this.resolve_left hf
  obtain ⟨⟨⟨Rt, Res⟩, Re⟩, hRR⟩ : ∃ R, viewR c = R := ⟨_, rfl⟩
  rw [hRR] at VW h271
  simp only at h271
  subst h271
  rw [hv] at VC
  clear hv hf hRR
  obtain ⟨id, gx, gy, ⟨t, es⟩, ack, p⟩ := c
  unfold Cv ccs at FW VW VC
  simp only at FW VW VC hpl
  clear hR hM hw h hp hx hpl
  unfold Cv ccs
  simp only
  go_enter Tryz.func3, Tryz.ntmps3
  have HB1 := Lib.hid (show Bk (w.alloc (.cells #[.int .i64 id, .int .i64 gx, .int .i64 gy, .int .i64 t, .slice a n cap, .int .i64 ack, .slice pa pn pc] 29)) w.heap.size #[.int .i64 id, .int .i64 gx, .int .i64 gy, .int .i64 t, .slice a n cap, .int .i64 ack, .slice pa pn pc] 29 ∧ Below w.heap.size w (w.alloc (.cells #[.int .i64 id, .int .i64 gx, .int .i64 gy, .int .i64 t, .slice a n cap, .int .i64 ack, .slice pa pn pc] 29)) from ⟨Bk.made _ _ _, by go_grown⟩)
  go_wp2_with fail
  refine (FW.out _ HB1.out.2).mono ?_
  rintro e V1 ⟨fb, rfl, hb1⟩
  have B1 := HB1.out.1.below hb1
  obtain ⟨hb, hs⟩ := below_cc hb1 HB1.out.2
  clear hb1 HB1 FW
  cases fb
  · go_wp2_with fail
    refine (AWK.out _ hb).mono ?_
    rintro e VA ⟨rfl, hbA⟩
    have hbE := (below_cc hbA hb).1
    clear hbA
    go_wp2
    go_returns
    exact ⟨rfl, hbE⟩
  · have s0 := B1.cell (v := .int .i64 id) 0 rfl
    have s1 := B1.cell (v := .int .i64 gx) 1 rfl
    have s2 := B1.cell (v := .int .i64 gy) 2 rfl
    have s3 := B1.cell (v := .int .i64 t) 3 rfl
    have s4 := B1.cell (v := .slice a n cap) 4 rfl
    have s5 := B1.cell (v := .int .i64 ack) 5 rfl
    have s6 := B1.cell (v := .slice pa pn pc) 6 rfl
    have sl := B1.lt
    go_wp2_with fail
    refine (VW.out _ hb).mono ?_
    rintro e V4 ⟨va, vn, vc, rfl, hFv, hb4⟩
    replace B1 := B1.below hb4
    obtain ⟨hb, hs⟩ := below_cc hb4 hb
    clear hb4 VW hFv s0 s1 s2 s3 s4 s5 s6 sl
    (try unfold Wv)
    (try simp only)
    go_upto_region 4 with fail
    refine wp_name (fun V => Bk V w.heap.size #[.int .i64 id, .int .i64 gx, .int .i64 gy, .int .i64 t, .slice a n cap, .int .i64 ack, .slice pa pn pc] 29 ∧ Below w.heap.size w V) ⟨B1.alloc _, hb.alloc hs _⟩ ?_
    clear B1 hb hs
    rintro V5 ⟨B1, hb⟩
    have s0 := B1.cell (v := .int .i64 id) 0 rfl
    have s1 := B1.cell (v := .int .i64 gx) 1 rfl
    have s2 := B1.cell (v := .int .i64 gy) 2 rfl
    have s3 := B1.cell (v := .int .i64 t) 3 rfl
    have s4 := B1.cell (v := .slice a n cap) 4 rfl
    have s5 := B1.cell (v := .int .i64 ack) 5 rfl
    have s6 := B1.cell (v := .slice pa pn pc) 6 rfl
    have sl := B1.lt
    go_wp2_with fail
    refine (VC.out _ hb).mono ?_
    rintro e V6 ⟨rfl, hb4⟩
    obtain ⟨hb, hs⟩ := below_cc hb4 hb
    clear hb4 VC B1 s0 s1 s2 s3 s4 s5 s6 sl
    go_wp2_with fail
    refine (AWK.out _ hb).mono ?_
    rintro e VA ⟨rfl, hbA⟩
    have hbE := (below_cc hbA hb).1
    clear hbA
    go_wp2
    go_returns
    exact ⟨rfl, hbE⟩
set_option maxHeartbeats 16000000 in
theorem recon_3 (c : Cli) (a : Option Addr) (n cap : Nat) (pa : Option Addr) (pn pc : Nat) (nn : Int) (hn : 0 ≤ nn ∧ nn ≤ 255) (w : World) (hR : RG w) (hM : RM w) (hw : 2 ≤ w.heap.size) (h : EntsAt w (.slice a n cap) c.b.es) (hp : InpsAt w (.slice pa pn pc) c.p) (hcap : pn ≤ pc) (hx : I64s c.p) (V : Wld) (hv : validC c = true) (hV : viewR c = (V, 0)) :
    Calls Tryz.prog 3 #[Cv c a n cap pa pn pc, .int .u8 nn] w fun e w' => e = .returned (.bool true) ∧ Below w.heap.size w w' := by
  have AWK := Lib.hid (fun V (hV : Below w.heap.size w V) => awake_any V (hR.below hV) (hM.low hV hw) (Nat.le_trans hw hV.size))
  have FW := Lib.hid (fun V (hV : Below w.heap.size w V) => Few_any c a n cap pa pn pc V (EntsAt.below h hV) (InpsAt.below hp hV))
  have VW := Lib.hid (fun V (hV : Below w.heap.size w V) => view_any c a n cap pa pn pc V (hR.below hV) (hM.low hV hw) (Nat.le_trans hw hV.size) (EntsAt.below h hV) (InpsAt.below hp hV) hx)
  have VC := Lib.hid (fun V (hV : Below w.heap.size w V) => cvalid_any c a n cap pa pn pc V (hR.below hV) (EntsAt.below h hV) (InpsAt.below hp hV))
  have hpl : pn = c.p.length := ListAt.len hp
  have hpm : pn < 1099511627776 := by rw [hpl]; exact hp.len64
  rw [hV] at VW
  have VA := Lib.hid (fun X (hX : Below w.heap.size w X) => by have := view_any (alone c) a n cap none 0 0 X (hR.below hX) (hM.low hX hw) (Nat.le_trans hw hX.size) (EntsAt.below h hX) (inps_nil _) (fun y hy => by simp [alone] at hy); rw [alone_view hv] at this; exact this)
  have PR := Lib.hid (fun X (hX : Below w.heap.size w X) j x (hj : c.p[j]? = some x) sa sn sc hE => by have := predict_fresh (srv c j) sa sn sc c.id c.gx c.gy x X (hR.below hX) (hM.low hX hw) (Nat.le_trans hw hX.size) hE (hx x (List.mem_iff_getElem?.2 ⟨j, hj⟩)); rw [srv_step hv hV hj] at this; exact this)
  have RE := Lib.hid (fun X (hX : Below w.heap.size w X) k sa sn sc hE => by have := recv_fresh c (srv c k) (lst c k) a n cap pa pn pc sa sn sc X (hR.below hX) (EntsAt.below h hX) (InpsAt.below hp hX) hE; rw [rcv_ok hv hV k] at this; exact this)
  have VD := Lib.hid (fun X (hX : Below w.heap.size w X) k da dn dc ea en ec hE hI => by have := view_any (rcv c k) da dn dc ea en ec X (hR.below hX) (hM.low hX hw) (Nat.le_trans hw hX.size) hE hI (fun y hy => hx y (List.mem_of_mem_drop hy)); rw [rcv_view hv hV k] at this; exact this)
  have SH := Lib.hid (fun X (hX : Below w.heap.size w X) k i sa sn sc hE => by have := shift_any c (srv c k) (lst c k) i a n cap pa pn pc sa sn sc X (hR.below hX) (hM.low hX hw) (Nat.le_trans hw hX.size) (EntsAt.below h hX) (InpsAt.below hp hX) hE hx; rw [rcv_shift hv hV k i] at this; exact this)
  have GE := Lib.hid (fun X (hX : Below w.heap.size w X) i va vn vc hE => get_any V va vn vc i 1 X (hR.below hX) hE (viewR_valid hV))
  obtain ⟨k, hk⟩ : ∃ k : Nat, nn % ((pn : Int) + 1) = (k : Int) := ⟨(nn % ((pn : Int) + 1)).toNat, (Int.toNat_of_nonneg (Int.emod_nonneg _ (by omega))).symm⟩
  have hk1 : k ≤ pn := by have := Int.emod_lt_of_pos nn (show (0 : Int) < (pn : Int) + 1 by omega); omega
  obtain ⟨hn0, hn1⟩ := hn
  have m0 : Int.tmod nn ((pn : Int) + 1) = (k : Int) := by rw [Int.tmod_eq_emod_of_nonneg hn0]; exact hk
  have w1 : IntKind.i64.wrap ((pn : Int) + 1) = (pn : Int) + 1 := by rw [IntKind.wrap_i64]; omega
  have w2 : IntKind.i64.wrap nn = nn := by rw [IntKind.wrap_i64]; omega
  have w3 : IntKind.i64.wrap (k : Int) = (k : Int) := by rw [IntKind.wrap_i64]; omega
  have z1 : (((pn : Int) + 1) == 0) = false := by simp; omega
  have z2 : ¬ ((pn : Int) + 1 = 0) := by omega
  have z3 : ¬ ((pn : Int) + 1 = -1) := by omega
  have hkc : k ≤ pc := by omega
  have hkn : (0 : Int) ≤ (k : Int) := by omega
  have HEP := Lib.hid (And.intro h hp)
  have HPL := Lib.hid hpl
  clear hR hM hw h hp hx hpl hv hV hk VC
  unfold Cv ccs at FW VW
  unfold Cv ccs
  go_enter Tryz.func3, Tryz.ntmps3
  have HB1 := Lib.hid (show Bk (w.alloc (.cells #[.int .i64 c.id, .int .i64 c.gx, .int .i64 c.gy, .int .i64 c.b.t, .slice a n cap, .int .i64 c.ack, .slice pa pn pc] 29)) w.heap.size #[.int .i64 c.id, .int .i64 c.gx, .int .i64 c.gy, .int .i64 c.b.t, .slice a n cap, .int .i64 c.ack, .slice pa pn pc] 29 ∧ Below w.heap.size w (w.alloc (.cells #[.int .i64 c.id, .int .i64 c.gx, .int .i64 c.gy, .int .i64 c.b.t, .slice a n cap, .int .i64 c.ack, .slice pa pn pc] 29)) from ⟨Bk.made _ _ _, by go_grown⟩)
  go_wp2_with fail
  refine (FW.out _ HB1.out.2).mono ?_
  rintro e V1 ⟨fb, rfl, hb1⟩
  have B1 := HB1.out.1.below hb1
  obtain ⟨hb, hs⟩ := below_cc hb1 HB1.out.2
  clear hb1 HB1 FW
  cases fb
  · go_wp2_with fail
    refine (AWK.out _ hb).mono ?_
    rintro e VA ⟨rfl, hbA⟩
    have hbE := (below_cc hbA hb).1
    clear hbA
    go_wp2
    go_returns
    exact ⟨rfl, hbE⟩
  · have s0 := B1.cell (v := .int .i64 c.id) 0 rfl
    have s1 := B1.cell (v := .int .i64 c.gx) 1 rfl
    have s2 := B1.cell (v := .int .i64 c.gy) 2 rfl
    have s3 := B1.cell (v := .int .i64 c.b.t) 3 rfl
    have s4 := B1.cell (v := .slice a n cap) 4 rfl
    have s5 := B1.cell (v := .int .i64 c.ack) 5 rfl
    have s6 := B1.cell (v := .slice pa pn pc) 6 rfl
    have sl := B1.lt
    go_wp2_with fail
    refine (VW.out _ hb).mono ?_
    rintro e V4 ⟨va, vn, vc, rfl, hFv, hb4⟩
    replace B1 := B1.below hb4
    obtain ⟨hb, hs⟩ := below_cc hb4 hb
    clear hb4 VW s0 s1 s2 s3 s4 s5 s6 sl
    (try unfold Wv)
    (try simp only)
    go_upto_region 4 with fail
    refine wp_name (fun X => RS w #[.int .i64 c.id, .int .i64 c.gx, .int .i64 c.gy, .int .i64 c.b.t, .slice a n cap, .int .i64 c.ack, .slice pa pn pc] #[.int .i64 V.t, .slice va vn vc] V4.heap.size (.slice va vn vc) V.es X) ⟨B1.alloc _, Bk.made _ _ _, hFv.below ((Below.refl _ _).alloc (Nat.le_refl _) _), hb.alloc hs _⟩ ?_
    obtain ⟨g5, hg5⟩ : ∃ g, V4.heap.size = g := ⟨_, rfl⟩
    rw [hg5] at hs ⊢
    have hg5w := hs
    clear hg5 B1 hFv hb hs
    intro V5 hS
    have s0 := hS.b1.cell (v := .int .i64 c.id) 0 rfl
    have s1 := hS.b1.cell (v := .int .i64 c.gx) 1 rfl
    have s2 := hS.b1.cell (v := .int .i64 c.gy) 2 rfl
    have s3 := hS.b1.cell (v := .int .i64 c.b.t) 3 rfl
    have s4 := hS.b1.cell (v := .slice a n cap) 4 rfl
    have s5 := hS.b1.cell (v := .int .i64 c.ack) 5 rfl
    have s6 := hS.b1.cell (v := .slice pa pn pc) 6 rfl
    have sl := hS.b1.lt
    have HS := Lib.hid hS
    clear hS
    go_upto_region 7 with fail
    refine wp_name (fun X => RS w #[.int .i64 c.id, .int .i64 c.gx, .int .i64 c.gy, .int .i64 c.b.t, .slice a n cap, .int .i64 c.ack, .slice pa pn pc] #[.int .i64 V.t, .slice va vn vc] g5 (.slice va vn vc) V.es X ∧ Bk X V5.heap.size #[.int .i64 c.id, .int .i64 c.gx, .int .i64 c.gy, .int .i64 c.b.t, .slice a n cap, .int .i64 c.ack, .slice pa pn pc] 29) ⟨HS.out.below ((Below.refl _ _).alloc (Nat.le_refl _) _), Bk.made _ _ _⟩ ?_
    obtain ⟨g7, hg7⟩ : ∃ g, V5.heap.size = g := ⟨_, rfl⟩
    have l1 := HS.out.b1.lt
    have l5 := HS.out.b5.lt
    rw [hg7] at l1 l5 ⊢
    have n17 : w.heap.size ≠ g7 := Nat.ne_of_lt l1
    have n57 : g5 ≠ g7 := Nat.ne_of_lt l5
    have hg7w : w.heap.size ≤ g7 := Nat.le_of_lt l1
    clear hg7 HS s0 s1 s2 s3 s4 s5 s6 sl
    rintro V6 ⟨hS, B7⟩
    have HX := Lib.hid (And.intro (RS.mk (hS.b1.far (p := ⟨g7, 6, none⟩) n17 (.slice none 0 0)) (hS.b5.far (p := ⟨g7, 6, none⟩) n57 (.slice none 0 0)) (hS.view.set (p := ⟨g7, 6, none⟩) B7 (by decide) (by decide) (.slice none 0 0)) (hS.bel.setCell (p := ⟨g7, 6, none⟩) hg7w (.slice none 0 0))) (B7.put 6 (.slice none 0 0)))
    have r6 := B7.cell (v := .slice pa pn pc) 6 rfl
    have rf := B7.free 6
    have rl := B7.lt
    clear hS B7
    go_upto_region 8 with fail
    refine wp_name (fun X => RS w #[.int .i64 c.id, .int .i64 c.gx, .int .i64 c.gy, .int .i64 c.b.t, .slice a n cap, .int .i64 c.ack, .slice pa pn pc] #[.int .i64 V.t, .slice va vn vc] g5 (.slice va vn vc) V.es X ∧ Bk X g7 #[.int .i64 c.id, .int .i64 c.gx, .int .i64 c.gy, .int .i64 c.b.t, .slice a n cap, .int .i64 c.ack, .slice none 0 0] 29) HX.out ?_
    clear HX r6 rf rl
    rintro V7 ⟨hS, B7⟩
    have t0 := B7.cell (v := .int .i64 c.id) 0 rfl
    have t1 := B7.cell (v := .int .i64 c.gx) 1 rfl
    have t2 := B7.cell (v := .int .i64 c.gy) 2 rfl
    have t3 := B7.cell (v := .int .i64 c.b.t) 3 rfl
    have t4 := B7.cell (v := .slice a n cap) 4 rfl
    have t5 := B7.cell (v := .int .i64 c.ack) 5 rfl
    have t6 := B7.cell (v := .slice none 0 0) 6 rfl
    have tl := B7.lt
    have HS := Lib.hid hS
    clear hS
    go_wp2_with fail
    refine (VA.out _ HS.out.bel).mono ?_
    rintro e V9 ⟨ua, un, uc, rfl, hFu, hb9⟩
    have HS9 := Lib.hid (HS.out.below hb9)
    clear hb9 VA HS B7 t0 t1 t2 t3 t4 t5 t6 tl
    unfold Wv
    try simp only
    go_upto_region 9 with fail
    refine wp_name (fun X => RS w #[.int .i64 c.id, .int .i64 c.gx, .int .i64 c.gy, .int .i64 c.b.t, .slice a n cap, .int .i64 c.ack, .slice pa pn pc] #[.int .i64 V.t, .slice va vn vc] g5 (.slice va vn vc) V.es X ∧ Bk X V9.heap.size #[.int .i64 c.b.t, .slice ua un uc] 26 ∧ Fresh 0 X (.slice ua un uc) c.b.es) ⟨HS9.out.below ((Below.refl _ _).alloc (Nat.le_refl _) _), Bk.made _ _ _, hFu.below ((Below.refl _ _).alloc (Nat.le_refl _) _)⟩ ?_
    obtain ⟨g8, hg8⟩ : ∃ g, V9.heap.size = g := ⟨_, rfl⟩
    rw [hg8]
    clear hg8 HS9 hFu
    rintro V10 ⟨hS, B8, hFu⟩
    have SM := Lib.hid (sameW_any c.b ua un uc a n cap V10 hFu.ents (EntsAt.below HEP.out.1 hS.bel))
    have y0 := B8.cell (v := .int .i64 c.b.t) 0 rfl
    have y1 := B8.cell (v := .slice ua un uc) 1 rfl
    have yl := B8.lt
    have s0 := hS.b1.cell (v := .int .i64 c.id) 0 rfl
    have s1 := hS.b1.cell (v := .int .i64 c.gx) 1 rfl
    have s2 := hS.b1.cell (v := .int .i64 c.gy) 2 rfl
    have s3 := hS.b1.cell (v := .int .i64 c.b.t) 3 rfl
    have s4 := hS.b1.cell (v := .slice a n cap) 4 rfl
    have s5 := hS.b1.cell (v := .int .i64 c.ack) 5 rfl
    have s6 := hS.b1.cell (v := .slice pa pn pc) 6 rfl
    have sl := hS.b1.lt
    have HS := Lib.hid hS
    clear hS B8 hFu
    go_wp2_with fail
    refine SM.out.mono ?_
    rintro e V11 ⟨rfl, hb11⟩
    have hS := HS.out.below hb11
    clear hb11 SM HS y0 y1 yl s0 s1 s2 s3 s4 s5 s6 sl
    have s0 := hS.b1.cell (v := .int .i64 c.id) 0 rfl
    have s1 := hS.b1.cell (v := .int .i64 c.gx) 1 rfl
    have s2 := hS.b1.cell (v := .int .i64 c.gy) 2 rfl
    have s3 := hS.b1.cell (v := .int .i64 c.b.t) 3 rfl
    have s4 := hS.b1.cell (v := .slice a n cap) 4 rfl
    have s5 := hS.b1.cell (v := .int .i64 c.ack) 5 rfl
    have s6 := hS.b1.cell (v := .slice pa pn pc) 6 rfl
    have sl := hS.b1.lt
    have HS := Lib.hid hS
    clear hS
    go_upto_region 12 with fail
    have s3m := fun p : Mutd (fun _ : Nat => False) V11 => cell_mutd s3 (fun e => e) p
    have s4m := fun p : Mutd (fun _ : Nat => False) V11 => cell_mutd s4 (fun e => e) p
    have s5m := fun p : Mutd (fun _ : Nat => False) V11 => cell_mutd s5 (fun e => e) p
    refine wp_region_low3 noPosts (fun _ : Nat => False) [] (sto1 4 5) 6 (by kernel_rfl) (fun b hb => hb.elim) (sto1_inj 4 5) (by kernel_rfl) ?_
    simp only [List.take, List.drop]
    iterate 4 (refine low3_step (sto1_no (by decide)) (fun K hK => ?_); go_simp; first | (refine hK _ ?_; clear hK K) | (apply Exists.intro; refine ⟨fun p => ?_, hK _ ?_⟩; clear hK K))
    refine low3_new (.cells #[.int .i64 0, .slice none 0 0] 26) (sto1_no (by decide)) (by rfl) (fun w => by go_simp; try rfl) ?_
    intro g11
    refine low3_sto 4 g11 #[.int .i64 0, .slice none 0 0] #[.int .i64 c.b.t, .slice a n cap] 26 rfl (by rfl) ⟨⟨4, .data⟩, by simp, rfl, rfl⟩ rfl (fun w B => by
      have lt := B.lt
      have c_0 := B.cell (v := .int .i64 0) 0 rfl
      have f_0 := B.free 0
      have c_1 := B.cell (v := .slice none 0 0) 1 rfl
      have f_1 := B.free 1
      go_simp
      show ((w.setCell ⟨g11, 0, none⟩ (.int .i64 c.b.t)).setCell ⟨g11, 1, none⟩ (.slice a n cap)) = putObj w g11 (.cells #[.int .i64 c.b.t, .slice a n cap] 26)
      rw [setCell_put B, setCell_put (putObj_heap B), putObj_twice]; rfl) ?_
    refine low3_nil ?_
    intro W12 hC
    have hfr : Below V11.heap.size V11 W12 := hC.fr.below (Nat.le_refl _) (fun _ _ e => e)
    obtain ⟨hg11, B11⟩ : _ ∧ Bk W12 g11 #[.int .i64 c.b.t, .slice a n cap] 26 := hC.made 4 g11 _ rfl
    have hS := HS.out.below hfr
    have hg11w : w.heap.size ≤ g11 := Nat.le_trans HS.out.bel.size hg11
    have n1 : w.heap.size ≠ g11 := Nat.ne_of_lt (Nat.lt_of_lt_of_le HS.out.b1.lt hg11)
    have n5 : g5 ≠ g11 := Nat.ne_of_lt (Nat.lt_of_lt_of_le HS.out.b5.lt hg11)
    clear hC hfr HS hg11 s3m s4m s5m s0 s1 s2 s3 s4 s5 s6 sl
    go_upto_region 13 with fail
    have s0 := hS.b1.cell (v := .int .i64 c.id) 0 rfl
    have s1 := hS.b1.cell (v := .int .i64 c.gx) 1 rfl
    have s2 := hS.b1.cell (v := .int .i64 c.gy) 2 rfl
    have s3 := hS.b1.cell (v := .int .i64 c.b.t) 3 rfl
    have s4 := hS.b1.cell (v := .slice a n cap) 4 rfl
    have s5 := hS.b1.cell (v := .int .i64 c.ack) 5 rfl
    have s6 := hS.b1.cell (v := .slice pa pn pc) 6 rfl
    have sl := hS.b1.lt
    have HS := Lib.hid (And.intro hS B11)
    clear hS B11
    go_wp2
    clear s0 s1 s2 s3 s4 s5 s6 sl
    go_loopw [12, 79] (fun v12 v79 wr => ∃ (j : Nat) (la : Int) (sa : Option Addr) (sn sc : Nat) (st : Int), (j ≤ k ∧ v79 = .int .i64 j) ∧ (Hid (lst c j = la ∧ (srv c j).t = st) ∧ v12 = .int .i64 la) ∧ RS w #[.int .i64 c.id, .int .i64 c.gx, .int .i64 c.gy, .int .i64 c.b.t, .slice a n cap, .int .i64 c.ack, .slice pa pn pc] #[.int .i64 V.t, .slice va vn vc] g5 (.slice va vn vc) V.es wr ∧ Bk wr g11 #[.int .i64 st, .slice sa sn sc] 26 ∧ HeldE w wr (.slice sa sn sc) (srv c j).es) (fun _ v79 _ => k - (intOf v79).toNat)
    case atStart => exact ⟨0, c.ack, a, n, cap, c.b.t, ⟨by omega, rfl⟩, ⟨Lib.hid ⟨rfl, rfl⟩, rfl⟩, HS.out.1, HS.out.2, .inl HEP.out.1⟩
    case round =>
      clear HS
      obtain ⟨j, la, sa, sn, sc, st, ⟨hj, rfl⟩, ⟨HQ, rfl⟩, hS, B11, hE⟩ := hrel
      have HS := Lib.hid (And.intro hS (And.intro B11 hE))
      by_cases hlt : j < k
      · obtain ⟨x, hx⟩ := at_lt (l := c.p) (i := j) (by rw [← HPL.out]; omega)
        have hq := HEP.out.2
        rcases hq with ⟨h1, h2⟩ | ⟨b2, o2, cap2, h1, hl2, hc2⟩
        · rw [h2] at hx; cases hx
        injection h1 with q1 q2 q3
        subst q1
        obtain ⟨x0, x1, x2, x3, x4, x5, x6, x7, x8, x9⟩ := InpAt.below' hS.bel b2 _ x (hc2 j x hx)
        obtain ⟨st2, hst2⟩ : ∃ t, (srv c (j + 1)).t = t := ⟨_, rfl⟩
        have HX := Lib.hid (And.intro hx hst2)
        clear hS B11 hE hx hc2 hl2 q2 q3 hst2
        go_upto_region 16 with fail
        refine wp_name (fun X => (RS w #[.int .i64 c.id, .int .i64 c.gx, .int .i64 c.gy, .int .i64 c.b.t, .slice a n cap, .int .i64 c.ack, .slice (some ⟨b2, o2, none⟩) pn pc] #[.int .i64 V.t, .slice va vn vc] g5 (.slice va vn vc) V.es X ∧ Bk X g11 #[.int .i64 st, .slice sa sn sc] 26 ∧ HeldE w X (.slice sa sn sc) (srv c j).es) ∧ Bk X wr.heap.size #[.int .i64 x.c, .int .i64 x.s, .int .i64 x.t, .int .i64 x.mx, .int .i64 x.my, .bool x.fire, .int .i64 x.ax, .int .i64 x.ay, .int .i64 x.seen, .int .i64 x.part] 37) ⟨⟨HS.out.1.below ((Below.refl _ _).alloc (Nat.le_refl _) _), HS.out.2.1.below ((Below.refl _ _).alloc (Nat.le_refl _) _), HS.out.2.2.below ((Below.refl _ _).alloc (Nat.le_refl _) _)⟩, Bk.made _ _ _⟩ ?_
        obtain ⟨g14, hg14⟩ : ∃ g, wr.heap.size = g := ⟨_, rfl⟩
        rw [hg14]
        clear hg14 HS x0 x1 x2 x3 x4 x5 x6 x7 x8 x9
        rintro V20 ⟨⟨hS, B11, hE⟩, B14⟩
        have PRJ := PR.out V20 hS.bel j x HX.out.1 sa sn sc (hE.ents hS.bel)
        unfold WFPost at PRJ
        rw [HQ.out.2, HX.out.2] at PRJ
        have HPRJ := Lib.hid PRJ
        have s0 := hS.b1.cell (v := .int .i64 c.id) 0 rfl
        have s1 := hS.b1.cell (v := .int .i64 c.gx) 1 rfl
        have s2 := hS.b1.cell (v := .int .i64 c.gy) 2 rfl
        have sl := hS.b1.lt
        have y0 := B11.cell (v := .int .i64 st) 0 rfl
        have y1 := B11.cell (v := .slice sa sn sc) 1 rfl
        have yl := B11.lt
        have z0 := B14.cell (v := .int .i64 x.c) 0 rfl
        have z1 := B14.cell (v := .int .i64 x.s) 1 rfl
        have z2 := B14.cell (v := .int .i64 x.t) 2 rfl
        have z3 := B14.cell (v := .int .i64 x.mx) 3 rfl
        have z4 := B14.cell (v := .int .i64 x.my) 4 rfl
        have z5 := B14.cell (v := .bool x.fire) 5 rfl
        have z6 := B14.cell (v := .int .i64 x.ax) 6 rfl
        have z7 := B14.cell (v := .int .i64 x.ay) 7 rfl
        have z8 := B14.cell (v := .int .i64 x.seen) 8 rfl
        have z9 := B14.cell (v := .int .i64 x.part) 9 rfl
        have zl := B14.lt
        have HS := Lib.hid (And.intro hS (And.intro B11 (And.intro hE B14)))
        clear hS B11 hE B14 PRJ
        go_wp2_with fail
        refine HPRJ.out.mono ?_
        rintro e V21 ⟨ra, rn, rc, rfl, hFp, hb21⟩
        have HS2 := Lib.hid (And.intro (HS.out.1.below hb21) (And.intro (HS.out.2.1.below hb21) (And.intro (HS.out.2.2.2.below hb21) (hFp.mono (base' := 0) (Nat.zero_le _)))))
        clear hb21 hFp HPRJ HS s0 s1 s2 sl y0 y1 yl z0 z1 z2 z3 z4 z5 z6 z7 z8 z9 zl
        go_upto_region 17 with fail
        refine wp_name (fun X => RS w #[.int .i64 c.id, .int .i64 c.gx, .int .i64 c.gy, .int .i64 c.b.t, .slice a n cap, .int .i64 c.ack, .slice (some ⟨b2, o2, none⟩) pn pc] #[.int .i64 V.t, .slice va vn vc] g5 (.slice va vn vc) V.es X ∧ Bk X g11 #[.int .i64 st, .slice sa sn sc] 26 ∧ Bk X g14 #[.int .i64 x.c, .int .i64 x.s, .int .i64 x.t, .int .i64 x.mx, .int .i64 x.my, .bool x.fire, .int .i64 x.ax, .int .i64 x.ay, .int .i64 x.seen, .int .i64 x.part] 37 ∧ Bk X V21.heap.size #[.int .i64 st2, .slice ra rn rc] 26 ∧ Fresh 0 X (.slice ra rn rc) (srv c (j + 1)).es) ⟨HS2.out.1.below ((Below.refl _ _).alloc (Nat.le_refl _) _), HS2.out.2.1.below ((Below.refl _ _).alloc (Nat.le_refl _) _), HS2.out.2.2.1.below ((Below.refl _ _).alloc (Nat.le_refl _) _), Bk.made _ _ _, HS2.out.2.2.2.below ((Below.refl _ _).alloc (Nat.le_refl _) _)⟩ ?_
        obtain ⟨g15, hg15⟩ : ∃ g, V21.heap.size = g := ⟨_, rfl⟩
        have l11 := HS2.out.2.1.lt
        rw [hg15] at l11 ⊢
        have n15 : g15 ≠ g11 := fun q => by omega
        clear hg15 HS2 l11
        rintro V22 ⟨hS, B11, B14, B15, hF⟩
        have n14 : g14 ≠ g11 := B14.ne B11 (by decide)
        have u0 := B15.cell (v := .int .i64 st2) 0 rfl
        have u1 := B15.cell (v := .slice ra rn rc) 1 rfl
        have u2 := B14.cell (v := .int .i64 x.s) 1 rfl
        have e0 := B11.cell (v := .int .i64 st) 0 rfl
        have e1 := B11.cell (v := .slice sa sn sc) 1 rfl
        have f0 := B11.free 0
        have f1 := B11.free 1
        have l11 := B11.lt
        have KP : ∀ w', Bk w' g15 #[.int .i64 st2, .slice ra rn rc] 26 → Bk w' g14 #[.int .i64 x.c, .int .i64 x.s, .int .i64 x.t, .int .i64 x.mx, .int .i64 x.my, .bool x.fire, .int .i64 x.ax, .int .i64 x.ay, .int .i64 x.seen, .int .i64 x.part] 37 → (w'.cell? ⟨g15, 0, none⟩ = some (.int .i64 st2) ∧ w'.cell? ⟨g15, 1, none⟩ = some (.slice ra rn rc) ∧ w'.cell? ⟨g14, 1, none⟩ = some (.int .i64 x.s)) := fun w' B1 B2 => ⟨B1.cell 0 rfl, B1.cell 1 rfl, B2.cell 1 rfl⟩
        have HS := Lib.hid (And.intro hS (And.intro B11 hF))
        clear hS B11 hF
        go_upto_region 19 with fail
        go_region_held3 (fun w' => w'.cell? ⟨g15, 0, none⟩ = some (.int .i64 st2) ∧ w'.cell? ⟨g15, 1, none⟩ = some (.slice ra rn rc) ∧ w'.cell? ⟨g14, 1, none⟩ = some (.int .i64 x.s)) (refine KP _ ?_ ?_ <;> (repeat (first | with_reducible assumption | (with_reducible refine Bk.far ?_ n15 _) | (with_reducible refine Bk.far ?_ n14 _) | (with_reducible refine Bk.alloc ?_ _) | (with_reducible refine Bk.drew' ?_)))) (fail)
        have hS0 := HS.out.1.below ((Below.refl _ _).drew)
        have hB0 : Bk V22.drew g11 #[.int .i64 st, .slice sa sn sc] 26 := HS.out.2.1
        have hF0 := HS.out.2.2.below ((Below.refl _ _).drew)
        have hS1 := hS0.set hB0 n1 n5 hg11w 0 (.int .i64 st2)
        have hB1 := hB0.put 0 (.int .i64 st2)
        have HXX := Lib.hid (And.intro (hS1.set hB1 n1 n5 hg11w 1 (.slice ra rn rc)) (And.intro (hB1.put 1 (.slice ra rn rc)) ((hF0.set (p := ⟨g11, 0, none⟩) hB0 (by decide) (by decide) (.int .i64 st2)).set (p := ⟨g11, 1, none⟩) hB1 (by decide) (by decide) (.slice ra rn rc))))
        clear hS0 hB0 hF0 hS1 hB1 HS KP B14 B15 u0 u1 u2 e0 e1 f0 f1 l11
        refine at_name (R := Exit.inBlock 1 (Exit.then _ _) Exit.normal) (fun X => RS w #[.int .i64 c.id, .int .i64 c.gx, .int .i64 c.gy, .int .i64 c.b.t, .slice a n cap, .int .i64 c.ack, .slice (some ⟨b2, o2, none⟩) pn pc] #[.int .i64 V.t, .slice va vn vc] g5 (.slice va vn vc) V.es X ∧ Bk X g11 #[.int .i64 st2, .slice ra rn rc] 26 ∧ Fresh 0 X (.slice ra rn rc) (srv c (j + 1)).es) HXX.out ?_
        clear HXX
        rintro V23 ⟨hS, B11, hF⟩
        go_wp2
        go_roundw
        case rel => exact ⟨j + 1, x.s, ra, rn, rc, st2, ⟨by omega, by go_num⟩, ⟨Lib.hid ⟨lst_step HX.out.1, HX.out.2⟩, rfl⟩, hS, B11, .inr hF⟩
        case measure => simp [intOf]; omega
      · obtain rfl : j = k := by omega
        have hEw := hE.ents hS.bel
        have REJ := RE.out wr hS.bel j sa sn sc hEw
        rw [HQ.out.2, HQ.out.1] at REJ
        have HREJ := Lib.hid REJ
        have s0 := hS.b1.cell (v := .int .i64 c.id) 0 rfl
        have s1 := hS.b1.cell (v := .int .i64 c.gx) 1 rfl
        have s2 := hS.b1.cell (v := .int .i64 c.gy) 2 rfl
        have s3 := hS.b1.cell (v := .int .i64 c.b.t) 3 rfl
        have s4 := hS.b1.cell (v := .slice a n cap) 4 rfl
        have s5 := hS.b1.cell (v := .int .i64 c.ack) 5 rfl
        have s6 := hS.b1.cell (v := .slice pa pn pc) 6 rfl
        have sl := hS.b1.lt
        have y0 := B11.cell (v := .int .i64 st) 0 rfl
        have y1 := B11.cell (v := .slice sa sn sc) 1 rfl
        have yl := B11.lt
        have HS := Lib.hid (And.intro hS (And.intro B11 hE))
        clear hS B11 hE hEw REJ
        go_upto_region 21 with fail
        go_wp2_with fail
        refine HREJ.out.mono ?_
        rintro e V21 hrc
        obtain ⟨da, dn, dc, ea, en, ec, rfl, hDI, hb21⟩ := rcv_post HQ.out.1 HQ.out.2 hrc
        have hen : en = (c.p.drop j).length := ListAt.len hDI.2
        rw [List.length_drop, ← HPL.out] at hen
        have HEN := Lib.hid hen
        have HS2 := Lib.hid (And.intro (HS.out.1.below hb21) (And.intro (HS.out.2.1.below hb21) (And.intro (HS.out.2.2.below hb21) hDI)))
        clear hrc hen hDI hb21 HREJ HS s0 s1 s2 s3 s4 s5 s6 sl y0 y1 yl
        go_upto_region 22 with fail
        refine wp_name (fun X => RS w #[.int .i64 c.id, .int .i64 c.gx, .int .i64 c.gy, .int .i64 c.b.t, .slice a n cap, .int .i64 c.ack, .slice pa pn pc] #[.int .i64 V.t, .slice va vn vc] g5 (.slice va vn vc) V.es X ∧ Bk X g11 #[.int .i64 st, .slice sa sn sc] 26 ∧ HeldE w X (.slice sa sn sc) (srv c j).es ∧ Bk X V21.heap.size #[.int .i64 c.id, .int .i64 c.gx, .int .i64 c.gy, .int .i64 st, .slice da dn dc, .int .i64 la, .slice ea en ec] 29 ∧ EntsAt X (.slice da dn dc) (srv c j).es ∧ InpsAt X (.slice ea en ec) (c.p.drop j)) ⟨HS2.out.1.below ((Below.refl _ _).alloc (Nat.le_refl _) _), HS2.out.2.1.below ((Below.refl _ _).alloc (Nat.le_refl _) _), HS2.out.2.2.1.below ((Below.refl _ _).alloc (Nat.le_refl _) _), Bk.made _ _ _, EntsAt.below HS2.out.2.2.2.1 ((Below.refl _ _).alloc (Nat.le_refl _) _), InpsAt.below HS2.out.2.2.2.2 ((Below.refl _ _).alloc (Nat.le_refl _) _)⟩ ?_
        obtain ⟨g17, hg17⟩ : ∃ g, V21.heap.size = g := ⟨_, rfl⟩
        rw [hg17]
        clear hg17 HS2
        rintro V22 ⟨hS, B11, hE, B17, hD, hI⟩
        have VDJ : Calls Tryz.prog 11 #[.agg #[.int .i64 c.id, .int .i64 c.gx, .int .i64 c.gy, .int .i64 st, .slice da dn dc, .int .i64 la, .slice ea en ec]] V22 (WEPost V22 (V, 0)) := by
          have := VD.out V22 hS.bel j da dn dc ea en ec hD hI
          rw [← HQ.out.1, ← HQ.out.2]
          exact this
        have HVDJ := Lib.hid VDJ
        have t0 := B17.cell (v := .int .i64 c.id) 0 rfl
        have t1 := B17.cell (v := .int .i64 c.gx) 1 rfl
        have t2 := B17.cell (v := .int .i64 c.gy) 2 rfl
        have t3 := B17.cell (v := .int .i64 st) 3 rfl
        have t4 := B17.cell (v := .slice da dn dc) 4 rfl
        have t5 := B17.cell (v := .int .i64 la) 5 rfl
        have t6 := B17.cell (v := .slice ea en ec) 6 rfl
        have tl := B17.lt
        have HS := Lib.hid (And.intro hS (And.intro B11 (And.intro hE B17)))
        clear hS B11 hE B17 hD hI VDJ
        go_wp2_with fail
        refine HVDJ.out.mono ?_
        rintro e V23 ⟨ta, tn, tc, rfl, hFt, hb23⟩
        have HS2 := Lib.hid (And.intro (HS.out.1.below hb23) (And.intro (HS.out.2.1.below hb23) (And.intro (HS.out.2.2.1.below hb23) (And.intro (HS.out.2.2.2.below hb23) hFt))))
        clear hb23 hFt HVDJ HS t0 t1 t2 t3 t4 t5 t6 tl
        unfold Wv
        try simp only
        go_upto_region 23 with fail
        refine wp_name (fun X => RS w #[.int .i64 c.id, .int .i64 c.gx, .int .i64 c.gy, .int .i64 c.b.t, .slice a n cap, .int .i64 c.ack, .slice pa pn pc] #[.int .i64 V.t, .slice va vn vc] g5 (.slice va vn vc) V.es X ∧ Bk X g11 #[.int .i64 st, .slice sa sn sc] 26 ∧ HeldE w X (.slice sa sn sc) (srv c j).es ∧ Bk X g17 #[.int .i64 c.id, .int .i64 c.gx, .int .i64 c.gy, .int .i64 st, .slice da dn dc, .int .i64 la, .slice ea en ec] 29 ∧ Bk X V23.heap.size #[.int .i64 V.t, .slice ta tn tc] 26 ∧ Fresh 0 X (.slice ta tn tc) V.es) ⟨HS2.out.1.below ((Below.refl _ _).alloc (Nat.le_refl _) _), HS2.out.2.1.below ((Below.refl _ _).alloc (Nat.le_refl _) _), HS2.out.2.2.1.below ((Below.refl _ _).alloc (Nat.le_refl _) _), HS2.out.2.2.2.1.below ((Below.refl _ _).alloc (Nat.le_refl _) _), Bk.made _ _ _, HS2.out.2.2.2.2.below ((Below.refl _ _).alloc (Nat.le_refl _) _)⟩ ?_
        obtain ⟨g19, hg19⟩ : ∃ g, V23.heap.size = g := ⟨_, rfl⟩
        rw [hg19]
        clear hg19 HS2
        rintro V24 ⟨hS, B11, hE, B17, B19, hF⟩
        have SM := Lib.hid (sameW_any V ta tn tc va vn vc V24 hF.ents hS.view.ents)
        unfold Wv at SM
        have wen : IntKind.i64.wrap ((pn : Int) - (j : Int)) = (en : Int) := by rw [IntKind.wrap_i64, HEN.out]; omega
        have v0 := hS.b5.cell (v := .int .i64 V.t) 0 rfl
        have v1 := hS.b5.cell (v := .slice va vn vc) 1 rfl
        have vl := hS.b5.lt
        have t0 := B19.cell (v := .int .i64 V.t) 0 rfl
        have t1 := B19.cell (v := .slice ta tn tc) 1 rfl
        have tl := B19.lt
        have HS := Lib.hid (And.intro hS (And.intro B11 (And.intro hE B17)))
        clear hS B11 hE B17 B19 hF
        go_wp2_with fail
        refine SM.out.mono ?_
        rintro e V25 ⟨rfl, hb25⟩
        have HS2 := Lib.hid (And.intro (HS.out.1.below hb25) (And.intro (HS.out.2.1.below hb25) (And.intro (HS.out.2.2.1.below hb25) (HS.out.2.2.2.below hb25))))
        clear hb25 SM HS v0 v1 vl t0 t1 tl
        have s6 := HS2.out.1.b1.cell (v := .slice pa pn pc) 6 rfl
        have sl := HS2.out.1.b1.lt
        have t6 := HS2.out.2.2.2.cell (v := .slice ea en ec) 6 rfl
        have tl := HS2.out.2.2.2.lt
        have v1 := HS2.out.1.b5.cell (v := .slice va vn vc) 1 rfl
        have vl := HS2.out.1.b5.lt
        go_wp2
        clear s6 sl t6 tl v1 vl wen
        have hvn : vn = V.es.length := ListAt.len HS2.out.1.view.ents
        have HVN := Lib.hid hvn
        have hvn2 : vn < 1099511627776 := by
          rcases HS2.out.1.view.ents with ⟨_, h2⟩ | ⟨b, off, cap, _, hl, _⟩
          · rw [hvn, h2]; simp
          · rw [hvn]; exact hl
        clear hvn
        go_loopw [137] (fun v137 wr => ∃ i : Nat, (i ≤ vn ∧ v137 = .int .i64 i) ∧ RS w #[.int .i64 c.id, .int .i64 c.gx, .int .i64 c.gy, .int .i64 c.b.t, .slice a n cap, .int .i64 c.ack, .slice pa pn pc] #[.int .i64 V.t, .slice va vn vc] g5 (.slice va vn vc) V.es wr ∧ Bk wr g11 #[.int .i64 st, .slice sa sn sc] 26 ∧ HeldE w wr (.slice sa sn sc) (srv c j).es) (fun v137 _ => vn - (intOf v137).toNat)
        case atStart => exact ⟨0, ⟨by omega, rfl⟩, HS2.out.1, HS2.out.2.1, HS2.out.2.2.1⟩
        case round =>
          clear HS2
          obtain ⟨i, ⟨hi, rfl⟩, hS, B11, hE⟩ := hrel
          have HS := Lib.hid (And.intro hS (And.intro B11 hE))
          by_cases hlt2 : i < vn
          · obtain ⟨e, he⟩ := at_lt (l := V.es) (i := i) (by rw [← HVN.out]; exact hlt2)
            rcases hS.view.ents with ⟨h1, h2⟩ | ⟨bV, oV, capV, h1, hlV, hcV⟩
            · rw [h2] at he; cases he
            injection h1 with q1 q2 q3
            subst q1
            obtain ⟨x0, xa, xn, xc, x1, -⟩ := hcV i e he
            clear hS B11 hE he hcV hlV q2 q3
            go_upto_region 28 with fail
            refine wp_name (fun X => (RS w #[.int .i64 c.id, .int .i64 c.gx, .int .i64 c.gy, .int .i64 c.b.t, .slice a n cap, .int .i64 c.ack, .slice pa pn pc] #[.int .i64 V.t, .slice (some ⟨bV, oV, none⟩) vn vc] g5 (.slice (some ⟨bV, oV, none⟩) vn vc) V.es X ∧ Bk X g11 #[.int .i64 st, .slice sa sn sc] 26 ∧ HeldE w X (.slice sa sn sc) (srv c j).es) ∧ Bk X wr.heap.size #[.int .i64 e.id, .slice xa xn xc] 43) ⟨⟨HS.out.1.below ((Below.refl _ _).alloc (Nat.le_refl _) _), HS.out.2.1.below ((Below.refl _ _).alloc (Nat.le_refl _) _), HS.out.2.2.below ((Below.refl _ _).alloc (Nat.le_refl _) _)⟩, Bk.made _ _ _⟩ ?_
            obtain ⟨g22, hg22⟩ : ∃ g, wr.heap.size = g := ⟨_, rfl⟩
            rw [hg22]
            clear hg22 HS x0 x1
            rintro V30 ⟨⟨hS, B11, hE⟩, B22⟩
            have SHJ := SH.out V30 hS.bel j e.id sa sn sc (hE.ents hS.bel)
            rw [HQ.out.2, HQ.out.1] at SHJ
            have GEJ := Lib.hid (fun X (hX : Below w.heap.size w X) hE => GE.out X hX e.id (some ⟨bV, oV, none⟩) vn vc hE)
            unfold Wv at SHJ GEJ
            have nv := neq_V 0 0 0 0
            rcases hgm : getM V e.id 1 with _ | pc1
            · rw [hgm] at SHJ
              rw [getV_none hgm] at GEJ
              simp only [Option.isSome_none, Option.isSome_some, if_true, Bool.false_eq_true, if_false] at SHJ
              unfold VE at SHJ
              have HSHJ := Lib.hid SHJ
              clear hgm SHJ
              have s0 := hS.b1.cell (v := .int .i64 c.id) 0 rfl
              have s1 := hS.b1.cell (v := .int .i64 c.gx) 1 rfl
              have s2 := hS.b1.cell (v := .int .i64 c.gy) 2 rfl
              have s3 := hS.b1.cell (v := .int .i64 c.b.t) 3 rfl
              have s4 := hS.b1.cell (v := .slice a n cap) 4 rfl
              have s5 := hS.b1.cell (v := .int .i64 c.ack) 5 rfl
              have s6 := hS.b1.cell (v := .slice pa pn pc) 6 rfl
              have sl := hS.b1.lt
              have y0 := B11.cell (v := .int .i64 st) 0 rfl
              have y1 := B11.cell (v := .slice sa sn sc) 1 rfl
              have yl := B11.lt
              have z0 := B22.cell (v := .int .i64 e.id) 0 rfl
              have zl := B22.lt
              have HS := Lib.hid (And.intro hS (And.intro B11 (And.intro hE B22)))
              clear hS B11 hE B22
              go_wp2_with fail
              refine HSHJ.out.mono ?_
              rintro e2 V31 ⟨rfl, hb31⟩
              have HS2 := Lib.hid (And.intro (HS.out.1.below hb31) (And.intro (HS.out.2.1.below hb31) (And.intro (HS.out.2.2.1.below hb31) (HS.out.2.2.2.below hb31))))
              clear hb31 HSHJ HS z0 zl s0 s1 s2 s3 s4 s5 s6 sl y0 y1 yl
              go_upto_region 29 with fail
              refine wp_name (fun X => (RS w #[.int .i64 c.id, .int .i64 c.gx, .int .i64 c.gy, .int .i64 c.b.t, .slice a n cap, .int .i64 c.ack, .slice pa pn pc] #[.int .i64 V.t, .slice (some ⟨bV, oV, none⟩) vn vc] g5 (.slice (some ⟨bV, oV, none⟩) vn vc) V.es X ∧ Bk X g11 #[.int .i64 st, .slice sa sn sc] 26 ∧ HeldE w X (.slice sa sn sc) (srv c j).es ∧ Bk X g22 #[.int .i64 e.id, .slice xa xn xc] 43) ∧ Bk X V31.heap.size #[.int .i64 0, .int .i64 0] 23) ⟨⟨HS2.out.1.below ((Below.refl _ _).alloc (Nat.le_refl _) _), HS2.out.2.1.below ((Below.refl _ _).alloc (Nat.le_refl _) _), HS2.out.2.2.1.below ((Below.refl _ _).alloc (Nat.le_refl _) _), HS2.out.2.2.2.below ((Below.refl _ _).alloc (Nat.le_refl _) _)⟩, Bk.made _ _ _⟩ ?_
              obtain ⟨g23, hg23⟩ : ∃ g, V31.heap.size = g := ⟨_, rfl⟩
              rw [hg23]
              clear hg23 HS2
              rintro V32 ⟨⟨hS, B11, hE, B22⟩, B23⟩
              have v0 := hS.b5.cell (v := .int .i64 V.t) 0 rfl
              have v1 := hS.b5.cell (v := .slice (some ⟨bV, oV, none⟩) vn vc) 1 rfl
              have vl := hS.b5.lt
              have z0 := B22.cell (v := .int .i64 e.id) 0 rfl
              have zl := B22.lt
              have HGE := Lib.hid (GEJ.out V32 hS.bel hS.view.ents)
              have HS := Lib.hid (And.intro hS (And.intro B11 (And.intro hE B23)))
              clear hS B11 hE B22 B23
              go_wp2_with fail
              refine HGE.out.mono ?_
              rintro e2 V33 ⟨rfl, hb33⟩
              have HS2 := Lib.hid (And.intro (HS.out.1.below hb33) (And.intro (HS.out.2.1.below hb33) (And.intro (HS.out.2.2.1.below hb33) (HS.out.2.2.2.below hb33))))
              clear hb33 HGE HS v0 v1 vl z0 zl
              go_upto_region 30 with fail
              refine wp_name (fun X => RS w #[.int .i64 c.id, .int .i64 c.gx, .int .i64 c.gy, .int .i64 c.b.t, .slice a n cap, .int .i64 c.ack, .slice pa pn pc] #[.int .i64 V.t, .slice (some ⟨bV, oV, none⟩) vn vc] g5 (.slice (some ⟨bV, oV, none⟩) vn vc) V.es X ∧ Bk X g11 #[.int .i64 st, .slice sa sn sc] 26 ∧ HeldE w X (.slice sa sn sc) (srv c j).es ∧ Bk X g23 #[.int .i64 0, .int .i64 0] 23) ⟨HS2.out.1.below ((Below.refl _ _).alloc (Nat.le_refl _) _), HS2.out.2.1.below ((Below.refl _ _).alloc (Nat.le_refl _) _), HS2.out.2.2.1.below ((Below.refl _ _).alloc (Nat.le_refl _) _), HS2.out.2.2.2.below ((Below.refl _ _).alloc (Nat.le_refl _) _)⟩ ?_
              clear HS2
              rintro V34 ⟨hS, B11, hE, B23⟩
              have u0 := B23.cell (v := .int .i64 0) 0 rfl
              have u1 := B23.cell (v := .int .i64 0) 1 rfl
              have ul := B23.lt
              have HS := Lib.hid (And.intro hS (And.intro B11 hE))
              clear hS B11 hE B23
              go_wp2
              go_roundw
              case rel => exact ⟨i + 1, ⟨by omega, by go_num⟩, HS.out.1, HS.out.2.1, HS.out.2.2⟩
              case measure => simp [intOf]; omega
            · rw [hgm] at SHJ
              rw [getV_some hgm] at GEJ
              simp only [Option.isSome_none, Option.isSome_some, if_true, Bool.false_eq_true, if_false] at SHJ
              unfold VE at SHJ
              have HSHJ := Lib.hid SHJ
              clear hgm SHJ
              have s0 := hS.b1.cell (v := .int .i64 c.id) 0 rfl
              have s1 := hS.b1.cell (v := .int .i64 c.gx) 1 rfl
              have s2 := hS.b1.cell (v := .int .i64 c.gy) 2 rfl
              have s3 := hS.b1.cell (v := .int .i64 c.b.t) 3 rfl
              have s4 := hS.b1.cell (v := .slice a n cap) 4 rfl
              have s5 := hS.b1.cell (v := .int .i64 c.ack) 5 rfl
              have s6 := hS.b1.cell (v := .slice pa pn pc) 6 rfl
              have sl := hS.b1.lt
              have y0 := B11.cell (v := .int .i64 st) 0 rfl
              have y1 := B11.cell (v := .slice sa sn sc) 1 rfl
              have yl := B11.lt
              have z0 := B22.cell (v := .int .i64 e.id) 0 rfl
              have zl := B22.lt
              have HS := Lib.hid (And.intro hS (And.intro B11 (And.intro hE B22)))
              clear hS B11 hE B22
              go_wp2_with fail
              refine HSHJ.out.mono ?_
              rintro e2 V31 ⟨rfl, hb31⟩
              have HS2 := Lib.hid (And.intro (HS.out.1.below hb31) (And.intro (HS.out.2.1.below hb31) (And.intro (HS.out.2.2.1.below hb31) (HS.out.2.2.2.below hb31))))
              clear hb31 HSHJ HS z0 zl s0 s1 s2 s3 s4 s5 s6 sl y0 y1 yl
              go_upto_region 29 with fail
              refine wp_name (fun X => (RS w #[.int .i64 c.id, .int .i64 c.gx, .int .i64 c.gy, .int .i64 c.b.t, .slice a n cap, .int .i64 c.ack, .slice pa pn pc] #[.int .i64 V.t, .slice (some ⟨bV, oV, none⟩) vn vc] g5 (.slice (some ⟨bV, oV, none⟩) vn vc) V.es X ∧ Bk X g11 #[.int .i64 st, .slice sa sn sc] 26 ∧ HeldE w X (.slice sa sn sc) (srv c j).es ∧ Bk X g22 #[.int .i64 e.id, .slice xa xn xc] 43) ∧ Bk X V31.heap.size #[.int .i64 0, .int .i64 0] 23) ⟨⟨HS2.out.1.below ((Below.refl _ _).alloc (Nat.le_refl _) _), HS2.out.2.1.below ((Below.refl _ _).alloc (Nat.le_refl _) _), HS2.out.2.2.1.below ((Below.refl _ _).alloc (Nat.le_refl _) _), HS2.out.2.2.2.below ((Below.refl _ _).alloc (Nat.le_refl _) _)⟩, Bk.made _ _ _⟩ ?_
              obtain ⟨g23, hg23⟩ : ∃ g, V31.heap.size = g := ⟨_, rfl⟩
              rw [hg23]
              clear hg23 HS2
              rintro V32 ⟨⟨hS, B11, hE, B22⟩, B23⟩
              have v0 := hS.b5.cell (v := .int .i64 V.t) 0 rfl
              have v1 := hS.b5.cell (v := .slice (some ⟨bV, oV, none⟩) vn vc) 1 rfl
              have vl := hS.b5.lt
              have z0 := B22.cell (v := .int .i64 e.id) 0 rfl
              have zl := B22.lt
              have HGE := Lib.hid (GEJ.out V32 hS.bel hS.view.ents)
              have HS := Lib.hid (And.intro hS (And.intro B11 (And.intro hE B23)))
              clear hS B11 hE B22 B23
              go_wp2_with fail
              refine HGE.out.mono ?_
              rintro e2 V33 ⟨rfl, hb33⟩
              have HS2 := Lib.hid (And.intro (HS.out.1.below hb33) (And.intro (HS.out.2.1.below hb33) (And.intro (HS.out.2.2.1.below hb33) (HS.out.2.2.2.below hb33))))
              clear hb33 HGE HS v0 v1 vl z0 zl
              go_upto_region 30 with fail
              refine wp_name (fun X => RS w #[.int .i64 c.id, .int .i64 c.gx, .int .i64 c.gy, .int .i64 c.b.t, .slice a n cap, .int .i64 c.ack, .slice pa pn pc] #[.int .i64 V.t, .slice (some ⟨bV, oV, none⟩) vn vc] g5 (.slice (some ⟨bV, oV, none⟩) vn vc) V.es X ∧ Bk X g11 #[.int .i64 st, .slice sa sn sc] 26 ∧ HeldE w X (.slice sa sn sc) (srv c j).es ∧ Bk X g23 #[.int .i64 0, .int .i64 0] 23) ⟨HS2.out.1.below ((Below.refl _ _).alloc (Nat.le_refl _) _), HS2.out.2.1.below ((Below.refl _ _).alloc (Nat.le_refl _) _), HS2.out.2.2.1.below ((Below.refl _ _).alloc (Nat.le_refl _) _), HS2.out.2.2.2.below ((Below.refl _ _).alloc (Nat.le_refl _) _)⟩ ?_
              clear HS2
              rintro V34 ⟨hS, B11, hE, B23⟩
              have u0 := B23.cell (v := .int .i64 0) 0 rfl
              have u1 := B23.cell (v := .int .i64 0) 1 rfl
              have ul := B23.lt
              have HS := Lib.hid (And.intro hS (And.intro B11 hE))
              clear hS B11 hE B23
              go_wp2
              go_roundw
              case rel => exact ⟨i + 1, ⟨by omega, by go_num⟩, HS.out.1, HS.out.2.1, HS.out.2.2⟩
              case measure => simp [intOf]; omega
          · have hb := hS.bel
            clear hS B11 hE HS
            go_wp2_with fail
            refine (AWK.out _ hb).mono ?_
            rintro e VA ⟨rfl, hbA⟩
            have hbE := (below_cc hbA hb).1
            clear hbA
            go_wp2
            go_returns
            exact ⟨rfl, hbE⟩
set_option maxHeartbeats 8000000 in
theorem recon_big (id gx gy t ack : Int) (a : Option Addr) (n cap : Nat) (pa : Option Addr) (pn pc : Nat) (nn : Int) (hn : 0 ≤ nn ∧ nn ≤ 255) (w : World) (hR : RG w) (hM : RM w) (hw : 2 ≤ w.heap.size) (h : EntsRaw w (.slice a n cap)) (hp : InpsRaw w (.slice pa pn pc)) (hbig : ¬ (SmallE w a n ∧ pn ≤ 66)) :
    Calls Tryz.prog 3 #[.agg #[.int .i64 id, .int .i64 gx, .int .i64 gy, .int .i64 t, .slice a n cap, .int .i64 ack, .slice pa pn pc], .int .u8 nn] w fun e w' => e = .returned (.bool true) ∧ Below w.heap.size w w' := by
  have AWK := Lib.hid (fun V (hV : Below w.heap.size w V) => awake_any V (hR.below hV) (hM.low hV hw) (Nat.le_trans hw hV.size))
  have FW := Lib.hid (fun V (hV : Below w.heap.size w V) => Few_big id gx gy t ack a n cap pa pn pc V (h.below hV) (SlRaw.below (fun b o ⟨x, hx, hi⟩ => ⟨x, InpAt.below' hV b o x hx, hi⟩) hp) (fun q => hbig ⟨q.1.back h hV, q.2⟩))
  clear hR hM hw h hp hbig
  go_enter Tryz.func3, Tryz.ntmps3
  have HB1 := Lib.hid (show Bk (w.alloc (.cells #[.int .i64 id, .int .i64 gx, .int .i64 gy, .int .i64 t, .slice a n cap, .int .i64 ack, .slice pa pn pc] 29)) w.heap.size #[.int .i64 id, .int .i64 gx, .int .i64 gy, .int .i64 t, .slice a n cap, .int .i64 ack, .slice pa pn pc] 29 ∧ Below w.heap.size w (w.alloc (.cells #[.int .i64 id, .int .i64 gx, .int .i64 gy, .int .i64 t, .slice a n cap, .int .i64 ack, .slice pa pn pc] 29)) from ⟨Bk.made _ _ _, by go_grown⟩)
  go_wp2_with fail
  refine (FW.out _ HB1.out.2).mono ?_
  rintro e V1 ⟨rfl, hb1⟩
  obtain ⟨hb, hs⟩ := below_cc hb1 HB1.out.2
  clear hb1 HB1 FW
  go_wp2_with fail
  refine (AWK.out _ hb).mono ?_
  rintro e VA ⟨rfl, hbA⟩
  have hbE := (below_cc hbA hb).1
  clear hbA
  go_wp2
  go_returns
  exact ⟨rfl, hbE⟩
theorem recon_any (c : Cli) (a : Option Addr) (n cap : Nat) (pa : Option Addr) (pn pc : Nat) (nn : Int) (hn : 0 ≤ nn ∧ nn ≤ 255) (w : World) (hR : RG w) (hM : RM w) (hw : 2 ≤ w.heap.size) (h : EntsAt w (.slice a n cap) c.b.es) (hp : InpsAt w (.slice pa pn pc) c.p) (hcap : pn ≤ pc) (hx : I64s c.p) :
    Calls Tryz.prog 3 #[Cv c a n cap pa pn pc, .int .u8 nn] w fun e w' => e = .returned (.bool true) ∧ Below w.heap.size w w' := by
  rcases hv : validC c with _ | _
  · exact recon_1 c a n cap pa pn pc nn hn w hR hM hw h hp hcap hx hv
  · by_cases hf : (viewR c).2 = 0
    · obtain ⟨⟨V, z⟩, hV⟩ : ∃ R, viewR c = R := ⟨_, rfl⟩
      rw [hV] at hf
      simp only at hf
      subst hf
      exact recon_3 c a n cap pa pn pc nn hn w hR hM hw h hp hcap hx V hv hV
    · exact recon_2 c a n cap pa pn pc nn hn w hR hM hw h hp hcap hx hv hf
end Go.Proofs.YtlcjkomfjgddeaaGreatDoor
