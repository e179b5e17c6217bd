/- math/big: Int.Div, Int.Sign, Int.Int64, NewInt for numbers that are not negative; marchesref01's Big and Floor. -/
import Derived.Test.YtghfggfgndgkjaaGreatDoorBigQuo3
set_option linter.unusedVariables false
set_option linter.unusedSimpArgs false
namespace Go.Proofs.YtghfggfgndgkjaaGreatDoor
open Go.RowKit
set_option maxRecDepth 100000
attribute [local go_sem] opLow opUpon opLow2 opUpon2 opLow3

theorem isign (g n c : Nat) (a : Option Addr) (hn : 0 < n) (w : World) (hg : Bk w g #[.bool false, .slice a n c] 146) :
    Calls Tryz.prog 123 #[.pointer (some ⟨g, 0, none⟩)] w fun e w' => e = .returned (.int .i64 1) ∧ Below w.heap.size w w' := by
  have k0 := hg.cell (v := .bool false) 0 rfl
  have k1 := hg.cell (v := .slice a n c) 1 rfl
  have kl := hg.lt
  have y1 : (n == 0) = false := by simp; omega
  have y2 : ((n : Int) == 0) = false := by simp; omega
  clear hg
  go_enter Tryz.func123, Tryz.ntmps123
  go_wp2
  go_returns
  exact ⟨rfl, by go_grown⟩
theorem low64_any (v : Value) (q : Nat) (w : World) (h : QN w v q) :
    Calls Tryz.prog 129 #[v] w fun e w' => e = .returned (.int .u64 q) ∧ Below w.heap.size w w' := by
  obtain ⟨a, n, c, rfl, ⟨rfl, rfl⟩ | ⟨rfl, b, cs, rfl, hB, h0⟩⟩ := h
  · go_enter Tryz.func129, Tryz.ntmps129
    go_wp2
    go_returns
    exact ⟨rfl, by go_grown⟩
  · have k0 := hB.cell 0 h0
    have kl := hB.lt
    clear hB h0
    go_enter Tryz.func129, Tryz.ntmps129
    go_wp2
    go_returns
    exact ⟨rfl, by go_grown⟩
theorem int64_any (g q : Nat) (v : Value) (hq : q < 9223372036854775808) (w : World) (hg : Bk w g #[.bool false, v] 146) (h : QN w v q) :
    Calls Tryz.prog 98 #[.pointer (some ⟨g, 0, none⟩)] w fun e w' => e = .returned (.int .i64 q) ∧ Below w.heap.size w w' := by
  have k0 := hg.cell (v := .bool false) 0 rfl
  have k1 := hg.cell (v := v) 1 rfl
  have kl := hg.lt
  have HG := Lib.hid hg
  have LW := Lib.hid (fun V h => low64_any v q V h)
  have HQ := Lib.hid h
  obtain ⟨a, n, c, rfl, -⟩ := h
  have e1 : ((q : Int) + 9223372036854775808) % 18446744073709551616 - 9223372036854775808 = q := by omega
  have e2 : (q : Int) % 18446744073709551616 = q := by omega
  clear hg
  go_enter Tryz.func98, Tryz.ntmps98
  go_wp2_with fail
  refine (LW.out _ ?_).mono ?_
  · exact HQ.out
  rintro e V ⟨rfl, hb⟩
  have HB := Lib.hid hb
  have j0 := (HG.out.below hb).cell (v := .bool false) 0 rfl
  clear k0 k1 hb
  go_wp2
  go_returns
  exact ⟨rfl, HB.out⟩
set_option maxHeartbeats 4000000 in
theorem newint_any (x : Nat) (hx : x < 9223372036854775808) (w : World) :
    Calls Tryz.prog 97 #[.int .i64 x] w fun e w' => ∃ g v, e = .returned (.pointer (some ⟨g, 0, none⟩)) ∧ w.heap.size ≤ g ∧ Bk w' g #[.bool false, v] 146 ∧ S1 w' v x ∧ Below w.heap.size w w' := by
  have e2 : (x : Int) % 18446744073709551616 = x := by omega
  have e3 : decide ((x : Int) < 0) = false := decide_eq_false (by omega)
  by_cases h0 : x = 0
  · subst h0
    go_enter Tryz.func97, Tryz.ntmps97
    go_wp2
    go_returns
    exact ⟨_, _, rfl, Nat.le_refl _, Bk.made _ _ _, .inl ⟨rfl, rfl⟩, by go_grown⟩
  · have y1 : (x == 0) = false := by simp; omega
    have y2 : ((x : Int) == 0) = false := by simp; omega
    have hp : 0 < x := by omega
    clear h0
    go_enter Tryz.func97, Tryz.ntmps97
    go_wp2
    go_returns
    exact ⟨_, _, rfl, Nat.le_succ _, Bk.at_ (by simp), .inr ⟨hp, _, rfl, (Bk.made _ _ _).alloc _⟩, by go_grown⟩
theorem big_any (x : Nat) (hx : x < 9223372036854775808) (w : World) :
    Calls Tryz.prog 91 #[.int .i64 x] w fun e w' => ∃ g v, e = .returned (.pointer (some ⟨g, 0, none⟩)) ∧ w.heap.size ≤ g ∧ Bk w' g #[.bool false, v] 146 ∧ S1 w' v x ∧ Below w.heap.size w w' := by
  have NI := Lib.hid (fun V => newint_any x hx V)
  clear hx
  go_enter Tryz.func91, Tryz.ntmps91
  go_wp2_with fail
  refine (NI.out _).mono ?_
  rintro e V ⟨g, v, rfl, h1, h2, h3, h4⟩
  have HX := Lib.hid (And.intro h1 (And.intro h2 (And.intro h3 h4)))
  clear h1 h2 h3 h4 NI
  go_wp2
  go_returns
  exact ⟨_, _, rfl, HX.out⟩
set_option maxHeartbeats 4000000 in
theorem idiv (gz gx gy bv S y c1 c2 c3 c4 c5 : Nat) (v : Value) (hS : S < 18446744073709551616 * 18446744073709551616) (hy : 2 ≤ y) (hy2 : y < 9223372036854775808) (hq : S / y < 18446744073709551616) (hzx : gz ≠ gx) (hzy : gz ≠ gy) (w : World)
    (hz : Bk w gz #[.bool false, .slice none 0 0] 146) (hx : Bk w gx #[.bool false, v] 146) (h : RN w v S) (hyb : Bk w gy #[.bool false, .slice (some ⟨bv, 0, none⟩) 1 6] 146) (hv : Bk w bv (W6 y c1 c2 c3 c4 c5) 171) :
    Calls Tryz.prog 125 #[.pointer (some ⟨gz, 0, none⟩), .pointer (some ⟨gx, 0, none⟩), .pointer (some ⟨gy, 0, none⟩)] w fun e' w' => e' = .returned (.pointer (some ⟨gz, 0, none⟩)) ∧ (∃ vq, Bk w' gz #[.bool false, vq] 146 ∧ QN w' vq (S / y)) ∧ Mut (fun k => k = gz) w w' := by
  have QR := Lib.hid (fun gr V a b c => iquorem gz gx gy gr bv S y c1 c2 c3 c4 c5 v hS hy hy2 hq hzx hzy a b c V)
  obtain ⟨Q, hQ⟩ : ∃ k, S / y = k := ⟨_, rfl⟩
  rw [hQ] at QR ⊢
  have HH := Lib.hid (And.intro hz (And.intro hx (And.intro h (And.intro hyb hv))))
  have i0 := hyb.cell (v := .bool false) 0 rfl
  have il := hyb.lt
  clear hQ hS hy hy2 hq hzx hzy hz hx h hyb hv
  go_enter Tryz.func125, Tryz.ntmps125
  go_wp2_with fail
  have hb := Below.heap_alloc w (.cells #[.bool false, .slice none 0 0] 146)
  have hB : Below w.heap.size w (w.alloc (.cells #[.bool false, .slice none 0 0] 146)) := by go_grown
  refine (QR.out _ _ ?_ ?_ ?_ (HH.out.1.below hB) (Bk.made _ _ _) (HH.out.2.1.below hB) (HH.out.2.2.1.below hB) (HH.out.2.2.2.1.below hB) (HH.out.2.2.2.2.below hB)).mono ?_
  · exact Nat.ne_of_gt HH.out.2.1.lt
  · exact Nat.ne_of_gt HH.out.2.2.2.1.lt
  · exact Nat.ne_of_lt HH.out.1.lt
  rintro e V ⟨rfl, hq, ⟨vr, hr⟩, hm⟩
  have r0 := hr.cell (v := .bool false) 0 rfl
  have rl := hr.lt
  have HX := Lib.hid (And.intro hq ((Mut.of_below (U := fun k => k = gz) hB).trans hm (fun x hx h => h.resolve_right (Nat.ne_of_lt hx))))
  clear hq hr hm hb hB QR HH i0 il
  go_wp2
  go_returns
  exact ⟨rfl, HX.out⟩
set_option maxHeartbeats 4000000 in
theorem refFloor_any (gx gy bv S y c1 c2 c3 c4 c5 : Nat) (v : Value) (hS : S < 18446744073709551616 * 18446744073709551616) (hy : 2 ≤ y) (hy2 : y < 9223372036854775808) (hq : S / y < 18446744073709551616) (w : World)
    (hx : Bk w gx #[.bool false, v] 146) (h : RN w v S) (hyb : Bk w gy #[.bool false, .slice (some ⟨bv, 0, none⟩) 1 6] 146) (hv : Bk w bv (W6 y c1 c2 c3 c4 c5) 171) :
    Calls Tryz.prog 92 #[.pointer (some ⟨gx, 0, none⟩), .pointer (some ⟨gy, 0, none⟩)] w fun e' w' => ∃ g vq, e' = .returned (.pointer (some ⟨g, 0, none⟩)) ∧ Bk w' g #[.bool false, vq] 146 ∧ QN w' vq (S / y) ∧ Below w.heap.size w w' := by
  have SG := Lib.hid (fun V h => isign gy 1 6 (some ⟨bv, 0, none⟩) (by omega) V h)
  have DV := Lib.hid (fun gz V a b => idiv gz gx gy bv S y c1 c2 c3 c4 c5 v hS hy hy2 hq a b V)
  obtain ⟨Q, hQ⟩ : ∃ k, S / y = k := ⟨_, rfl⟩
  rw [hQ] at DV ⊢
  have HH := Lib.hid (And.intro hx (And.intro h (And.intro hyb hv)))
  clear hQ hS hy hy2 hq hx h hyb hv
  go_enter Tryz.func92, Tryz.ntmps92
  go_wp2_with fail
  refine (SG.out _ ?_).mono ?_
  · exact HH.out.2.2.1
  rintro e V ⟨rfl, hb⟩
  have HV := Lib.hid (And.intro hb (And.intro (HH.out.1.below hb) (And.intro (HH.out.2.1.below hb) (And.intro (HH.out.2.2.1.below hb) (HH.out.2.2.2.below hb)))))
  clear hb HH SG
  go_wp2_with fail
  have hB : Below V.heap.size V (V.alloc (.cells #[.bool false, .slice none 0 0] 146)) := by go_grown
  refine (DV.out _ _ ?_ ?_ (Bk.made _ _ _) (HV.out.2.1.below hB) (HV.out.2.2.1.below hB) (HV.out.2.2.2.1.below hB) (HV.out.2.2.2.2.below hB)).mono ?_
  · exact Nat.ne_of_gt HV.out.2.1.lt
  · exact Nat.ne_of_gt HV.out.2.2.2.1.lt
  rintro e W ⟨rfl, ⟨vq, h1, h2⟩, hm⟩
  have HX := Lib.hid (And.intro h1 (And.intro h2 (HV.out.1.trans ((hB.trans (hm.below hB.size (fun b hb e => Nat.ne_of_lt hb e))).mono HV.out.1.size))))
  clear h1 h2 hm hB HV DV
  go_wp2
  go_returns
  exact ⟨_, _, rfl, HX.out⟩
end Go.Proofs.YtghfggfgndgkjaaGreatDoor
