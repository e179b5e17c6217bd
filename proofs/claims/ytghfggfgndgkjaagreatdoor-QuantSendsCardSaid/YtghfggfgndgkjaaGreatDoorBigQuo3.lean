/- math/big: Int.QuoRem for numbers that are not negative. -/
import Derived.Test.YtghfggfgndgkjaaGreatDoorBigQuo2
import Derived.Deep.RegionWith
import Derived.BigRegion
set_option linter.unusedVariables false
set_option linter.unusedSimpArgs false
namespace Go.Proofs.YtghfggfgndgkjaaGreatDoor
open Go.RowKit
set_option maxRecDepth 100000
attribute [local go_sem] opLow opUpon opLow2 opUpon2 opLow3

/-- what the two stores of quotient and remainder leave -/
def QP (w : World) (gz gx gy gr Q R : Nat) (v1 v2 v v4 : Value) (X : World) : Prop :=
  Bk X gz #[.bool false, v1] 146 ∧ Bk X gr #[.bool false, v2] 146 ∧ Bk X gx #[.bool false, v] 146 ∧ Bk X gy #[.bool false, v4] 146 ∧ QN X v1 Q ∧ QN X v2 R ∧ Mut (fun k => k = gz ∨ k = gr) w X
theorem QN.set {w : World} {v : Value} {q g i : Nat} {cs : Array Value} {u : Value} {t : TypeId} (h : QN w v q) (hg : Bk w g cs t) (ht : t ≠ 171) : QN (w.setCell ⟨g, i, none⟩ u) v q := by
  obtain ⟨a, n, c, h1, h2 | ⟨h2, b, ds, h3, h4, h5⟩⟩ := h
  · exact ⟨a, n, c, h1, .inl h2⟩
  · refine ⟨a, n, c, h1, .inr ⟨h2, b, ds, h3, h4.far (p := ⟨g, i, none⟩) (fun e => ?_) u, h5⟩⟩
    subst e
    unfold Bk at hg h4
    rw [h4] at hg
    injection hg with hg
    injection hg with h6 h7
    exact ht h7.symm
theorem quo_put {w W : World} {gz gx gy gr bv y c1 c2 c3 c4 c5 S Q R : Nat} {v v1 v2 : Value} (hzx : gz ≠ gx) (hzy : gz ≠ gy) (hrx : gr ≠ gx) (hry : gr ≠ gy) (hzr : gz ≠ gr) (hb : Below w.heap.size w W)
    (HH : Bk w gz #[.bool false, .slice none 0 0] 146 ∧ Bk w gr #[.bool false, .slice none 0 0] 146 ∧ Bk w gx #[.bool false, v] 146 ∧ RN w v S ∧ Bk w gy #[.bool false, .slice (some ⟨bv, 0, none⟩) 1 6] 146 ∧ Bk w bv (W6 y c1 c2 c3 c4 c5) 171)
    (h1 : QN W v1 Q) (h2 : QN W v2 R) : QP w gz gx gy gr Q R v1 v2 v (.slice (some ⟨bv, 0, none⟩) 1 6) ((W.setCell ⟨gz, 1, none⟩ v1).setCell ⟨gr, 1, none⟩ v2) := by
  obtain ⟨hz, hr, hx, -, hy, -⟩ := HH
  have hz := hz.below hb
  have hr := hr.below hb
  have hx := hx.below hb
  have hy := hy.below hb
  have hm := Mut.of_below (U := fun k => k = gz ∨ k = gr) hb
  have r1 : Bk (W.setCell ⟨gz, 1, none⟩ v1) gr _ _ := hr.far (p := ⟨gz, 1, none⟩) (fun e => hzr e.symm) v1
  have z1 : Bk (W.setCell ⟨gz, 1, none⟩ v1) gz #[.bool false, v1] 146 := hz.put 1 v1
  refine ⟨z1.far (p := ⟨gr, 1, none⟩) (fun e => hzr e) v2, r1.put 1 v2, (hx.far (p := ⟨gz, 1, none⟩) (fun e => hzx e.symm) v1).far (p := ⟨gr, 1, none⟩) (fun e => hrx e.symm) v2, (hy.far (p := ⟨gz, 1, none⟩) (fun e => hzy e.symm) v1).far (p := ⟨gr, 1, none⟩) (fun e => hry e.symm) v2, (h1.set hz (by decide)).set r1 (by decide), (h2.set hz (by decide)).set r1 (by decide), (hm.put (p := ⟨gz, 1, none⟩) (.inl (.inl rfl)) v1).put (p := ⟨gr, 1, none⟩) (.inl (.inr rfl)) v2⟩
theorem quo_neg {w X : World} {gz gx gy gr Q R : Nat} {v1 v2 v v4 : Value} (hzx : gz ≠ gx) (hzy : gz ≠ gy) (hrx : gr ≠ gx) (hry : gr ≠ gy) (hzr : gz ≠ gr) (H : QP w gz gx gy gr Q R v1 v2 v v4 X) : QP w gz gx gy gr Q R v1 v2 v v4 ((X.drew.setCell ⟨gz, 0, none⟩ (.bool false)).setCell ⟨gr, 0, none⟩ (.bool false)) := by
  obtain ⟨hz, hr, hx, hy, h1, h2, hm⟩ := H
  have hb : Below X.heap.size X X.drew := by go_grown
  have hz := hz.below hb
  have hr := hr.below hb
  have hx := hx.below hb
  have hy := hy.below hb
  have h1 := h1.below hb
  have h2 := h2.below hb
  have hm := hm.trans (Mut.of_below (U := fun k => k = gz ∨ k = gr) hb) (fun _ _ h => h)
  generalize X.drew = Y at *
  have r1 : Bk (Y.setCell ⟨gz, 0, none⟩ (.bool false)) gr _ _ := hr.far (p := ⟨gz, 0, none⟩) (fun e => hzr e.symm) (.bool false)
  have z1 : Bk (Y.setCell ⟨gz, 0, none⟩ (.bool false)) gz #[.bool false, v1] 146 := hz.put 0 (.bool false)
  refine ⟨z1.far (p := ⟨gr, 0, none⟩) (fun e => hzr e) (.bool false), r1.put 0 (.bool false), ?_, ?_, (h1.set hz (by decide)).set r1 (by decide), (h2.set hz (by decide)).set r1 (by decide), (hm.put (p := ⟨gz, 0, none⟩) (.inl (.inl rfl)) (.bool false)).put (p := ⟨gr, 0, none⟩) (.inl (.inr rfl)) (.bool false)⟩
  · exact (hx.far (p := ⟨gz, 0, none⟩) (fun e => hzx e.symm) (.bool false)).far (p := ⟨gr, 0, none⟩) (fun e => hrx e.symm) (.bool false)
  · exact (hy.far (p := ⟨gz, 0, none⟩) (fun e => hzy e.symm) (.bool false)).far (p := ⟨gr, 0, none⟩) (fun e => hry e.symm) (.bool false)
theorem via {G T : Prop} (f : T → G) (h : T) : G := f h
theorem wpAny_listed {P : Program} {md : Region.Mode} {ops : Array Oper} {Q : Exit → Act → World → Prop} {fuel : Nat} {l' l : Array Bool} {a : Act} {w : World} (h : l' = l) (H : wpAny P md ops Q fuel l a w) : wpAny P md ops Q fuel l' a w := by rw [h]; exact H
set_option maxHeartbeats 4000000 in
theorem iquorem (gz gx gy gr bv S y c1 c2 c3 c4 c5 : Nat) (v : Value) (hS : S < 18446744073709551616 * 18446744073709551616) (hy : 2 ≤ y) (hy2 : y < 9223372036854775808) (hq : S / y < 18446744073709551616) (hzx : gz ≠ gx) (hzy : gz ≠ gy) (hrx : gr ≠ gx) (hry : gr ≠ gy) (hzr : gz ≠ gr) (w : World)
    (hz : Bk w gz #[.bool false, .slice none 0 0] 146) (hr : Bk w gr #[.bool false, .slice none 0 0] 146) (hx : Bk w gx #[.bool false, v] 146) (h : RN w v S) (hyb : Bk w gy #[.bool false, .slice (some ⟨bv, 0, none⟩) 1 6] 146) (hv : Bk w bv (W6 y c1 c2 c3 c4 c5) 171) :
    Calls Tryz.prog 141 #[.pointer (some ⟨gz, 0, none⟩), .pointer (some ⟨gx, 0, none⟩), .pointer (some ⟨gy, 0, none⟩), .pointer (some ⟨gr, 0, none⟩)] w fun e' w' => e' = .returned (.tuple #[.pointer (some ⟨gz, 0, none⟩), .pointer (some ⟨gr, 0, none⟩)]) ∧ (∃ vq, Bk w' gz #[.bool false, vq] 146 ∧ QN w' vq (S / y)) ∧ (∃ vr, Bk w' gr #[.bool false, vr] 146) ∧ Mut (fun k => k = gz ∨ k = gr) w w' := by
  have DV := Lib.hid (fun V h hv => ndiv_any v bv S y c2 c3 c4 c5 c1 hS hy hy2 hq V h hv)
  obtain ⟨Q, hQ⟩ : ∃ k, S / y = k := ⟨_, rfl⟩
  obtain ⟨R, hR⟩ : ∃ k, S % y = k := ⟨_, rfl⟩
  rw [hQ, hR] at DV
  rw [hQ]
  have HH := Lib.hid (And.intro hz (And.intro hr (And.intro hx (And.intro h (And.intro hyb hv)))))
  have k1 := hz.cell (v := .slice none 0 0) 1 rfl
  have kl := hz.lt
  have r1 := hr.cell (v := .slice none 0 0) 1 rfl
  have rl := hr.lt
  have j1 := hx.cell (v := v) 1 rfl
  have jl := hx.lt
  have i1 := hyb.cell (v := .slice (some ⟨bv, 0, none⟩) 1 6) 1 rfl
  have il := hyb.lt
  clear hz hr hx hyb hv hS hy hy2 hq hQ hR h
  go_enter Tryz.func141, Tryz.ntmps141
  go_upto_region 1 with fail
  refine wp_region_any (by kernel_rfl) ?_
  change wpAny _ _ _ _ _ _ _ (World.drew _)
  refine wpAny_take (i := 0) (v := ?_) rfl (by kernel_rfl) (by kernel_rfl) (by kernel_rfl) (fun _ _ _ h => h) (Or.inl ⟨by rfl, ?_⟩) ?_
  rotate_left
  · intro w
    go_simp
    try with_reducible rfl
  refine wpAny_take (i := 1) (v := ?_) rfl (by kernel_rfl) (by kernel_rfl) (by kernel_rfl) (fun _ _ _ h => h) (Or.inl ⟨by rfl, ?_⟩) ?_
  rotate_left
  · intro w
    go_simp
    try with_reducible rfl
  refine wpAny_take (i := 2) (v := ?_) rfl (by kernel_rfl) (by kernel_rfl) (by kernel_rfl) (fun _ _ _ h => h) (Or.inl ⟨by rfl, ?_⟩) ?_
  rotate_left
  · intro w
    go_simp
    try with_reducible rfl
  refine wpAny_take (i := 3) (v := ?_) rfl (by kernel_rfl) (by kernel_rfl) (by kernel_rfl) (fun _ _ _ h => h) (Or.inl ⟨by rfl, ?_⟩) ?_
  rotate_left
  · intro w
    go_simp
    try with_reducible rfl
  refine wpAny_take (i := 4) (v := ?_) rfl (by kernel_rfl) (by kernel_rfl) (by kernel_rfl) (fun _ _ _ h => h) (Or.inl ⟨by rfl, ?_⟩) ?_
  rotate_left
  · intro w
    go_simp
    try with_reducible rfl
  refine wpAny_take (i := 6) (v := ?_) rfl (by kernel_rfl) (by kernel_rfl) (by kernel_rfl) (fun _ _ _ h => h) (Or.inl ⟨by rfl, ?_⟩) ?_
  rotate_left
  · intro w
    go_simp
    try with_reducible rfl
  refine wpAny_take (i := 7) (v := ?_) rfl (by kernel_rfl) (by kernel_rfl) (by kernel_rfl) (fun _ _ _ h => h) (Or.inl ⟨by rfl, ?_⟩) ?_
  rotate_left
  · intro w
    go_simp
    try with_reducible rfl
  refine wpAny_take (i := 8) (v := ?_) rfl (by kernel_rfl) (by kernel_rfl) (by kernel_rfl) (fun _ _ _ h => h) (Or.inl ⟨by rfl, ?_⟩) ?_
  rotate_left
  · intro w
    go_simp
    try with_reducible rfl
  refine wpAny_take (i := 10) (v := ?_) rfl (by kernel_rfl) (by kernel_rfl) (by kernel_rfl) (fun _ _ _ h => h) (Or.inl ⟨by rfl, ?_⟩) ?_
  rotate_left
  · intro w
    go_simp
    try with_reducible rfl
  refine wpAny_take (i := 11) (v := ?_) rfl (by kernel_rfl) (by kernel_rfl) (by kernel_rfl) (fun _ _ _ h => h) (Or.inl ⟨by rfl, ?_⟩) ?_
  rotate_left
  · intro w
    go_simp
    try with_reducible rfl
  refine wpAny_take (i := 12) (v := ?_) rfl (by kernel_rfl) (by kernel_rfl) (by kernel_rfl) (fun _ _ _ h => h) (Or.inl ⟨by rfl, ?_⟩) ?_
  rotate_left
  · intro w
    go_simp
    try with_reducible rfl
  refine wpAny_take (i := 14) (v := ?_) rfl (by kernel_rfl) (by kernel_rfl) (by kernel_rfl) (fun _ _ _ h => h) (Or.inl ⟨by rfl, ?_⟩) ?_
  rotate_left
  · intro w
    go_simp
    try with_reducible rfl
  refine wpAny_take (i := 15) (v := ?_) rfl (by kernel_rfl) (by kernel_rfl) (by kernel_rfl) (fun _ _ _ h => h) (Or.inl ⟨by rfl, ?_⟩) ?_
  rotate_left
  · intro w
    go_simp
    try with_reducible rfl
  refine wpAny_take (i := 16) (v := ?_) rfl (by kernel_rfl) (by kernel_rfl) (by kernel_rfl) (fun _ _ _ h => h) (Or.inl ⟨by rfl, ?_⟩) ?_
  rotate_left
  · intro w
    go_simp
    try with_reducible rfl
  apply via
  · intro KEY
    refine wpAny_ready (rs := [5, 9, 13, 17]) (by kernel_rfl) (by simp) ?_
    refine AllReady.cons rfl (fun K hK => ?_) ?_
    · go_simp
      refine hK _ _ ?_
      clear hK K
      refine wpAny_ready (rs := [9, 13, 17]) (by kernel_rfl) (by simp) ?_
      refine AllReady.cons rfl (fun K hK => ?_) ?_
      · go_simp
        refine hK _ _ ?_
        clear hK K
        refine wpAny_ready (rs := [13, 17]) (by kernel_rfl) (by simp) ?_
        refine AllReady.cons rfl (fun K hK => ?_) ?_
        · go_simp
          refine hK _ _ ?_
          clear hK K
          refine wpAny_ready (rs := [17]) (by kernel_rfl) (by simp) ?_
          refine AllReady.cons rfl (fun K hK => ?_) ?_
          · go_simp
            refine hK _ _ ?_
            clear hK K
            refine wpAny_listed (l := #[true, true, true, true, true, true, true, true, true, true, true, true, true, true, true, true, true, true, false, false, false, false, false, false, false, false, false, false]) (by kernel_rfl) ?_
            exact KEY
          exact AllReady.nil
        refine AllReady.cons rfl (fun K hK => ?_) ?_
        · go_simp
          refine hK _ _ ?_
          clear hK K
          refine wpAny_ready (rs := [13]) (by kernel_rfl) (by simp) ?_
          refine AllReady.cons rfl (fun K hK => ?_) ?_
          · go_simp
            refine hK _ _ ?_
            clear hK K
            refine wpAny_listed (l := #[true, true, true, true, true, true, true, true, true, true, true, true, true, true, true, true, true, true, false, false, false, false, false, false, false, false, false, false]) (by kernel_rfl) ?_
            exact KEY
          exact AllReady.nil
        exact AllReady.nil
      refine AllReady.cons rfl (fun K hK => ?_) ?_
      · go_simp
        refine hK _ _ ?_
        clear hK K
        refine wpAny_ready (rs := [9, 17]) (by kernel_rfl) (by simp) ?_
        refine AllReady.cons rfl (fun K hK => ?_) ?_
        · go_simp
          refine hK _ _ ?_
          clear hK K
          refine wpAny_ready (rs := [17]) (by kernel_rfl) (by simp) ?_
          refine AllReady.cons rfl (fun K hK => ?_) ?_
          · go_simp
            refine hK _ _ ?_
            clear hK K
            refine wpAny_listed (l := #[true, true, true, true, true, true, true, true, true, true, true, true, true, true, true, true, true, true, false, false, false, false, false, false, false, false, false, false]) (by kernel_rfl) ?_
            exact KEY
          exact AllReady.nil
        refine AllReady.cons rfl (fun K hK => ?_) ?_
        · go_simp
          refine hK _ _ ?_
          clear hK K
          refine wpAny_ready (rs := [9]) (by kernel_rfl) (by simp) ?_
          refine AllReady.cons rfl (fun K hK => ?_) ?_
          · go_simp
            refine hK _ _ ?_
            clear hK K
            refine wpAny_listed (l := #[true, true, true, true, true, true, true, true, true, true, true, true, true, true, true, true, true, true, false, false, false, false, false, false, false, false, false, false]) (by kernel_rfl) ?_
            exact KEY
          exact AllReady.nil
        exact AllReady.nil
      refine AllReady.cons rfl (fun K hK => ?_) ?_
      · go_simp
        refine hK _ _ ?_
        clear hK K
        refine wpAny_ready (rs := [9, 13]) (by kernel_rfl) (by simp) ?_
        refine AllReady.cons rfl (fun K hK => ?_) ?_
        · go_simp
          refine hK _ _ ?_
          clear hK K
          refine wpAny_ready (rs := [13]) (by kernel_rfl) (by simp) ?_
          refine AllReady.cons rfl (fun K hK => ?_) ?_
          · go_simp
            refine hK _ _ ?_
            clear hK K
            refine wpAny_listed (l := #[true, true, true, true, true, true, true, true, true, true, true, true, true, true, true, true, true, true, false, false, false, false, false, false, false, false, false, false]) (by kernel_rfl) ?_
            exact KEY
          exact AllReady.nil
        refine AllReady.cons rfl (fun K hK => ?_) ?_
        · go_simp
          refine hK _ _ ?_
          clear hK K
          refine wpAny_ready (rs := [9]) (by kernel_rfl) (by simp) ?_
          refine AllReady.cons rfl (fun K hK => ?_) ?_
          · go_simp
            refine hK _ _ ?_
            clear hK K
            refine wpAny_listed (l := #[true, true, true, true, true, true, true, true, true, true, true, true, true, true, true, true, true, true, false, false, false, false, false, false, false, false, false, false]) (by kernel_rfl) ?_
            exact KEY
          exact AllReady.nil
        exact AllReady.nil
      exact AllReady.nil
    refine AllReady.cons rfl (fun K hK => ?_) ?_
    · go_simp
      refine hK _ _ ?_
      clear hK K
      refine wpAny_ready (rs := [5, 13, 17]) (by kernel_rfl) (by simp) ?_
      refine AllReady.cons rfl (fun K hK => ?_) ?_
      · go_simp
        refine hK _ _ ?_
        clear hK K
        refine wpAny_ready (rs := [13, 17]) (by kernel_rfl) (by simp) ?_
        refine AllReady.cons rfl (fun K hK => ?_) ?_
        · go_simp
          refine hK _ _ ?_
          clear hK K
          refine wpAny_ready (rs := [17]) (by kernel_rfl) (by simp) ?_
          refine AllReady.cons rfl (fun K hK => ?_) ?_
          · go_simp
            refine hK _ _ ?_
            clear hK K
            refine wpAny_listed (l := #[true, true, true, true, true, true, true, true, true, true, true, true, true, true, true, true, true, true, false, false, false, false, false, false, false, false, false, false]) (by kernel_rfl) ?_
            exact KEY
          exact AllReady.nil
        refine AllReady.cons rfl (fun K hK => ?_) ?_
        · go_simp
          refine hK _ _ ?_
          clear hK K
          refine wpAny_ready (rs := [13]) (by kernel_rfl) (by simp) ?_
          refine AllReady.cons rfl (fun K hK => ?_) ?_
          · go_simp
            refine hK _ _ ?_
            clear hK K
            refine wpAny_listed (l := #[true, true, true, true, true, true, true, true, true, true, true, true, true, true, true, true, true, true, false, false, false, false, false, false, false, false, false, false]) (by kernel_rfl) ?_
            exact KEY
          exact AllReady.nil
        exact AllReady.nil
      refine AllReady.cons rfl (fun K hK => ?_) ?_
      · go_simp
        refine hK _ _ ?_
        clear hK K
        refine wpAny_ready (rs := [5, 17]) (by kernel_rfl) (by simp) ?_
        refine AllReady.cons rfl (fun K hK => ?_) ?_
        · go_simp
          refine hK _ _ ?_
          clear hK K
          refine wpAny_ready (rs := [17]) (by kernel_rfl) (by simp) ?_
          refine AllReady.cons rfl (fun K hK => ?_) ?_
          · go_simp
            refine hK _ _ ?_
            clear hK K
            refine wpAny_listed (l := #[true, true, true, true, true, true, true, true, true, true, true, true, true, true, true, true, true, true, false, false, false, false, false, false, false, false, false, false]) (by kernel_rfl) ?_
            exact KEY
          exact AllReady.nil
        refine AllReady.cons rfl (fun K hK => ?_) ?_
        · go_simp
          refine hK _ _ ?_
          clear hK K
          refine wpAny_ready (rs := [5]) (by kernel_rfl) (by simp) ?_
          refine AllReady.cons rfl (fun K hK => ?_) ?_
          · go_simp
            refine hK _ _ ?_
            clear hK K
            refine wpAny_listed (l := #[true, true, true, true, true, true, true, true, true, true, true, true, true, true, true, true, true, true, false, false, false, false, false, false, false, false, false, false]) (by kernel_rfl) ?_
            exact KEY
          exact AllReady.nil
        exact AllReady.nil
      refine AllReady.cons rfl (fun K hK => ?_) ?_
      · go_simp
        refine hK _ _ ?_
        clear hK K
        refine wpAny_ready (rs := [5, 13]) (by kernel_rfl) (by simp) ?_
        refine AllReady.cons rfl (fun K hK => ?_) ?_
        · go_simp
          refine hK _ _ ?_
          clear hK K
          refine wpAny_ready (rs := [13]) (by kernel_rfl) (by simp) ?_
          refine AllReady.cons rfl (fun K hK => ?_) ?_
          · go_simp
            refine hK _ _ ?_
            clear hK K
            refine wpAny_listed (l := #[true, true, true, true, true, true, true, true, true, true, true, true, true, true, true, true, true, true, false, false, false, false, false, false, false, false, false, false]) (by kernel_rfl) ?_
            exact KEY
          exact AllReady.nil
        refine AllReady.cons rfl (fun K hK => ?_) ?_
        · go_simp
          refine hK _ _ ?_
          clear hK K
          refine wpAny_ready (rs := [5]) (by kernel_rfl) (by simp) ?_
          refine AllReady.cons rfl (fun K hK => ?_) ?_
          · go_simp
            refine hK _ _ ?_
            clear hK K
            refine wpAny_listed (l := #[true, true, true, true, true, true, true, true, true, true, true, true, true, true, true, true, true, true, false, false, false, false, false, false, false, false, false, false]) (by kernel_rfl) ?_
            exact KEY
          exact AllReady.nil
        exact AllReady.nil
      exact AllReady.nil
    refine AllReady.cons rfl (fun K hK => ?_) ?_
    · go_simp
      refine hK _ _ ?_
      clear hK K
      refine wpAny_ready (rs := [5, 9, 17]) (by kernel_rfl) (by simp) ?_
      refine AllReady.cons rfl (fun K hK => ?_) ?_
      · go_simp
        refine hK _ _ ?_
        clear hK K
        refine wpAny_ready (rs := [9, 17]) (by kernel_rfl) (by simp) ?_
        refine AllReady.cons rfl (fun K hK => ?_) ?_
        · go_simp
          refine hK _ _ ?_
          clear hK K
          refine wpAny_ready (rs := [17]) (by kernel_rfl) (by simp) ?_
          refine AllReady.cons rfl (fun K hK => ?_) ?_
          · go_simp
            refine hK _ _ ?_
            clear hK K
            refine wpAny_listed (l := #[true, true, true, true, true, true, true, true, true, true, true, true, true, true, true, true, true, true, false, false, false, false, false, false, false, false, false, false]) (by kernel_rfl) ?_
            exact KEY
          exact AllReady.nil
        refine AllReady.cons rfl (fun K hK => ?_) ?_
        · go_simp
          refine hK _ _ ?_
          clear hK K
          refine wpAny_ready (rs := [9]) (by kernel_rfl) (by simp) ?_
          refine AllReady.cons rfl (fun K hK => ?_) ?_
          · go_simp
            refine hK _ _ ?_
            clear hK K
            refine wpAny_listed (l := #[true, true, true, true, true, true, true, true, true, true, true, true, true, true, true, true, true, true, false, false, false, false, false, false, false, false, false, false]) (by kernel_rfl) ?_
            exact KEY
          exact AllReady.nil
        exact AllReady.nil
      refine AllReady.cons rfl (fun K hK => ?_) ?_
      · go_simp
        refine hK _ _ ?_
        clear hK K
        refine wpAny_ready (rs := [5, 17]) (by kernel_rfl) (by simp) ?_
        refine AllReady.cons rfl (fun K hK => ?_) ?_
        · go_simp
          refine hK _ _ ?_
          clear hK K
          refine wpAny_ready (rs := [17]) (by kernel_rfl) (by simp) ?_
          refine AllReady.cons rfl (fun K hK => ?_) ?_
          · go_simp
            refine hK _ _ ?_
            clear hK K
            refine wpAny_listed (l := #[true, true, true, true, true, true, true, true, true, true, true, true, true, true, true, true, true, true, false, false, false, false, false, false, false, false, false, false]) (by kernel_rfl) ?_
            exact KEY
          exact AllReady.nil
        refine AllReady.cons rfl (fun K hK => ?_) ?_
        · go_simp
          refine hK _ _ ?_
          clear hK K
          refine wpAny_ready (rs := [5]) (by kernel_rfl) (by simp) ?_
          refine AllReady.cons rfl (fun K hK => ?_) ?_
          · go_simp
            refine hK _ _ ?_
            clear hK K
            refine wpAny_listed (l := #[true, true, true, true, true, true, true, true, true, true, true, true, true, true, true, true, true, true, false, false, false, false, false, false, false, false, false, false]) (by kernel_rfl) ?_
            exact KEY
          exact AllReady.nil
        exact AllReady.nil
      refine AllReady.cons rfl (fun K hK => ?_) ?_
      · go_simp
        refine hK _ _ ?_
        clear hK K
        refine wpAny_ready (rs := [5, 9]) (by kernel_rfl) (by simp) ?_
        refine AllReady.cons rfl (fun K hK => ?_) ?_
        · go_simp
          refine hK _ _ ?_
          clear hK K
          refine wpAny_ready (rs := [9]) (by kernel_rfl) (by simp) ?_
          refine AllReady.cons rfl (fun K hK => ?_) ?_
          · go_simp
            refine hK _ _ ?_
            clear hK K
            refine wpAny_listed (l := #[true, true, true, true, true, true, true, true, true, true, true, true, true, true, true, true, true, true, false, false, false, false, false, false, false, false, false, false]) (by kernel_rfl) ?_
            exact KEY
          exact AllReady.nil
        refine AllReady.cons rfl (fun K hK => ?_) ?_
        · go_simp
          refine hK _ _ ?_
          clear hK K
          refine wpAny_ready (rs := [5]) (by kernel_rfl) (by simp) ?_
          refine AllReady.cons rfl (fun K hK => ?_) ?_
          · go_simp
            refine hK _ _ ?_
            clear hK K
            refine wpAny_listed (l := #[true, true, true, true, true, true, true, true, true, true, true, true, true, true, true, true, true, true, false, false, false, false, false, false, false, false, false, false]) (by kernel_rfl) ?_
            exact KEY
          exact AllReady.nil
        exact AllReady.nil
      exact AllReady.nil
    refine AllReady.cons rfl (fun K hK => ?_) ?_
    · go_simp
      refine hK _ _ ?_
      clear hK K
      refine wpAny_ready (rs := [5, 9, 13]) (by kernel_rfl) (by simp) ?_
      refine AllReady.cons rfl (fun K hK => ?_) ?_
      · go_simp
        refine hK _ _ ?_
        clear hK K
        refine wpAny_ready (rs := [9, 13]) (by kernel_rfl) (by simp) ?_
        refine AllReady.cons rfl (fun K hK => ?_) ?_
        · go_simp
          refine hK _ _ ?_
          clear hK K
          refine wpAny_ready (rs := [13]) (by kernel_rfl) (by simp) ?_
          refine AllReady.cons rfl (fun K hK => ?_) ?_
          · go_simp
            refine hK _ _ ?_
            clear hK K
            refine wpAny_listed (l := #[true, true, true, true, true, true, true, true, true, true, true, true, true, true, true, true, true, true, false, false, false, false, false, false, false, false, false, false]) (by kernel_rfl) ?_
            exact KEY
          exact AllReady.nil
        refine AllReady.cons rfl (fun K hK => ?_) ?_
        · go_simp
          refine hK _ _ ?_
          clear hK K
          refine wpAny_ready (rs := [9]) (by kernel_rfl) (by simp) ?_
          refine AllReady.cons rfl (fun K hK => ?_) ?_
          · go_simp
            refine hK _ _ ?_
            clear hK K
            refine wpAny_listed (l := #[true, true, true, true, true, true, true, true, true, true, true, true, true, true, true, true, true, true, false, false, false, false, false, false, false, false, false, false]) (by kernel_rfl) ?_
            exact KEY
          exact AllReady.nil
        exact AllReady.nil
      refine AllReady.cons rfl (fun K hK => ?_) ?_
      · go_simp
        refine hK _ _ ?_
        clear hK K
        refine wpAny_ready (rs := [5, 13]) (by kernel_rfl) (by simp) ?_
        refine AllReady.cons rfl (fun K hK => ?_) ?_
        · go_simp
          refine hK _ _ ?_
          clear hK K
          refine wpAny_ready (rs := [13]) (by kernel_rfl) (by simp) ?_
          refine AllReady.cons rfl (fun K hK => ?_) ?_
          · go_simp
            refine hK _ _ ?_
            clear hK K
            refine wpAny_listed (l := #[true, true, true, true, true, true, true, true, true, true, true, true, true, true, true, true, true, true, false, false, false, false, false, false, false, false, false, false]) (by kernel_rfl) ?_
            exact KEY
          exact AllReady.nil
        refine AllReady.cons rfl (fun K hK => ?_) ?_
        · go_simp
          refine hK _ _ ?_
          clear hK K
          refine wpAny_ready (rs := [5]) (by kernel_rfl) (by simp) ?_
          refine AllReady.cons rfl (fun K hK => ?_) ?_
          · go_simp
            refine hK _ _ ?_
            clear hK K
            refine wpAny_listed (l := #[true, true, true, true, true, true, true, true, true, true, true, true, true, true, true, true, true, true, false, false, false, false, false, false, false, false, false, false]) (by kernel_rfl) ?_
            exact KEY
          exact AllReady.nil
        exact AllReady.nil
      refine AllReady.cons rfl (fun K hK => ?_) ?_
      · go_simp
        refine hK _ _ ?_
        clear hK K
        refine wpAny_ready (rs := [5, 9]) (by kernel_rfl) (by simp) ?_
        refine AllReady.cons rfl (fun K hK => ?_) ?_
        · go_simp
          refine hK _ _ ?_
          clear hK K
          refine wpAny_ready (rs := [9]) (by kernel_rfl) (by simp) ?_
          refine AllReady.cons rfl (fun K hK => ?_) ?_
          · go_simp
            refine hK _ _ ?_
            clear hK K
            refine wpAny_listed (l := #[true, true, true, true, true, true, true, true, true, true, true, true, true, true, true, true, true, true, false, false, false, false, false, false, false, false, false, false]) (by kernel_rfl) ?_
            exact KEY
          exact AllReady.nil
        refine AllReady.cons rfl (fun K hK => ?_) ?_
        · go_simp
          refine hK _ _ ?_
          clear hK K
          refine wpAny_ready (rs := [5]) (by kernel_rfl) (by simp) ?_
          refine AllReady.cons rfl (fun K hK => ?_) ?_
          · go_simp
            refine hK _ _ ?_
            clear hK K
            refine wpAny_listed (l := #[true, true, true, true, true, true, true, true, true, true, true, true, true, true, true, true, true, true, false, false, false, false, false, false, false, false, false, false]) (by kernel_rfl) ?_
            exact KEY
          exact AllReady.nil
        exact AllReady.nil
      exact AllReady.nil
    exact AllReady.nil
  refine wpAny_ready (rs := [18]) (by kernel_rfl) (by simp) ?_
  refine AllReady.cons rfl (fun K hK => ?_) ?_
  · go_simp
    refine (DV.out _ ?_ ?_).mono ?_
    · exact HH.out.2.2.2.1.below (by go_grown)
    · exact HH.out.2.2.2.2.2.below (by go_grown)
    rintro e' W ⟨vq, vr, rfl, hqn, hrn, hbW⟩
    obtain ⟨hg1, hs1⟩ := below_cc (w := w) hbW (by go_grown)
    have HQ := Lib.hid (And.intro hg1 (And.intro hqn hrn))
    obtain ⟨a1, n1, d1, rfl, hn1⟩ := hqn
    obtain ⟨a2, n2, d2, rfl, hn2⟩ := hrn
    have hn1 : n1 = 0 ∨ n1 = 1 := hn1.imp (fun h => h.1) (fun h => h.1)
    have hn2 : n2 = 0 ∨ n2 = 1 := hn2.imp (fun h => h.1) (fun h => h.1)
    have HN := Lib.hid (And.intro hn1 hn2)
    clear hn1 hn2
    clear hbW hg1 hs1 DV k1 kl r1 rl j1 jl i1 il
    refine hK _ _ ?_
    clear hK K
    refine wpAny_take (i := 19) (v := ?_) rfl (by kernel_rfl) (by kernel_rfl) (by kernel_rfl) (fun _ _ _ h => h) (Or.inl ⟨by rfl, ?_⟩) ?_
    rotate_left
    · intro w
      go_simp
      try with_reducible rfl
    refine wpAny_take (i := 20) (v := ?_) rfl (by kernel_rfl) (by kernel_rfl) (by kernel_rfl) (fun _ _ _ h => h) (Or.inl ⟨by rfl, ?_⟩) ?_
    rotate_left
    · intro w
      go_simp
      try with_reducible rfl
    refine wpAny_take (i := 21) (v := ?_) rfl (by kernel_rfl) (by kernel_rfl) (by kernel_rfl) (fun _ _ _ h => h) (Or.inl ⟨by rfl, ?_⟩) ?_
    rotate_left
    · intro w
      go_simp
      try with_reducible rfl
    refine wpAny_take (i := 22) (v := ?_) rfl (by kernel_rfl) (by kernel_rfl) (by kernel_rfl) (fun _ _ _ h => h) (Or.inl ⟨by rfl, ?_⟩) ?_
    rotate_left
    · intro w
      go_simp
      try with_reducible rfl
    refine wpAny_take (i := 23) (v := ?_) rfl (by kernel_rfl) (by kernel_rfl) (by kernel_rfl) (fun _ _ _ h => h) (Or.inl ⟨by rfl, ?_⟩) ?_
    rotate_left
    · intro w
      go_simp
      try with_reducible rfl
    have q1 := (HH.out.1.below HQ.out.1).cell (v := .slice none 0 0) 1 rfl
    have ql := (HH.out.1.below HQ.out.1).lt
    have qf := (HH.out.1.below HQ.out.1).free 1
    have p1 := (HH.out.2.1.below HQ.out.1).cell (v := .slice none 0 0) 1 rfl
    have pl := (HH.out.2.1.below HQ.out.1).lt
    have pf := (HH.out.2.1.below HQ.out.1).free 1
    have hrz : gr ≠ gz := fun e => hzr e.symm
    have HX := Lib.hid (quo_put hzx hzy hrx hry hzr HQ.out.1 HH.out HQ.out.2.1 HQ.out.2.2)
    clear HQ HH
    refine wpAny_ready (rs := [24]) (by kernel_rfl) (by simp) ?_
    refine AllReady.cons rfl (fun K hK => ?_) ?_
    · go_simp
      refine hK _ _ ?_
      clear hK K
      refine wpAny_take (i := 25) (v := ?_) rfl (by kernel_rfl) (by kernel_rfl) (by kernel_rfl) (fun _ _ _ h => h) (Or.inl ⟨by rfl, ?_⟩) ?_
      rotate_left
      · intro w
        go_simp
        try with_reducible rfl
      refine wpAny_take (i := 26) (v := ?_) rfl (by kernel_rfl) (by kernel_rfl) (by kernel_rfl) (fun _ _ _ h => h) (Or.inl ⟨by rfl, ?_⟩) ?_
      rotate_left
      · intro w
        go_simp
        try with_reducible rfl
      refine wpAny_ready (rs := [27]) (by kernel_rfl) (by simp) ?_
      refine AllReady.cons rfl (fun K hK => ?_) ?_
      · go_simp
        refine hK _ _ ?_
        clear hK K
        refine wpAny_done (by kernel_rfl) ?_ _
        go_upto_region 2 with fail
        refine wp_name (fun X => QP w gz gx gy gr Q R (.slice a1 n1 d1) (.slice a2 n2 d2) v (.slice (some ⟨bv, 0, none⟩) 1 6) X) HX.out ?_
        clear HX q1 ql qf p1 pl pf
        rintro X HX
        have q0 := HX.1.cell (v := .bool false) 0 rfl
        have q1 := HX.1.cell (v := .slice a1 n1 d1) 1 rfl
        have ql := HX.1.lt
        have qf := HX.1.free 0
        have p0 := HX.2.1.cell (v := .bool false) 0 rfl
        have p1 := HX.2.1.cell (v := .slice a2 n2 d2) 1 rfl
        have pl := HX.2.1.lt
        have pf := HX.2.1.free 0
        have j0 := HX.2.2.1.cell (v := .bool false) 0 rfl
        have jl := HX.2.2.1.lt
        have i0 := HX.2.2.2.1.cell (v := .bool false) 0 rfl
        have il := HX.2.2.2.1.lt
        have HY := Lib.hid (quo_neg hzx hzy hrx hry hzr HX)
        clear HX
        obtain ⟨hn1, hn2⟩ := HN.out
        clear HN
        rcases hn1 with rfl | rfl
        · rcases hn2 with rfl | rfl
          · go_region
            go_wp2
            go_returns
            exact ⟨rfl, ⟨_, HY.out.1, HY.out.2.2.2.2.1⟩, ⟨_, HY.out.2.1⟩, HY.out.2.2.2.2.2.2⟩
          · go_region
            go_wp2
            go_returns
            exact ⟨rfl, ⟨_, HY.out.1, HY.out.2.2.2.2.1⟩, ⟨_, HY.out.2.1⟩, HY.out.2.2.2.2.2.2⟩
        rcases hn2 with rfl | rfl
        · go_region
          go_wp2
          go_returns
          exact ⟨rfl, ⟨_, HY.out.1, HY.out.2.2.2.2.1⟩, ⟨_, HY.out.2.1⟩, HY.out.2.2.2.2.2.2⟩
        · go_region
          go_wp2
          go_returns
          exact ⟨rfl, ⟨_, HY.out.1, HY.out.2.2.2.2.1⟩, ⟨_, HY.out.2.1⟩, HY.out.2.2.2.2.2.2⟩
      exact AllReady.nil
    exact AllReady.nil
  exact AllReady.nil
end Go.Proofs.YtghfggfgndgkjaaGreatDoor
