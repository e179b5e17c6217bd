/- marcheslaw27.awake. -/
import Derived.Test.YtlcjkomfjgddeaaGreatDoorM40
import Derived.Test.YtlcjkomfjgddeaaGreatDoorM05
import Derived.KernelRfl
set_option linter.unusedVariables false
set_option linter.unusedSimpArgs false
namespace Go.Proofs.YtlcjkomfjgddeaaGreatDoor
open Go Go.RowKit Go.Sort
set_option maxRecDepth 100000
attribute [local go_sem] opLow opUpon opLow2 opUpon2 opLow3 eql_arr4

/-- the client of the chapter's example -/
def cA : Cli := ⟨2, 0, 0, ⟨10, baseM 0 0⟩, 3, [⟨2, 4, 0, 8, 0, false, 0, 0, 0, 0⟩, ⟨2, 5, 0, 20, 0, false, 0, 0, 0, 0⟩]⟩
theorem cA_view : viewR cA = (⟨12, baseM 20 0⟩, 0) := by kernel_rfl
theorem cA_shift1 : shiftR cA ⟨11, baseM 8 0⟩ 4 1 = ((0, 0), 0) := by kernel_rfl
theorem cA_shift2 : shiftR cA ⟨11, baseM 7 3⟩ 4 1 = ((0, 3), 0) := by kernel_rfl
theorem cA_valid : validC cA = true := by kernel_rfl
theorem cA_base : Valid ⟨9, baseM 0 0⟩ := of_decide_eq_true (by kernel_rfl)
theorem cA_small : I64s cA.p := fun x hx => by
  simp [cA] at hx
  rcases hx with rfl | rfl <;> exact ⟨⟨by decide, by decide⟩, ⟨by decide, by decide⟩⟩
/-- what stays of the example's client -/
structure AI (w : World) (g1 : Nat) (ba : Option Addr) (bn bc gI : Nat) (V : World) : Prop where
  b1 : Bk V g1 #[.int .i64 2, .int .i64 0, .int .i64 0, .int .i64 10, .slice ba bn bc, .int .i64 3, .slice (some ⟨gI, 0, none⟩) 2 2] 29
  ents : EntsAt V (.slice ba bn bc) (baseM 0 0)
  inps : InpsAt V (.slice (some ⟨gI, 0, none⟩) 2 2) cA.p
  bel : Below w.heap.size w V
theorem AI.below {w : World} {g1 : Nat} {ba : Option Addr} {bn bc gI : Nat} {V V' : World} (h : AI w g1 ba bn bc gI V) (hb : Below V.heap.size V V') : AI w g1 ba bn bc gI V' :=
  ⟨h.b1.below hb, h.ents.below hb, h.inps.below hb, (below_cc hb h.bel).1⟩
def aBase (W : Wld) : Array Value → Value → World → World → Prop := fun _ v w1 w2 => ∃ a n c, v = Wv W.t a n c ∧ Fresh w1.heap.size w2 (.slice a n c) W.es
def aIs (r : Value) : Array Value → Value → World → World → Prop := fun _ v _ _ => v = r
def posts2 (f : FuncId) (A : Array Value → Value → World → World → Prop) (g : FuncId) (B : Array Value → Value → World → World → Prop) : Posts := fun h => if h = f then some A else if h = g then some B else none
set_option maxHeartbeats 16000000 in
theorem awake_any (w : World) (hR : RG w) (hM : RM w) (hw : 2 ≤ w.heap.size) :
    Calls Tryz.prog 10 #[] w fun e w' => e = .returned (.bool true) ∧ Below w.heap.size w w' := by
  have VW := Lib.hid (fun V (hV : Below w.heap.size w V) a n cap pa pn pc hE hP => by have := view_any cA a n cap pa pn pc V (hR.below hV) (hM.low hV hw) (Nat.le_trans hw hV.size) hE hP cA_small; rw [cA_view] at this; exact this)
  have SH := Lib.hid (fun V (hV : Below w.heap.size w V) (b : Wld) k i a n cap pa pn pc ba bn bc hE hP hB => shift_any cA b k i a n cap pa pn pc ba bn bc V (hR.below hV) (hM.low hV hw) (Nat.le_trans hw hV.size) hE hP hB cA_small)
  have HRG := Lib.hid hR
  clear hR hM hw
  go_enter Tryz.func10, Tryz.ntmps10
  go_wp2_with fail
  refine (base_any 10 0 0 _).mono ?_
  rintro e V1 ⟨ba, bn, bc, rfl, hE1, hb1⟩
  have hs1 := hb1.size
  have HE1 := Lib.hid (And.intro hE1 hb1)
  clear hE1 hb1
  unfold Wv
  try simp only
  go_upto_region 2 with fail
  refine wp_name (fun V => AI w (V1.heap.size + 1) ba bn bc V1.heap.size V) ⟨Bk.at_ (by simp), EntsAt.below HE1.out.1 (((Below.refl _ _).alloc (Nat.le_refl _) _).alloc (by simp) _), ?i1, (HE1.out.2.alloc hs1 _).alloc (by simp; omega) _⟩ ?_
  case i1 =>
    have B : Bk ((V1.alloc (.cells #[.int .i64 2, .int .i64 4, .int .i64 0, .int .i64 8, .int .i64 0, .bool false, .int .i64 0, .int .i64 0, .int .i64 0, .int .i64 0, .int .i64 2, .int .i64 5, .int .i64 0, .int .i64 20, .int .i64 0, .bool false, .int .i64 0, .int .i64 0, .int .i64 0, .int .i64 0] 37)).alloc (.cells #[.int .i64 2, .int .i64 0, .int .i64 0, .int .i64 10, .slice ba bn bc, .int .i64 3, .slice (some ⟨V1.heap.size, 0, none⟩) 2 2] 29)) V1.heap.size #[.int .i64 2, .int .i64 4, .int .i64 0, .int .i64 8, .int .i64 0, .bool false, .int .i64 0, .int .i64 0, .int .i64 0, .int .i64 0, .int .i64 2, .int .i64 5, .int .i64 0, .int .i64 20, .int .i64 0, .bool false, .int .i64 0, .int .i64 0, .int .i64 0, .int .i64 0] 37 := (Bk.made _ _ _).alloc _
    refine .inr ⟨V1.heap.size, 0, 2, rfl, by simp [cA], fun i x hx => ?_⟩
    match i, hx with
    | 0, hx =>
      simp [cA] at hx
      subst hx
      exact ⟨B.cell 0 rfl, B.cell 1 rfl, B.cell 2 rfl, B.cell 3 rfl, B.cell 4 rfl, B.cell 5 rfl, B.cell 6 rfl, B.cell 7 rfl, B.cell 8 rfl, B.cell 9 rfl⟩
    | 1, hx =>
      simp [cA] at hx
      subst hx
      exact ⟨B.cell 10 rfl, B.cell 11 rfl, B.cell 12 rfl, B.cell 13 rfl, B.cell 14 rfl, B.cell 15 rfl, B.cell 16 rfl, B.cell 17 rfl, B.cell 18 rfl, B.cell 19 rfl⟩
    | n + 2, hx => simp [cA] at hx
  obtain ⟨g1, hg1⟩ : ∃ g, V1.heap.size + 1 = g := ⟨_, rfl⟩
  rw [hg1]
  obtain ⟨gI, hgI⟩ : ∃ g, V1.heap.size = g := ⟨_, rfl⟩
  rw [hgI]
  clear hg1 hgI hs1 HE1
  intro W1 hA
  have HA := Lib.hid hA
  have s0 := hA.b1.cell (v := .int .i64 2) 0 rfl
  have s1 := hA.b1.cell (v := .int .i64 0) 1 rfl
  have s2 := hA.b1.cell (v := .int .i64 0) 2 rfl
  have s3 := hA.b1.cell (v := .int .i64 10) 3 rfl
  have s4 := hA.b1.cell (v := .slice ba bn bc) 4 rfl
  have s5 := hA.b1.cell (v := .int .i64 3) 5 rfl
  have s6 := hA.b1.cell (v := .slice (some ⟨gI, 0, none⟩) 2 2) 6 rfl
  have ls := hA.b1.lt
  clear hA
  go_wp2_with fail
  refine (VW.out _ HA.out.bel _ _ _ _ _ _ HA.out.ents HA.out.inps).mono ?_
  rintro e W2 ⟨va, vn, vc, rfl, hFv, hb2⟩
  replace HA := Lib.hid (HA.out.below hb2)
  have HEV := Lib.hid hFv.ents
  clear hb2 hFv s0 s1 s2 s3 s4 s5 s6 ls
  unfold Wv
  try simp only
  go_upto_region 3 with fail
  refine wp_name (fun V => AI w g1 ba bn bc gI V ∧ Bk V W2.heap.size #[.int .i64 12, .slice va vn vc] 26 ∧ EntsAt V (.slice va vn vc) (baseM 20 0)) ⟨HA.out.below ((Below.refl _ _).alloc (Nat.le_refl _) _), Bk.made _ _ _, EntsAt.below HEV.out ((Below.refl _ _).alloc (Nat.le_refl _) _)⟩ ?_
  obtain ⟨g2, hg2⟩ : ∃ g, W2.heap.size = g := ⟨_, rfl⟩
  rw [hg2]
  clear hg2 HA HEV VW
  rintro W3 ⟨hA, B2, hE2⟩
  have HA := Lib.hid hA
  have HB2 := Lib.hid (And.intro B2 hE2)
  have S1 := fun V (hV : AI w g1 ba bn bc gI V) b4 n4 c4 (hB : EntsAt V (.slice b4 n4 c4) (baseM 8 0)) => by have := SH.out V hV.bel ⟨11, baseM 8 0⟩ 4 1 ba bn bc (some ⟨gI, 0, none⟩) 2 2 b4 n4 c4 hV.ents hV.inps hB; rw [cA_shift1] at this; exact this
  have S2 := fun V (hV : AI w g1 ba bn bc gI V) b4 n4 c4 (hB : EntsAt V (.slice b4 n4 c4) (baseM 7 3)) => by have := SH.out V hV.bel ⟨11, baseM 7 3⟩ 4 1 ba bn bc (some ⟨gI, 0, none⟩) 2 2 b4 n4 c4 hV.ents hV.inps hB; rw [cA_shift2] at this; exact this
  have S3 := fun V (hV : AI w g1 ba bn bc gI V) b4 n4 c4 (hB : EntsAt V (.slice b4 n4 c4) (baseM 0 0)) => recv_old1 cA ⟨9, baseM 0 0⟩ 4 ba bn bc (some ⟨gI, 0, none⟩) 2 2 b4 n4 c4 V (HRG.out.below hV.bel) hV.ents hV.inps hB cA_valid cA_base (by decide)
  have HS1 := Lib.hid S1
  have HS2 := Lib.hid S2
  have HS3 := Lib.hid S3
  clear S1 S2 S3 SH HRG
  have s0 := hA.b1.cell (v := .int .i64 2) 0 rfl
  have s1 := hA.b1.cell (v := .int .i64 0) 1 rfl
  have s2 := hA.b1.cell (v := .int .i64 0) 2 rfl
  have s3 := hA.b1.cell (v := .int .i64 10) 3 rfl
  have s4 := hA.b1.cell (v := .slice ba bn bc) 4 rfl
  have s5 := hA.b1.cell (v := .int .i64 3) 5 rfl
  have s6 := hA.b1.cell (v := .slice (some ⟨gI, 0, none⟩) 2 2) 6 rfl
  have ls := hA.b1.lt
  have HKEEP3 := Lib.hid (And.intro hA (And.intro B2 hE2))
  clear hA B2 hE2
  have s0m := fun p : Mutd (fun _ : Nat => False) W3 => cell_mutd s0 (fun e => e) p
  have s1m := fun p : Mutd (fun _ : Nat => False) W3 => cell_mutd s1 (fun e => e) p
  have s2m := fun p : Mutd (fun _ : Nat => False) W3 => cell_mutd s2 (fun e => e) p
  have s3m := fun p : Mutd (fun _ : Nat => False) W3 => cell_mutd s3 (fun e => e) p
  have s4m := fun p : Mutd (fun _ : Nat => False) W3 => cell_mutd s4 (fun e => e) p
  have s5m := fun p : Mutd (fun _ : Nat => False) W3 => cell_mutd s5 (fun e => e) p
  have s6m := fun p : Mutd (fun _ : Nat => False) W3 => cell_mutd s6 (fun e => e) p
  refine wp_region_low3 (posts2 18 (aBase ⟨11, baseM 8 0⟩) 16 (aIs (VE 0 0 0))) (fun _ : Nat => False) [1, 2] (sto1 6 7) 8 (by kernel_rfl) (fun b hb => hb.elim) (sto1_inj 6 7) (by kernel_rfl) ?_
  simp only [List.take, List.drop]
  iterate 1 (refine low3_step (sto1_no (by decide)) (fun K hK => ?_); go_simp; first | (refine hK _ ?_; clear hK K) | (apply Exists.intro; refine ⟨fun p => ?_, hK _ ?_⟩; clear hK K))
  refine low3_call 18 #[.int .i64 11, .int .i64 8, .int .i64 0] (aBase ⟨11, baseM 8 0⟩) (sto1_no (by decide)) (by decide) (by rfl) (fun w => by go_simp) (by simp [posts2]) (fun V hV => by
    exact (base_fresh 11 8 0 V).mono fun e w' ⟨a, n, c, he, hF, hb⟩ => ⟨_, he, ⟨a, n, c, rfl, hF⟩, Mut.of_below hb⟩) ?_
  rintro v1 w1 w2 - ⟨b4, n4, c4, rfl, hF4⟩ -
  refine low3_call 16 #[.agg #[.int .i64 2, .int .i64 0, .int .i64 0, .int .i64 10, .slice ba bn bc, .int .i64 3, .slice (some ⟨gI, 0, none⟩) 2 2], Wv 11 b4 n4 c4, .int .i64 4, .int .i64 1] (aIs (VE 0 0 0)) (sto1_no (by decide)) (by decide) (by rfl) (fun w => by go_simp) (by simp [posts2]) (fun V hV => by
    have hbV : Below W3.heap.size W3 V := Mut.below hV.1 (Nat.le_refl _) (fun _ _ e => e)
    have hFV : Fresh w1.heap.size V (.slice b4 n4 c4) (baseM 8 0) := hF4.agree (fun b h1 h2 => (hV.2.2 (by decide)).1 b (.inr (.inr ⟨h1, h2⟩)))
    exact (HS1.out V (HKEEP3.out.1.below hbV) b4 n4 c4 hFV.ents).mono fun e w' ⟨he, hb⟩ => ⟨_, he, rfl, Mut.of_below hb⟩) ?_
  rintro v2 w3 w4 - rfl -
  unfold VE
  iterate 3 (refine low3_step (sto1_no (by decide)) (fun K hK => ?_); go_simp; first | (refine hK _ ?_; clear hK K) | (apply Exists.intro; refine ⟨fun p => ?_, hK _ ?_⟩; clear hK K))
  refine low3_new (.cells #[.int .i64 0, .int .i64 0] 23) (sto1_no (by decide)) (by rfl) (fun w => by go_simp; try rfl) ?_
  intro g
  refine low3_sto 6 g #[.int .i64 0, .int .i64 0] #[.int .i64 0, .int .i64 0] 23 rfl (by rfl) ⟨⟨6, .data⟩, by simp, rfl, rfl⟩ rfl (fun w B => by
    have lt := B.lt
    have c_0 := B.cell (v := .int .i64 0) 0 rfl
    have f_0 := B.free 0
    have c_1 := B.cell (v := .int .i64 0) 1 rfl
    have f_1 := B.free 1
    go_simp
    show ((w.setCell ⟨g, 0, none⟩ (.int .i64 0)).setCell ⟨g, 1, none⟩ (.int .i64 0)) = putObj w g (.cells #[.int .i64 0, .int .i64 0] 23)
    rw [setCell_put B, setCell_put (putObj_heap B), putObj_twice]; rfl) ?_
  refine low3_nil ?_
  intro W4 hC
  obtain ⟨-, BN3⟩ : _ ∧ Bk W4 g #[.int .i64 0, .int .i64 0] 23 := hC.made 6 g _ rfl
  have hfr : Below W3.heap.size W3 W4 := hC.fr.below (Nat.le_refl _) (fun _ _ e => e)
  clear hC hF4 s0m s1m s2m s3m s4m s5m s6m s0 s1 s2 s3 s4 s5 s6 ls
  go_upto_region 4 with fail
  refine wp_name (fun V => AI w g1 ba bn bc gI V ∧ Bk V g2 #[.int .i64 12, .slice va vn vc] 26 ∧ EntsAt V (.slice va vn vc) (baseM 20 0) ∧ Bk V g #[.int .i64 0, .int .i64 0] 23) ⟨HKEEP3.out.1.below hfr, HKEEP3.out.2.1.below hfr, EntsAt.below HKEEP3.out.2.2 hfr, BN3⟩ ?_
  obtain ⟨g4, hg4⟩ : ∃ x, g = x := ⟨_, rfl⟩
  subst hg4
  clear HKEEP3 hfr BN3 HA HB2
  rintro W4' ⟨hA, B2, hE2, B4⟩
  have s0 := hA.b1.cell (v := .int .i64 2) 0 rfl
  have s1 := hA.b1.cell (v := .int .i64 0) 1 rfl
  have s2 := hA.b1.cell (v := .int .i64 0) 2 rfl
  have s3 := hA.b1.cell (v := .int .i64 10) 3 rfl
  have s4 := hA.b1.cell (v := .slice ba bn bc) 4 rfl
  have s5 := hA.b1.cell (v := .int .i64 3) 5 rfl
  have s6 := hA.b1.cell (v := .slice (some ⟨gI, 0, none⟩) 2 2) 6 rfl
  have ls := hA.b1.lt
  have HKEEP4 := Lib.hid (And.intro hA (And.intro B2 (And.intro hE2 B4)))
  clear hA B2 hE2 B4
  have s0m := fun p : Mutd (fun _ : Nat => False) W4' => cell_mutd s0 (fun e => e) p
  have s1m := fun p : Mutd (fun _ : Nat => False) W4' => cell_mutd s1 (fun e => e) p
  have s2m := fun p : Mutd (fun _ : Nat => False) W4' => cell_mutd s2 (fun e => e) p
  have s3m := fun p : Mutd (fun _ : Nat => False) W4' => cell_mutd s3 (fun e => e) p
  have s4m := fun p : Mutd (fun _ : Nat => False) W4' => cell_mutd s4 (fun e => e) p
  have s5m := fun p : Mutd (fun _ : Nat => False) W4' => cell_mutd s5 (fun e => e) p
  have s6m := fun p : Mutd (fun _ : Nat => False) W4' => cell_mutd s6 (fun e => e) p
  refine wp_region_low3 (posts2 18 (aBase ⟨11, baseM 7 3⟩) 16 (aIs (VE 0 3 0))) (fun _ : Nat => False) [1, 2] (sto1 6 7) 8 (by kernel_rfl) (fun b hb => hb.elim) (sto1_inj 6 7) (by kernel_rfl) ?_
  simp only [List.take, List.drop]
  iterate 1 (refine low3_step (sto1_no (by decide)) (fun K hK => ?_); go_simp; first | (refine hK _ ?_; clear hK K) | (apply Exists.intro; refine ⟨fun p => ?_, hK _ ?_⟩; clear hK K))
  refine low3_call 18 #[.int .i64 11, .int .i64 7, .int .i64 3] (aBase ⟨11, baseM 7 3⟩) (sto1_no (by decide)) (by decide) (by rfl) (fun w => by go_simp) (by simp [posts2]) (fun V hV => by
    exact (base_fresh 11 7 3 V).mono fun e w' ⟨a, n, c, he, hF, hb⟩ => ⟨_, he, ⟨a, n, c, rfl, hF⟩, Mut.of_below hb⟩) ?_
  rintro v1 w1 w2 - ⟨b4, n4, c4, rfl, hF4⟩ -
  refine low3_call 16 #[.agg #[.int .i64 2, .int .i64 0, .int .i64 0, .int .i64 10, .slice ba bn bc, .int .i64 3, .slice (some ⟨gI, 0, none⟩) 2 2], Wv 11 b4 n4 c4, .int .i64 4, .int .i64 1] (aIs (VE 0 3 0)) (sto1_no (by decide)) (by decide) (by rfl) (fun w => by go_simp) (by simp [posts2]) (fun V hV => by
    have hbV : Below W4'.heap.size W4' V := Mut.below hV.1 (Nat.le_refl _) (fun _ _ e => e)
    have hFV : Fresh w1.heap.size V (.slice b4 n4 c4) (baseM 7 3) := hF4.agree (fun b h1 h2 => (hV.2.2 (by decide)).1 b (.inr (.inr ⟨h1, h2⟩)))
    exact (HS2.out V (HKEEP4.out.1.below hbV) b4 n4 c4 hFV.ents).mono fun e w' ⟨he, hb⟩ => ⟨_, he, rfl, Mut.of_below hb⟩) ?_
  rintro v2 w3 w4 - rfl -
  unfold VE
  iterate 3 (refine low3_step (sto1_no (by decide)) (fun K hK => ?_); go_simp; first | (refine hK _ ?_; clear hK K) | (apply Exists.intro; refine ⟨fun p => ?_, hK _ ?_⟩; clear hK K))
  refine low3_new (.cells #[.int .i64 0, .int .i64 0] 23) (sto1_no (by decide)) (by rfl) (fun w => by go_simp; try rfl) ?_
  intro g6
  refine low3_sto 6 g6 #[.int .i64 0, .int .i64 0] #[.int .i64 0, .int .i64 3] 23 rfl (by rfl) ⟨⟨6, .data⟩, by simp, rfl, rfl⟩ rfl (fun w B => by
    have lt := B.lt
    have c_0 := B.cell (v := .int .i64 0) 0 rfl
    have f_0 := B.free 0
    have c_1 := B.cell (v := .int .i64 0) 1 rfl
    have f_1 := B.free 1
    go_simp
    show ((w.setCell ⟨g6, 0, none⟩ (.int .i64 0)).setCell ⟨g6, 1, none⟩ (.int .i64 3)) = putObj w g6 (.cells #[.int .i64 0, .int .i64 3] 23)
    rw [setCell_put B, setCell_put (putObj_heap B), putObj_twice]; rfl) ?_
  refine low3_nil ?_
  intro W5 hC
  obtain ⟨-, BN4⟩ : _ ∧ Bk W5 g6 #[.int .i64 0, .int .i64 3] 23 := hC.made 6 g6 _ rfl
  have hfr : Below W4'.heap.size W4' W5 := hC.fr.below (Nat.le_refl _) (fun _ _ e => e)
  clear hC hF4 s0m s1m s2m s3m s4m s5m s6m s0 s1 s2 s3 s4 s5 s6 ls
  go_upto_region 5 with fail
  refine wp_name (fun V => AI w g1 ba bn bc gI V ∧ Bk V g2 #[.int .i64 12, .slice va vn vc] 26 ∧ EntsAt V (.slice va vn vc) (baseM 20 0) ∧ Bk V g #[.int .i64 0, .int .i64 0] 23 ∧ Bk V g6 #[.int .i64 0, .int .i64 3] 23) ⟨HKEEP4.out.1.below hfr, HKEEP4.out.2.1.below hfr, EntsAt.below HKEEP4.out.2.2.1 hfr, HKEEP4.out.2.2.2.below hfr, BN4⟩ ?_
  clear HKEEP4 hfr BN4
  rintro W5' ⟨hA, B2, hE2, B4, B6⟩
  have s0 := hA.b1.cell (v := .int .i64 2) 0 rfl
  have s1 := hA.b1.cell (v := .int .i64 0) 1 rfl
  have s2 := hA.b1.cell (v := .int .i64 0) 2 rfl
  have s3 := hA.b1.cell (v := .int .i64 10) 3 rfl
  have s4 := hA.b1.cell (v := .slice ba bn bc) 4 rfl
  have s5 := hA.b1.cell (v := .int .i64 3) 5 rfl
  have s6 := hA.b1.cell (v := .slice (some ⟨gI, 0, none⟩) 2 2) 6 rfl
  have ls := hA.b1.lt
  have HKEEP5 := Lib.hid (And.intro hA (And.intro B2 (And.intro hE2 (And.intro B4 B6))))
  clear hA B2 hE2 B4 B6
  have s0m := fun p : Mutd (fun _ : Nat => False) W5' => cell_mutd s0 (fun e => e) p
  have s1m := fun p : Mutd (fun _ : Nat => False) W5' => cell_mutd s1 (fun e => e) p
  have s2m := fun p : Mutd (fun _ : Nat => False) W5' => cell_mutd s2 (fun e => e) p
  have s3m := fun p : Mutd (fun _ : Nat => False) W5' => cell_mutd s3 (fun e => e) p
  have s4m := fun p : Mutd (fun _ : Nat => False) W5' => cell_mutd s4 (fun e => e) p
  have s5m := fun p : Mutd (fun _ : Nat => False) W5' => cell_mutd s5 (fun e => e) p
  have s6m := fun p : Mutd (fun _ : Nat => False) W5' => cell_mutd s6 (fun e => e) p
  refine wp_region_low3 (posts2 18 (aBase ⟨9, baseM 0 0⟩) 15 (aIs (.tuple #[Cz, .int .i64 270]))) (fun _ : Nat => False) [1, 2] (sto1 6 7) 8 (by kernel_rfl) (fun b hb => hb.elim) (sto1_inj 6 7) (by kernel_rfl) ?_
  simp only [List.take, List.drop]
  iterate 1 (refine low3_step (sto1_no (by decide)) (fun K hK => ?_); go_simp; first | (refine hK _ ?_; clear hK K) | (apply Exists.intro; refine ⟨fun p => ?_, hK _ ?_⟩; clear hK K))
  refine low3_call 18 #[.int .i64 9, .int .i64 0, .int .i64 0] (aBase ⟨9, baseM 0 0⟩) (sto1_no (by decide)) (by decide) (by rfl) (fun w => by go_simp) (by simp [posts2]) (fun V hV => by
    exact (base_fresh 9 0 0 V).mono fun e w' ⟨a, n, c, he, hF, hb⟩ => ⟨_, he, ⟨a, n, c, rfl, hF⟩, Mut.of_below hb⟩) ?_
  rintro v1 w1 w2 - ⟨b4, n4, c4, rfl, hF4⟩ -
  refine low3_call 15 #[.agg #[.int .i64 2, .int .i64 0, .int .i64 0, .int .i64 10, .slice ba bn bc, .int .i64 3, .slice (some ⟨gI, 0, none⟩) 2 2], Wv 9 b4 n4 c4, .int .i64 4] (aIs (.tuple #[Cz, .int .i64 270])) (sto1_no (by decide)) (by decide) (by rfl) (fun w => by go_simp) (by simp [posts2]) (fun V hV => by
    have hbV : Below W5'.heap.size W5' V := Mut.below hV.1 (Nat.le_refl _) (fun _ _ e => e)
    have hFV : Fresh w1.heap.size V (.slice b4 n4 c4) (baseM 0 0) := hF4.agree (fun b h1 h2 => (hV.2.2 (by decide)).1 b (.inr (.inr ⟨h1, h2⟩)))
    exact (HS3.out V (HKEEP5.out.1.below hbV) b4 n4 c4 hFV.ents).mono fun e w' ⟨he, hb⟩ => ⟨_, he, rfl, Mut.of_below hb⟩) ?_
  rintro v2 w3 w4 - rfl -
  unfold Cz
  iterate 3 (refine low3_step (sto1_no (by decide)) (fun K hK => ?_); go_simp; first | (refine hK _ ?_; clear hK K) | (apply Exists.intro; refine ⟨fun p => ?_, hK _ ?_⟩; clear hK K))
  refine low3_new (.cells #[.int .i64 0, .int .i64 0, .int .i64 0, .int .i64 0, .slice none 0 0, .int .i64 0, .slice none 0 0] 29) (sto1_no (by decide)) (by rfl) (fun w => by go_simp; try rfl) ?_
  intro g8
  refine low3_sto 6 g8 #[.int .i64 0, .int .i64 0, .int .i64 0, .int .i64 0, .slice none 0 0, .int .i64 0, .slice none 0 0] #[.int .i64 0, .int .i64 0, .int .i64 0, .int .i64 0, .slice none 0 0, .int .i64 0, .slice none 0 0] 29 rfl (by rfl) ⟨⟨6, .data⟩, by simp, rfl, rfl⟩ rfl (fun w B => by
    have lt := B.lt
    have c_0 := B.cell (v := .int .i64 0) 0 rfl
    have f_0 := B.free 0
    have c_1 := B.cell (v := .int .i64 0) 1 rfl
    have f_1 := B.free 1
    have c_2 := B.cell (v := .int .i64 0) 2 rfl
    have f_2 := B.free 2
    have c_3 := B.cell (v := .int .i64 0) 3 rfl
    have f_3 := B.free 3
    have c_4 := B.cell (v := .slice none 0 0) 4 rfl
    have f_4 := B.free 4
    have c_5 := B.cell (v := .int .i64 0) 5 rfl
    have f_5 := B.free 5
    have c_6 := B.cell (v := .slice none 0 0) 6 rfl
    have f_6 := B.free 6
    go_simp
    show (((((((w.setCell ⟨g8, 0, none⟩ (.int .i64 0)).setCell ⟨g8, 1, none⟩ (.int .i64 0)).setCell ⟨g8, 2, none⟩ (.int .i64 0)).setCell ⟨g8, 3, none⟩ (.int .i64 0)).setCell ⟨g8, 4, none⟩ (.slice none 0 0)).setCell ⟨g8, 5, none⟩ (.int .i64 0)).setCell ⟨g8, 6, none⟩ (.slice none 0 0)) = putObj w g8 (.cells #[.int .i64 0, .int .i64 0, .int .i64 0, .int .i64 0, .slice none 0 0, .int .i64 0, .slice none 0 0] 29)
    rw [setCell_put B, setCell_put (putObj_heap B), putObj_twice, setCell_put (putObj_heap B), putObj_twice, setCell_put (putObj_heap B), putObj_twice, setCell_put (putObj_heap B), putObj_twice, setCell_put (putObj_heap B), putObj_twice, setCell_put (putObj_heap B), putObj_twice]; rfl) ?_
  refine low3_nil ?_
  intro W6 hC
  obtain ⟨-, BN5⟩ : _ ∧ Bk W6 g8 #[.int .i64 0, .int .i64 0, .int .i64 0, .int .i64 0, .slice none 0 0, .int .i64 0, .slice none 0 0] 29 := hC.made 6 g8 _ rfl
  have hfr : Below W5'.heap.size W5' W6 := hC.fr.below (Nat.le_refl _) (fun _ _ e => e)
  clear hC hF4 s0m s1m s2m s3m s4m s5m s6m s0 s1 s2 s3 s4 s5 s6 ls
  go_upto_region 6 with fail
  refine wp_name (fun V => AI w g1 ba bn bc gI V ∧ Bk V g2 #[.int .i64 12, .slice va vn vc] 26 ∧ EntsAt V (.slice va vn vc) (baseM 20 0) ∧ Bk V g #[.int .i64 0, .int .i64 0] 23 ∧ Bk V g6 #[.int .i64 0, .int .i64 3] 23) ⟨HKEEP5.out.1.below hfr, HKEEP5.out.2.1.below hfr, EntsAt.below HKEEP5.out.2.2.1 hfr, HKEEP5.out.2.2.2.1.below hfr, HKEEP5.out.2.2.2.2.below hfr⟩ ?_
  clear HKEEP5 hfr BN5
  rintro W6' ⟨hA, B2, hE2, B4, B6⟩
  rcases hE2 with ⟨_, h0⟩ | ⟨bV, oV, cV, hv, -, hcV⟩
  · simp [baseM] at h0
  injection hv with v1 v2 v3
  subst v1
  simp [baseM] at v2
  subst v2
  obtain ⟨-, xa, xn, xc, x1, hx1⟩ := hcV 0 _ rfl
  rcases hx1 with ⟨_, h0⟩ | ⟨bC, oC, cC, hv, -, hcC⟩
  · simp at h0
  injection hv with v1 v2 v4
  subst v1
  simp at v2
  subst v2
  obtain ⟨⟨z0, z1, z2, z3, z4⟩, -⟩ := hcC 0 _ rfl
  simp only [Nat.zero_mul, Nat.add_zero] at x1 z0 z1 z2 z3 z4
  have hb := hA.bel
  replace x1 := cell_regrown x1
  replace z0 := cell_regrown z0
  replace z1 := cell_regrown z1
  replace z2 := cell_regrown z2
  replace z3 := cell_regrown z3
  replace z4 := cell_regrown z4
  have t0 := cell_regrown (B2.cell (v := .int .i64 12) 0 rfl)
  have t1 := cell_regrown (B2.cell (v := .slice (some ⟨bV, oV, none⟩) 2 vc) 1 rfl)
  have u0 := cell_regrown (B4.cell (v := .int .i64 0) 0 rfl)
  have u1 := cell_regrown (B4.cell (v := .int .i64 0) 1 rfl)
  have y0 := cell_regrown (B6.cell (v := .int .i64 0) 0 rfl)
  have y1 := cell_regrown (B6.cell (v := .int .i64 3) 1 rfl)
  clear hA hcV hcC v3 v4 B2 B4 B6
  refine wp_region_low2 noPosts 45 (by kernel_rfl) (by kernel_rfl) ?_
  simp only [List.take, List.drop]
  iterate 33 (refine low2_step (fun K hK => ?_); go_simp; first | (refine hK _ ?_; clear hK K) | (apply Exists.intro; refine ⟨fun p => ?_, hK _ ?_⟩; clear hK K))
  refine low2_slice 2 2 (.cells #[.int .i64 20, .int .i64 0] 3) (by rfl) (fun w => by go_simp; try rfl) ?_
  intro gs
  refine low2_reads 31 #[.int .u8 1, .slice (some ⟨gs, 0, none⟩) 2 2] _ (by rfl) (fun w => by go_simp; try rfl) rfl (by kernel_rfl) (fun V hV hG => by
    have hB : Bk V gs #[.int .i64 20, .int .i64 0] 3 := (hG 33 _ ⟨⟨33, .data⟩, by simp, rfl, rfl⟩ rfl).2
    exact comp_2 1 20 0 gs 2 V (hB.cell 0 rfl) (hB.cell 1 rfl)) ?_
  unfold C
  try simp only
  iterate 10 (refine low2_step (fun K hK => ?_); go_simp; first | (refine hK _ ?_; clear hK K) | (apply Exists.intro; refine ⟨fun p => ?_, hK _ ?_⟩; clear hK K))
  refine low2_nil ?_
  intro W7 hC
  have hb7 := (below_cc hC.1 hb).1
  clear hC x1 z0 z1 z2 z3 z4 t0 t1 u0 u1 y0 y1 hb
  go_wp2
  go_returns
  exact ⟨rfl, hb7⟩
end Go.Proofs.YtlcjkomfjgddeaaGreatDoor
