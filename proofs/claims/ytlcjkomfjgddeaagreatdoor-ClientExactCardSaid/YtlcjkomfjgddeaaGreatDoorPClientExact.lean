/- ClientExact: the row and its tied card. -/
import Derived.Test.YtlcjkomfjgddeaaGreatDoorRows
import Derived.Test.YtlcjkomfjgddeaaGreatDoorCards
import Derived.Test.YtlcjkomfjgddeaaGreatDoorTie
import Derived.Test.YtlcjkomfjgddeaaGreatDoorM42
import Derived.Test.YtlcjkomfjgddeaaGreatDoorFacts
import Derived.Test.YtlcjkomfjgddeaaGreatDoorOpenC
import Derived.Test.YtlcjkomfjgddeaaGreatDoorTClientExact
import Derived.WalkKit
import Derived.ProofKit
import Derived.OpenShut
import Derived.LaidMore
import Derived.LaidOnce
import Derived.Lib.SmallJoins
import Derived.Carry
import Derived.Stop.Joined
import Derived.SevenTiedAt
namespace Go.Proofs.YtlcjkomfjgddeaaGreatDoor.clientExact
open Go Go.ChangeShapes Go.WideShapes Go.ChangeAt Go.RowKit Go.Joins
set_option linter.unusedVariables false
set_option maxRecDepth 100000

theorem own : ownKnob Tryz.prog.godebug = none := by kernel_rfl
theorem laid : laidOutB Tryz.prog = true := by kernel_rfl
theorem door_met (os : Os) (args : Array Value) : laidMetH Tryz.prog [("marches/shape.rooms", Rows.laid_marches_shape_rooms), ("marches/store.ranges", Rows.laid_marches_store_ranges)] ((World.doorLaid Tryz.prog 111 os).forCall (fun _ _ => 0) ⟨#[], args, []⟩).memory :=
  laidMetH_of_parts3 (fuel := 8) (laidMet_of_run' 8 (by kernel_rfl) (by kernel_rfl)) (by kernel_rfl) (by kernel_rfl)

theorem lifted (os : Os) (started : os.Started) (H : Type) (enc : TypeId × Value → H) :
    ReturnsInHanded {} Tryz.checked os 8 .any (fun w args => (Rows.clientExactSpec.pre enc Tryz.prog Tryz.f8 [] false w args ∧ laidMetH Tryz.prog [("marches/shape.rooms", Rows.laid_marches_shape_rooms), ("marches/store.ranges", Rows.laid_marches_store_ranges)] w) ∧ sizedMet enc Tryz.prog Tryz.f8 (OpenSpec.ofChange Rows.clientExactSpec) false w args)
      (Rows.clientExactSpec.post enc Tryz.prog Tryz.f8 false true false false) := by
  refine returnsInHanded_of_change_and (C := Tryz.checked) (X := fun w _ => laidMetH Tryz.prog [("marches/shape.rooms", Rows.laid_marches_shape_rooms), ("marches/store.ranges", Rows.laid_marches_store_ranges)] w) (fun _ _ _ hh h => h.of_heap hh) own started (by kernel_rfl) Tryz.func8
    (ChangeSpec.witness_shaped (enc := enc) (C := Tryz.checked) (os := os) (X := fun w _ => laidMetH Tryz.prog [("marches/shape.rooms", Rows.laid_marches_shape_rooms), ("marches/store.ranges", Rows.laid_marches_store_ranges)] w) false (World.doorLaid Tryz.prog 111 os) #[.agg #[.int .i64 0, .int .i64 0, .int .i64 0, .int .i64 0, .slice none 0 0, .int .i64 0, .slice none 0 0], .agg #[.int .i64 0, .int .i64 0, .int .i64 0, .int .i64 0, .int .i64 0, .bool false, .int .i64 0, .int .i64 0, .int .i64 0, .int .i64 0]] 8 rfl (World.shaped_of_RefB (by kernel_rfl) (by kernel_rfl)) (by kernel_rfl) (by kernel_rfl) (by kernel_rfl) (door_met os _)) ?_
  intro W base args ds gs before hval0 hW _ _ hL _
  have hval : ∀ (j : Nat) t v, Tryz.f8.params[j]? = some t → args[j]? = some v → Value.okWide Tryz.prog W .any base t v := hval0
  have hW' := hW
  obtain ⟨p, q, hA0, hV, rfl, hfz, hnd⟩ := hW
  have hA : DataW.TrodAll enc Tryz.prog W 0 (fun _ => true) true Tryz.f8.params.toList args.toList ds p := hA0
  rw [Tryz.params8] at hA hval
  obtain ⟨v0, vs0, d0, ds0, p0, q0, hargs, rfl, rfl, h0, r0⟩ := trodAll_cons hA
  obtain ⟨v1, vs1, d1, ds1, p1, q1, rfl, rfl, rfl, h1, r1⟩ := trodAll_cons r0
  obtain ⟨rfl, rfl, rfl⟩ := trodAll_nil r1
  obtain rfl : args = #[v0, v1] := by cases args; simp_all
  obtain ⟨rfl, rfl⟩ := trodVars_none hV
  have h0k := h0
  have h1k := h1
  obtain ⟨id0, gx0, gy0, t0, ack0, a0, n0, cap0, pa0, pn0, pc0, rfl, hN0, hE0, hI0, hc0, hd0⟩ := open_client (hval 0 29 v0 rfl rfl) h0
  obtain ⟨x1, rfl, hX1⟩ := open_input (hval 1 37 v1 rfl rfl) h1
  obtain ⟨hR, hM⟩ := of_laid hL
  have hw := heap2 hM
  clear hA0 hval0
  refine (clientExact_all id0 gx0 gy0 t0 ack0 a0 n0 cap0 pa0 pn0 pc0 hN0 hE0 hI0 hc0 hd0 x1 hX1 hR hM hw).mono fun e W' ⟨he, hg⟩ => ?_
  subst he
  exact ⟨_, rfl, law_post (pv := []) hW' hg (fun _ _ _ => (trodAll_cons_mk (shut_bool Tryz.underlying4 _) trodAll_mk0)) (fun sp hsp => (trodAll_cons_mk (WideElems.Trod_stays laid (by kernel_rfl) (of_decide_eq_true (by kernel_rfl)) h0k (fun x hx => hg.same (hW'.lt x (by simp [hx]))) (fun x hx => hsp x (by simp [hx]))) (trodAll_cons_mk (WideElems.Trod_stays laid (by kernel_rfl) (of_decide_eq_true (by kernel_rfl)) h1k (fun x hx => hg.same (hW'.lt x (by simp [hx]))) (fun x hx => hsp x (by simp [hx]))) trodAll_mk0))) (fun _ _ => rfl)⟩

theorem k0 : (Rows.clientExactRow.wf (OpenSpec.ofChange Rows.clientExactSpec) : Bool) = true := by kernel_rfl
theorem k3 : (Tryz.f8.params.all (Tryz.pinned.checked.prog.readableRec ·) : Bool) = true := by kernel_rfl
theorem k4 : (namedTie Tryz.pinned.checked.prog Rows.clientExactRow.named Rows.clientExactSpec.vars : Bool) = true := by kernel_rfl
theorem k5 : ((Rows.clientExactRow.stops == []) : Bool) = true := by kernel_rfl
theorem k7 : ((Rows.clientExactRow.knobs == []) : Bool) = true := by kernel_rfl
theorem k9 : ((Rows.clientExactRow.inPlace == Tryz.pinned.checked.prog.inPlace 8) : Bool) = true := by kernel_rfl
theorem k10 : ((Rows.clientExactRow.unfollowed == Tryz.pinned.checked.prog.unfollowed 8) : Bool) = true := by kernel_rfl
theorem k11 : ((Rows.clientExactRow.recurses == Tryz.pinned.checked.prog.recurses 8) : Bool) = true := by kernel_rfl
theorem k12 : ((Rows.clientExactRow.named == Tryz.pinned.checked.prog.varsNamed 8) : Bool) = true := by kernel_rfl
theorem k13 : ((Rows.clientExactRow.maps == (Tryz.f8.params.toList ++ Rows.clientExactSpec.plain.varTypes Tryz.pinned.checked.prog).any (Tryz.pinned.checked.prog.mapsRec ·)) : Bool) = true := by kernel_rfl
theorem k14 : ((Rows.clientExactRow.ifaces == (Tryz.f8.params.toList ++ Rows.clientExactSpec.plain.varTypes Tryz.pinned.checked.prog).any (Tryz.pinned.checked.prog.ifacesRec ·)) : Bool) = true := by kernel_rfl
theorem k15 : ((Rows.clientExactRow.mapsOut == Tryz.pinned.checked.prog.mapsAmong Tryz.f8.resultTypes.toList) : Bool) = true := by kernel_rfl
theorem k16 : ((Rows.clientExactRow.loops == (Tryz.f8.params.toList ++ Rows.clientExactSpec.plain.varTypes Tryz.pinned.checked.prog).any (Tryz.pinned.checked.prog.loopsFrom ·)) : Bool) = true := by kernel_rfl
theorem k17 : ((Rows.clientExactRow.wideKeys == (Tryz.f8.params.toList ++ Rows.clientExactSpec.plain.varTypes Tryz.pinned.checked.prog ++ Tryz.f8.resultTypes.toList).any (Tryz.pinned.checked.prog.wideKeysFrom ·)) : Bool) = true := by kernel_rfl
theorem k18 : (Rows.clientExactSpec.vars.all (Tryz.pinned.checked.prog.varReadable ·) : Bool) = true := by kernel_rfl
theorem k19 : (Tryz.f8.resultTypes.all (fun t => Tryz.pinned.checked.prog.readableRec t && decide (t < Tryz.pinned.checked.prog.types.size)) : Bool) = true := by kernel_rfl
theorem k20 : ((Rows.clientExactRow.ifacesOut == Tryz.f8.resultTypes.toList.any (Tryz.pinned.checked.prog.ifacesRec ·)) : Bool) = true := by kernel_rfl
theorem k21 : ((Rows.clientExactRow.loopsOut == Tryz.f8.resultTypes.toList.any (Tryz.pinned.checked.prog.loopsFrom ·)) : Bool) = true := by kernel_rfl
theorem k23 : (Rows.clientExactRow.shortTexts.isNone : Bool) = true := by kernel_rfl
theorem k29 : ((Rows.clientExactRow.pinned == Rows.clientExactRow.pinnedBy) : Bool) = true := by kernel_rfl
theorem k30 : ((Rows.clientExactRow.veiled == (Tryz.f8.params.toList ++ Rows.clientExactSpec.plain.varTypes Tryz.pinned.checked.prog ++ Tryz.f8.resultTypes.toList).any (Tryz.pinned.checked.prog.veiledRec ·)) : Bool) = true := by kernel_rfl
theorem k31 : (Rows.clientExactRow.veiledFits Tryz.pinned.checked.prog Tryz.f8.params.toList (Tryz.f8.params.toList ++ Rows.clientExactSpec.plain.varTypes Tryz.pinned.checked.prog ++ Tryz.f8.resultTypes.toList) : Bool) = true := by kernel_rfl
theorem closed : joinedFacts Tryz.pinned.checked.prog 8 Tryz.f8 Rows.clientExactSpec Rows.clientExactRow = true := (and_tt (and_tt (and_tt (and_tt (and_tt (and_tt (and_tt (and_tt (and_tt (and_tt (and_tt (and_tt (and_tt (and_tt (and_tt (and_tt (and_tt (and_tt (and_tt (and_tt (and_tt (and_tt (and_tt (and_tt (and_tt (and_tt (and_tt (and_tt (and_tt (and_tt (and_tt k0 fact1) fact2) k3) k4) k5) fact6) k7) fact8) k9) k10) k11) k12) k13) k14) k15) k16) k17) k18) k19) k20) k21) fact22) k23) fact24) fact25) fact26) fact27) (by kernel_rfl)) k29) k30) k31)
theorem named : Tryz.pinned.checked.prog.funcNamed Rows.clientExactRow.func = some 8 := by kernel_rfl
theorem inst : Tryz.f8.isInstance Tryz.pinned.checked.prog Rows.clientExactRow.origin Rows.clientExactRow.targs := of_decide_eq_true (by kernel_rfl)
theorem wrap : Tryz.f8.isWrapper Tryz.pinned.checked.prog Rows.clientExactRow.wrapper Rows.clientExactRow.mainSum := by
  unfold Func.isWrapper
  first | (rw [if_pos (by decide +kernel)]; kernel_rfl) | (rw [if_neg (by decide +kernel)]; exact ⟨rfl, rfl⟩)
theorem over : Rows.clientExactRow.holds Tryz.pinned (OpenSpec.ofChange Rows.clientExactSpec) :=
  OpenClaim.holds_of_wide 8 Tryz.f8 rfl rfl rfl rfl rfl rfl rfl ⟨rfl, rfl, rfl, rfl, rfl⟩ rfl rfl rfl rfl rfl named Tryz.func8 closed inst wrap
    (fun os started H enc _ => lifted os started H enc)
theorem card_holds : Claim7.holds Tryz.pinned (.plain (OpenSpec.ofChange Rows.clientExactSpec)) Rows.clientExactCard :=
  Claim7.holds_tied_plain_at .later [] [.funcs, .data] true (true, "cf3bd5fb68cfc1d580cb77bcf17ca78a203d1d95d912e4be260d1f31551f6a17") false
    over (fun _ h => by cases h) (by kernel_rfl) (fun _ h => by cases h) clientExact_row_tie rfl ⟨rfl, rfl⟩ (by kernel_rfl) rfl
    (fun f fn hf hfn => by
      obtain rfl : f = 8 := Option.some.inj (named.symm.trans hf) |>.symm
      obtain rfl : fn = Tryz.f8 := (Option.some.inj (Tryz.func8.symm.trans hfn)).symm
      exact ⟨by kernel_rfl, fun j t ht => by
        rw [Tryz.params8] at ht
        match j, ht with
        | 0, ht =>
          obtain rfl : t = 29 := by simpa using ht.symm
          exact (show Tryz.prog.wantsStandIn 29 = false by kernel_rfl)
        | 1, ht =>
          obtain rfl : t = 37 := by simpa using ht.symm
          exact (show Tryz.prog.wantsStandIn 37 = false by kernel_rfl)
        | j + 2, ht => simp at ht⟩)
    (by kernel_rfl)
end Go.Proofs.YtlcjkomfjgddeaaGreatDoor.clientExact
namespace Go.Proofs.YtlcjkomfjgddeaaGreatDoor
theorem clientExact_holds : Rows.ClientExactCardSaid := clientExact.card_holds
end Go.Proofs.YtlcjkomfjgddeaaGreatDoor
