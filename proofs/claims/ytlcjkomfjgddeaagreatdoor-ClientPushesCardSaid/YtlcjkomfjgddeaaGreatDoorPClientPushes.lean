/- ClientPushes: the row and its tied card. -/
import Derived.Test.YtlcjkomfjgddeaaGreatDoorRows
import Derived.Test.YtlcjkomfjgddeaaGreatDoorCards
import Derived.Test.YtlcjkomfjgddeaaGreatDoorTie
import Derived.Test.YtlcjkomfjgddeaaGreatDoorM42
import Derived.Test.YtlcjkomfjgddeaaGreatDoorFacts
import Derived.Test.YtlcjkomfjgddeaaGreatDoorOpenC
import Derived.Test.YtlcjkomfjgddeaaGreatDoorTClientPushes
import Derived.WalkKit
import Derived.ProofKit
import Derived.OpenShut
import Derived.LaidMore
import Derived.LaidOnce
import Derived.Lib.SmallJoins
import Derived.Carry
import Derived.Stop.Joined
import Derived.SevenTiedAt
namespace Go.Proofs.YtlcjkomfjgddeaaGreatDoor.clientPushes
open Go Go.ChangeShapes Go.WideShapes Go.ChangeAt Go.RowKit Go.Joins
set_option linter.unusedVariables false
set_option maxRecDepth 100000

theorem own : ownKnob Tryz.prog.godebug = none := by kernel_rfl
theorem laid : laidOutB Tryz.prog = true := by kernel_rfl
theorem door_met (os : Os) (args : Array Value) : laidMetH Tryz.prog [("marches/shape.rooms", Rows.laid_marches_shape_rooms), ("marches/store.ranges", Rows.laid_marches_store_ranges)] ((World.doorLaid Tryz.prog 111 os).forCall (fun _ _ => 0) ⟨#[], args, []⟩).memory :=
  laidMetH_of_parts3 (fuel := 8) (laidMet_of_run' 8 (by kernel_rfl) (by kernel_rfl)) (by kernel_rfl) (by kernel_rfl)

theorem lifted (os : Os) (started : os.Started) (H : Type) (enc : TypeId × Value → H) :
    ReturnsInHanded {} Tryz.checked os 5 .any (fun w args => (Rows.clientPushesSpec.pre enc Tryz.prog Tryz.f5 [] false w args ∧ laidMetH Tryz.prog [("marches/shape.rooms", Rows.laid_marches_shape_rooms), ("marches/store.ranges", Rows.laid_marches_store_ranges)] w) ∧ sizedMet enc Tryz.prog Tryz.f5 (OpenSpec.ofChange Rows.clientPushesSpec) false w args)
      (Rows.clientPushesSpec.post enc Tryz.prog Tryz.f5 false true false false) := by
  refine returnsInHanded_of_change_and (C := Tryz.checked) (X := fun w _ => laidMetH Tryz.prog [("marches/shape.rooms", Rows.laid_marches_shape_rooms), ("marches/store.ranges", Rows.laid_marches_store_ranges)] w) (fun _ _ _ hh h => h.of_heap hh) own started (by kernel_rfl) Tryz.func5
    (ChangeSpec.witness_shaped (enc := enc) (C := Tryz.checked) (os := os) (X := fun w _ => laidMetH Tryz.prog [("marches/shape.rooms", Rows.laid_marches_shape_rooms), ("marches/store.ranges", Rows.laid_marches_store_ranges)] w) false (World.doorLaid Tryz.prog 111 os) #[.slice none 0 0, .int .u16 0] 8 rfl (World.shaped_of_RefB (by kernel_rfl) (by kernel_rfl)) (by kernel_rfl) (by kernel_rfl) (by kernel_rfl) (door_met os _)) ?_
  intro W base args ds gs before hval0 hW _ _ hL _
  have hval : ∀ (j : Nat) t v, Tryz.f5.params[j]? = some t → args[j]? = some v → Value.okWide Tryz.prog W .any base t v := hval0
  have hW' := hW
  obtain ⟨p, q, hA0, hV, rfl, hfz, hnd⟩ := hW
  have hA : DataW.TrodAll enc Tryz.prog W 0 (fun _ => true) true Tryz.f5.params.toList args.toList ds p := hA0
  rw [Tryz.params5] at hA hval
  obtain ⟨v0, vs0, d0, ds0, p0, q0, hargs, rfl, rfl, h0, r0⟩ := trodAll_cons hA
  obtain ⟨v1, vs1, d1, ds1, p1, q1, rfl, rfl, rfl, h1, r1⟩ := trodAll_cons r0
  obtain ⟨rfl, rfl, rfl⟩ := trodAll_nil r1
  obtain rfl : args = #[v0, v1] := by cases args; simp_all
  obtain ⟨rfl, rfl⟩ := trodVars_none hV
  have h0k := h0
  have h1k := h1
  obtain ⟨a0, n0, c0, gs0, rfl, hnc0, hB0⟩ := open_bytes (hval 0 52 v0 rfl rfl) h0
  obtain ⟨a1, rfl, rfl, rfl, w1⟩ := open_int Tryz.underlying53 (hval 1 53 v1 rfl rfl) h1
  obtain ⟨hR, hM⟩ := of_laid hL
  have hw := heap2 hM
  clear hA0 hval0
  refine (clientPushes_all a0 n0 c0 gs0 hnc0 hB0 a1 (wf_u16o w1) hR hM hw).mono fun e W' ⟨he, hg⟩ => ?_
  subst he
  exact ⟨_, rfl, law_post (pv := []) hW' hg (fun _ _ _ => (trodAll_cons_mk (shut_bool Tryz.underlying4 _) trodAll_mk0)) (fun sp hsp => (trodAll_cons_mk (WideElems.Trod_stays laid (by kernel_rfl) (of_decide_eq_true (by kernel_rfl)) h0k (fun x hx => hg.same (hW'.lt x (by simp [hx]))) (fun x hx => hsp x (by simp [hx]))) (trodAll_cons_mk (WideElems.Trod_stays laid (by kernel_rfl) (of_decide_eq_true (by kernel_rfl)) h1k (fun x hx => absurd hx (List.not_mem_nil)) (fun x hx => absurd hx (List.not_mem_nil))) trodAll_mk0))) (fun _ _ => rfl)⟩

theorem k0 : (Rows.clientPushesRow.wf (OpenSpec.ofChange Rows.clientPushesSpec) : Bool) = true := by kernel_rfl
theorem k3 : (Tryz.f5.params.all (Tryz.pinned.checked.prog.readableRec ·) : Bool) = true := by kernel_rfl
theorem k4 : (namedTie Tryz.pinned.checked.prog Rows.clientPushesRow.named Rows.clientPushesSpec.vars : Bool) = true := by kernel_rfl
theorem k5 : ((Rows.clientPushesRow.stops == []) : Bool) = true := by kernel_rfl
theorem k7 : ((Rows.clientPushesRow.knobs == []) : Bool) = true := by kernel_rfl
theorem k9 : ((Rows.clientPushesRow.inPlace == Tryz.pinned.checked.prog.inPlace 5) : Bool) = true := by kernel_rfl
theorem k10 : ((Rows.clientPushesRow.unfollowed == Tryz.pinned.checked.prog.unfollowed 5) : Bool) = true := by kernel_rfl
theorem k11 : ((Rows.clientPushesRow.recurses == Tryz.pinned.checked.prog.recurses 5) : Bool) = true := by kernel_rfl
theorem k12 : ((Rows.clientPushesRow.named == Tryz.pinned.checked.prog.varsNamed 5) : Bool) = true := by kernel_rfl
theorem k13 : ((Rows.clientPushesRow.maps == (Tryz.f5.params.toList ++ Rows.clientPushesSpec.plain.varTypes Tryz.pinned.checked.prog).any (Tryz.pinned.checked.prog.mapsRec ·)) : Bool) = true := by kernel_rfl
theorem k14 : ((Rows.clientPushesRow.ifaces == (Tryz.f5.params.toList ++ Rows.clientPushesSpec.plain.varTypes Tryz.pinned.checked.prog).any (Tryz.pinned.checked.prog.ifacesRec ·)) : Bool) = true := by kernel_rfl
theorem k15 : ((Rows.clientPushesRow.mapsOut == Tryz.pinned.checked.prog.mapsAmong Tryz.f5.resultTypes.toList) : Bool) = true := by kernel_rfl
theorem k16 : ((Rows.clientPushesRow.loops == (Tryz.f5.params.toList ++ Rows.clientPushesSpec.plain.varTypes Tryz.pinned.checked.prog).any (Tryz.pinned.checked.prog.loopsFrom ·)) : Bool) = true := by kernel_rfl
theorem k17 : ((Rows.clientPushesRow.wideKeys == (Tryz.f5.params.toList ++ Rows.clientPushesSpec.plain.varTypes Tryz.pinned.checked.prog ++ Tryz.f5.resultTypes.toList).any (Tryz.pinned.checked.prog.wideKeysFrom ·)) : Bool) = true := by kernel_rfl
theorem k18 : (Rows.clientPushesSpec.vars.all (Tryz.pinned.checked.prog.varReadable ·) : Bool) = true := by kernel_rfl
theorem k19 : (Tryz.f5.resultTypes.all (fun t => Tryz.pinned.checked.prog.readableRec t && decide (t < Tryz.pinned.checked.prog.types.size)) : Bool) = true := by kernel_rfl
theorem k20 : ((Rows.clientPushesRow.ifacesOut == Tryz.f5.resultTypes.toList.any (Tryz.pinned.checked.prog.ifacesRec ·)) : Bool) = true := by kernel_rfl
theorem k21 : ((Rows.clientPushesRow.loopsOut == Tryz.f5.resultTypes.toList.any (Tryz.pinned.checked.prog.loopsFrom ·)) : Bool) = true := by kernel_rfl
theorem k23 : (Rows.clientPushesRow.shortTexts.isNone : Bool) = true := by kernel_rfl
theorem k29 : ((Rows.clientPushesRow.pinned == Rows.clientPushesRow.pinnedBy) : Bool) = true := by kernel_rfl
theorem k30 : ((Rows.clientPushesRow.veiled == (Tryz.f5.params.toList ++ Rows.clientPushesSpec.plain.varTypes Tryz.pinned.checked.prog ++ Tryz.f5.resultTypes.toList).any (Tryz.pinned.checked.prog.veiledRec ·)) : Bool) = true := by kernel_rfl
theorem k31 : (Rows.clientPushesRow.veiledFits Tryz.pinned.checked.prog Tryz.f5.params.toList (Tryz.f5.params.toList ++ Rows.clientPushesSpec.plain.varTypes Tryz.pinned.checked.prog ++ Tryz.f5.resultTypes.toList) : Bool) = true := by kernel_rfl
theorem closed : joinedFacts Tryz.pinned.checked.prog 5 Tryz.f5 Rows.clientPushesSpec Rows.clientPushesRow = true := (and_tt (and_tt (and_tt (and_tt (and_tt (and_tt (and_tt (and_tt (and_tt (and_tt (and_tt (and_tt (and_tt (and_tt (and_tt (and_tt (and_tt (and_tt (and_tt (and_tt (and_tt (and_tt (and_tt (and_tt (and_tt (and_tt (and_tt (and_tt (and_tt (and_tt (and_tt k0 fact1) fact2) k3) k4) k5) fact6) k7) fact8) k9) k10) k11) k12) k13) k14) k15) k16) k17) k18) k19) k20) k21) fact22) k23) fact24) fact25) fact26) fact27) (by kernel_rfl)) k29) k30) k31)
theorem named : Tryz.pinned.checked.prog.funcNamed Rows.clientPushesRow.func = some 5 := by kernel_rfl
theorem inst : Tryz.f5.isInstance Tryz.pinned.checked.prog Rows.clientPushesRow.origin Rows.clientPushesRow.targs := of_decide_eq_true (by kernel_rfl)
theorem wrap : Tryz.f5.isWrapper Tryz.pinned.checked.prog Rows.clientPushesRow.wrapper Rows.clientPushesRow.mainSum := by
  unfold Func.isWrapper
  first | (rw [if_pos (by decide +kernel)]; kernel_rfl) | (rw [if_neg (by decide +kernel)]; exact ⟨rfl, rfl⟩)
theorem over : Rows.clientPushesRow.holds Tryz.pinned (OpenSpec.ofChange Rows.clientPushesSpec) :=
  OpenClaim.holds_of_wide 5 Tryz.f5 rfl rfl rfl rfl rfl rfl rfl ⟨rfl, rfl, rfl, rfl, rfl⟩ rfl rfl rfl rfl rfl named Tryz.func5 closed inst wrap
    (fun os started H enc _ => lifted os started H enc)
theorem card_holds : Claim7.holds Tryz.pinned (.plain (OpenSpec.ofChange Rows.clientPushesSpec)) Rows.clientPushesCard :=
  Claim7.holds_tied_plain_at .later [] [.funcs, .data] true (true, "cf3bd5fb68cfc1d580cb77bcf17ca78a203d1d95d912e4be260d1f31551f6a17") false
    over (fun _ h => by cases h) (by kernel_rfl) (fun _ h => by cases h) clientPushes_row_tie rfl ⟨rfl, rfl⟩ (by kernel_rfl) rfl
    (fun f fn hf hfn => by
      obtain rfl : f = 5 := Option.some.inj (named.symm.trans hf) |>.symm
      obtain rfl : fn = Tryz.f5 := (Option.some.inj (Tryz.func5.symm.trans hfn)).symm
      exact ⟨by kernel_rfl, fun j t ht => by
        rw [Tryz.params5] at ht
        match j, ht with
        | 0, ht =>
          obtain rfl : t = 52 := by simpa using ht.symm
          exact (show Tryz.prog.wantsStandIn 52 = false by kernel_rfl)
        | 1, ht =>
          obtain rfl : t = 53 := by simpa using ht.symm
          exact (show Tryz.prog.wantsStandIn 53 = false by kernel_rfl)
        | j + 2, ht => simp at ht⟩)
    (by kernel_rfl)
end Go.Proofs.YtlcjkomfjgddeaaGreatDoor.clientPushes
namespace Go.Proofs.YtlcjkomfjgddeaaGreatDoor
theorem clientPushes_holds : Rows.ClientPushesCardSaid := clientPushes.card_holds
end Go.Proofs.YtlcjkomfjgddeaaGreatDoor
