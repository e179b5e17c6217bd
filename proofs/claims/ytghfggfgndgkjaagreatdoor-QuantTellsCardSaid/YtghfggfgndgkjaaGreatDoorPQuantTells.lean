/- QuantTells: the row and its tied card. -/
import Derived.Test.YtghfggfgndgkjaaGreatDoorRows
import Derived.Test.YtghfggfgndgkjaaGreatDoorCards
import Derived.Test.YtghfggfgndgkjaaGreatDoorTie
import Derived.Test.YtghfggfgndgkjaaGreatDoorLawKit
import Derived.Test.YtghfggfgndgkjaaGreatDoorFacts
import Derived.Test.YtghfggfgndgkjaaGreatDoorLQuantTells
import Derived.WalkKit
import Derived.ProofKit
import Derived.OpenShut
import Derived.LaidMore
import Derived.LaidOnce
import Derived.Lib.SmallJoins
import Derived.Carry
import Derived.Stop.Joined
import Derived.SevenTiedAt
namespace Go.Proofs.YtghfggfgndgkjaaGreatDoor.quantTells
open Go Go.ChangeShapes Go.WideShapes Go.ChangeAt Go.RowKit Go.Joins
set_option linter.unusedVariables false
set_option maxRecDepth 100000

theorem own : ownKnob Tryz.prog.godebug = none := by kernel_rfl
theorem laid : laidOutB Tryz.prog = true := by kernel_rfl
theorem cellsG : Tryz.prog.cellsOf 23 = 3 := by kernel_rfl
theorem door_met (os : Os) (args : Array Value) : laidMetH Tryz.prog [("math/bits.deBruijn32tab", Rows.laid_math_bits_deBruijn32tab), ("math/bits.deBruijn64tab", Rows.laid_math_bits_deBruijn64tab), ("math/big.leafSize", Rows.laid_math_big_leafSize), ("math/big.divRecursiveThreshold", Rows.laid_math_big_divRecursiveThreshold), ("math/big.karatsubaThreshold", Rows.laid_math_big_karatsubaThreshold), ("math/big.basicSqrThreshold", Rows.laid_math_big_basicSqrThreshold), ("math/big.karatsubaSqrThreshold", Rows.laid_math_big_karatsubaSqrThreshold)] ((World.doorLaid Tryz.prog 1000 os).forCall (fun _ _ => 0) ⟨#[], args, []⟩).memory :=
  laidMetH_of_parts3 (fuel := 8) (laidMet_of_run' 8 (by kernel_rfl) (by kernel_rfl)) (by kernel_rfl) (by kernel_rfl)

theorem lifted (os : Os) (started : os.Started) (H : Type) (enc : TypeId × Value → H) :
    ReturnsInHanded {} Tryz.checked os 3 .any (fun w args => (Rows.quantTellsSpec.pre enc Tryz.prog Tryz.f3 [] false w args ∧ laidMetH Tryz.prog [("math/bits.deBruijn32tab", Rows.laid_math_bits_deBruijn32tab), ("math/bits.deBruijn64tab", Rows.laid_math_bits_deBruijn64tab), ("math/big.leafSize", Rows.laid_math_big_leafSize), ("math/big.divRecursiveThreshold", Rows.laid_math_big_divRecursiveThreshold), ("math/big.karatsubaThreshold", Rows.laid_math_big_karatsubaThreshold), ("math/big.basicSqrThreshold", Rows.laid_math_big_basicSqrThreshold), ("math/big.karatsubaSqrThreshold", Rows.laid_math_big_karatsubaSqrThreshold)] w) ∧ sizedMet enc Tryz.prog Tryz.f3 (OpenSpec.ofChange Rows.quantTellsSpec) false w args)
      (Rows.quantTellsSpec.post enc Tryz.prog Tryz.f3 false true false false) := by
  refine returnsInHanded_of_change_and (C := Tryz.checked) (X := fun w _ => laidMetH Tryz.prog [("math/bits.deBruijn32tab", Rows.laid_math_bits_deBruijn32tab), ("math/bits.deBruijn64tab", Rows.laid_math_bits_deBruijn64tab), ("math/big.leafSize", Rows.laid_math_big_leafSize), ("math/big.divRecursiveThreshold", Rows.laid_math_big_divRecursiveThreshold), ("math/big.karatsubaThreshold", Rows.laid_math_big_karatsubaThreshold), ("math/big.basicSqrThreshold", Rows.laid_math_big_basicSqrThreshold), ("math/big.karatsubaSqrThreshold", Rows.laid_math_big_karatsubaSqrThreshold)] w) (fun _ _ _ hh h => h.of_heap hh) own started (by kernel_rfl) Tryz.func3
    (ChangeSpec.witness_shaped (enc := enc) (C := Tryz.checked) (os := os) (X := fun w _ => laidMetH Tryz.prog [("math/bits.deBruijn32tab", Rows.laid_math_bits_deBruijn32tab), ("math/bits.deBruijn64tab", Rows.laid_math_bits_deBruijn64tab), ("math/big.leafSize", Rows.laid_math_big_leafSize), ("math/big.divRecursiveThreshold", Rows.laid_math_big_divRecursiveThreshold), ("math/big.karatsubaThreshold", Rows.laid_math_big_karatsubaThreshold), ("math/big.basicSqrThreshold", Rows.laid_math_big_basicSqrThreshold), ("math/big.karatsubaSqrThreshold", Rows.laid_math_big_karatsubaSqrThreshold)] w) false (World.doorLaid Tryz.prog 1000 os) #[.agg #[.int .i64 0, .int .i64 0, .int .i64 0], .int .i64 0, .int .i64 0] 8 rfl (World.shaped_of_RefB (by kernel_rfl) (by kernel_rfl)) (by kernel_rfl) (by kernel_rfl) (by kernel_rfl) (door_met os _)) ?_
  intro W base args ds gs before hval0 hW _ _ hL _
  have hval : ∀ (j : Nat) t v, Tryz.f3.params[j]? = some t → args[j]? = some v → Value.okWide Tryz.prog W .any base t v := hval0
  have hW' := hW
  obtain ⟨p, q, hA0, hV, rfl, hfz, hnd⟩ := hW
  have hA : DataW.TrodAll enc Tryz.prog W 0 (fun _ => true) true Tryz.f3.params.toList args.toList ds p := hA0
  rw [Tryz.params3] at hA hval
  obtain ⟨v0, vs0, d0, ds0, p0, q0, hargs, rfl, rfl, h0, r0⟩ := trodAll_cons hA
  obtain ⟨v1, vs1, d1, ds1, p1, q1, rfl, rfl, rfl, h1, r1⟩ := trodAll_cons r0
  obtain ⟨v2, vs2, d2, ds2, p2, q2, rfl, rfl, rfl, h2, r2⟩ := trodAll_cons r1
  obtain ⟨rfl, rfl, rfl⟩ := trodAll_nil r2
  obtain rfl : args = #[v0, v1, v2] := by cases args; simp_all
  obtain ⟨rfl, rfl⟩ := trodVars_none hV
  have h0k := h0
  have h1k := h1
  have h2k := h2
  obtain ⟨c00, c01, c02, y00, y01, y02, m0, rfl, rfl, rfl, hy00, hy01, hy02⟩ := open_agg3 Tryz.underlying23 (by kernel_rfl) cellsG (hval 0 23 v0 rfl rfl) h0
  obtain ⟨a0, e0, rfl, w0⟩ := DataW.trod_int Tryz.underlying3 hy00
  simp at e0
  subst e0
  obtain ⟨a1, e1, rfl, w1⟩ := DataW.trod_int Tryz.underlying3 hy01
  simp at e1
  subst e1
  obtain ⟨a2, e2, rfl, w2⟩ := DataW.trod_int Tryz.underlying3 hy02
  simp at e2
  subst e2
  obtain ⟨a3, rfl, rfl, rfl, w3⟩ := open_int Tryz.underlying3 (hval 1 3 v1 rfl rfl) h1
  obtain ⟨a4, rfl, rfl, rfl, w4⟩ := open_int Tryz.underlying3 (hval 2 3 v2 rfl rfl) h2
  clear hA0 hval0
  simp only [List.append_nil] at hW'
  refine (walk_QuantTells a0 a1 a2 a3 a4 W).mono fun e W' ⟨he, hg⟩ => ?_
  subst he
  exact ⟨_, rfl, law_post (pa := []) (pv := []) hW' hg (fun _ _ _ => (trodAll_cons_mk (shut_bool Tryz.underlying4 _) trodAll_mk0)) (fun sp _ => (trodAll_cons_mk (WideElems.Trod_stays laid (by kernel_rfl) (of_decide_eq_true (by kernel_rfl)) h0k (fun x hx => absurd hx (List.not_mem_nil)) (fun x hx => absurd hx (List.not_mem_nil))) (trodAll_cons_mk (WideElems.Trod_stays laid (by kernel_rfl) (of_decide_eq_true (by kernel_rfl)) h1k (fun x hx => absurd hx (List.not_mem_nil)) (fun x hx => absurd hx (List.not_mem_nil))) (trodAll_cons_mk (WideElems.Trod_stays laid (by kernel_rfl) (of_decide_eq_true (by kernel_rfl)) h2k (fun x hx => absurd hx (List.not_mem_nil)) (fun x hx => absurd hx (List.not_mem_nil))) trodAll_mk0)))) (fun _ _ => rfl)⟩

theorem k0 : (Rows.quantTellsRow.wf (OpenSpec.ofChange Rows.quantTellsSpec) : Bool) = true := by kernel_rfl
theorem k3 : (Tryz.f3.params.all (Tryz.pinned.checked.prog.readableRec ·) : Bool) = true := by kernel_rfl
theorem k4 : (namedTie Tryz.pinned.checked.prog Rows.quantTellsRow.named Rows.quantTellsSpec.vars : Bool) = true := by kernel_rfl
theorem k5 : ((Rows.quantTellsRow.stops == []) : Bool) = true := by kernel_rfl
theorem k7 : ((Rows.quantTellsRow.knobs == []) : Bool) = true := by kernel_rfl
theorem k9 : ((Rows.quantTellsRow.inPlace == Tryz.pinned.checked.prog.inPlace 3) : Bool) = true := by kernel_rfl
theorem k10 : ((Rows.quantTellsRow.unfollowed == Tryz.pinned.checked.prog.unfollowed 3) : Bool) = true := by kernel_rfl
theorem k11 : ((Rows.quantTellsRow.recurses == Tryz.pinned.checked.prog.recurses 3) : Bool) = true := by kernel_rfl
theorem k12 : ((Rows.quantTellsRow.named == Tryz.pinned.checked.prog.varsNamed 3) : Bool) = true := by kernel_rfl
theorem k13 : ((Rows.quantTellsRow.maps == (Tryz.f3.params.toList ++ Rows.quantTellsSpec.plain.varTypes Tryz.pinned.checked.prog).any (Tryz.pinned.checked.prog.mapsRec ·)) : Bool) = true := by kernel_rfl
theorem k14 : ((Rows.quantTellsRow.ifaces == (Tryz.f3.params.toList ++ Rows.quantTellsSpec.plain.varTypes Tryz.pinned.checked.prog).any (Tryz.pinned.checked.prog.ifacesRec ·)) : Bool) = true := by kernel_rfl
theorem k15 : ((Rows.quantTellsRow.mapsOut == Tryz.pinned.checked.prog.mapsAmong Tryz.f3.resultTypes.toList) : Bool) = true := by kernel_rfl
theorem k16 : ((Rows.quantTellsRow.loops == (Tryz.f3.params.toList ++ Rows.quantTellsSpec.plain.varTypes Tryz.pinned.checked.prog).any (Tryz.pinned.checked.prog.loopsFrom ·)) : Bool) = true := by kernel_rfl
theorem k17 : ((Rows.quantTellsRow.wideKeys == (Tryz.f3.params.toList ++ Rows.quantTellsSpec.plain.varTypes Tryz.pinned.checked.prog ++ Tryz.f3.resultTypes.toList).any (Tryz.pinned.checked.prog.wideKeysFrom ·)) : Bool) = true := by kernel_rfl
theorem k18 : (Rows.quantTellsSpec.vars.all (Tryz.pinned.checked.prog.varReadable ·) : Bool) = true := by kernel_rfl
theorem k19 : (Tryz.f3.resultTypes.all (fun t => Tryz.pinned.checked.prog.readableRec t && decide (t < Tryz.pinned.checked.prog.types.size)) : Bool) = true := by kernel_rfl
theorem k20 : ((Rows.quantTellsRow.ifacesOut == Tryz.f3.resultTypes.toList.any (Tryz.pinned.checked.prog.ifacesRec ·)) : Bool) = true := by kernel_rfl
theorem k21 : ((Rows.quantTellsRow.loopsOut == Tryz.f3.resultTypes.toList.any (Tryz.pinned.checked.prog.loopsFrom ·)) : Bool) = true := by kernel_rfl
theorem k23 : (Rows.quantTellsRow.shortTexts.isNone : Bool) = true := by kernel_rfl
theorem k29 : ((Rows.quantTellsRow.pinned == Rows.quantTellsRow.pinnedBy) : Bool) = true := by kernel_rfl
theorem k30 : ((Rows.quantTellsRow.veiled == (Tryz.f3.params.toList ++ Rows.quantTellsSpec.plain.varTypes Tryz.pinned.checked.prog ++ Tryz.f3.resultTypes.toList).any (Tryz.pinned.checked.prog.veiledRec ·)) : Bool) = true := by kernel_rfl
theorem k31 : (Rows.quantTellsRow.veiledFits Tryz.pinned.checked.prog Tryz.f3.params.toList (Tryz.f3.params.toList ++ Rows.quantTellsSpec.plain.varTypes Tryz.pinned.checked.prog ++ Tryz.f3.resultTypes.toList) : Bool) = true := by kernel_rfl
theorem closed : joinedFacts Tryz.pinned.checked.prog 3 Tryz.f3 Rows.quantTellsSpec Rows.quantTellsRow = true := (and_tt (and_tt (and_tt (and_tt (and_tt (and_tt (and_tt (and_tt (and_tt (and_tt (and_tt (and_tt (and_tt (and_tt (and_tt (and_tt (and_tt (and_tt (and_tt (and_tt (and_tt (and_tt (and_tt (and_tt (and_tt (and_tt (and_tt (and_tt (and_tt (and_tt (and_tt k0 fact1) fact2) k3) k4) k5) fact6) k7) fact8) k9) k10) k11) k12) k13) k14) k15) k16) k17) k18) k19) k20) k21) fact22) k23) fact24) fact25) fact26) fact27) (by kernel_rfl)) k29) k30) k31)
theorem named : Tryz.pinned.checked.prog.funcNamed Rows.quantTellsRow.func = some 3 := by kernel_rfl
theorem inst : Tryz.f3.isInstance Tryz.pinned.checked.prog Rows.quantTellsRow.origin Rows.quantTellsRow.targs := of_decide_eq_true (by kernel_rfl)
theorem wrap : Tryz.f3.isWrapper Tryz.pinned.checked.prog Rows.quantTellsRow.wrapper Rows.quantTellsRow.mainSum := by
  unfold Func.isWrapper
  first | (rw [if_pos (by decide +kernel)]; kernel_rfl) | (rw [if_neg (by decide +kernel)]; exact ⟨rfl, rfl⟩)
theorem over : Rows.quantTellsRow.holds Tryz.pinned (OpenSpec.ofChange Rows.quantTellsSpec) :=
  OpenClaim.holds_of_wide 3 Tryz.f3 rfl rfl rfl rfl rfl rfl rfl ⟨rfl, rfl, rfl, rfl, rfl⟩ rfl rfl rfl rfl rfl named Tryz.func3 closed inst wrap
    (fun os started H enc _ => lifted os started H enc)
theorem card_holds : Claim7.holds Tryz.pinned (.plain (OpenSpec.ofChange Rows.quantTellsSpec)) Rows.quantTellsCard :=
  Claim7.holds_tied_plain_at .later [] [.data, .data, .data, .data, .data, .data, .data] true (true, "61727df975015729602ed47df38ccbdec7b81ca75035d99823f35858524f04f9") true
    over (fun _ h => by cases h) (by kernel_rfl) (fun _ h => by cases h) quantTells_row_tie rfl ⟨rfl, rfl⟩ (by kernel_rfl) rfl
    (fun f fn hf hfn => by
      obtain rfl : f = 3 := Option.some.inj (named.symm.trans hf) |>.symm
      obtain rfl : fn = Tryz.f3 := (Option.some.inj (Tryz.func3.symm.trans hfn)).symm
      exact ⟨by kernel_rfl, fun j t ht => by
        rw [Tryz.params3] at ht
        match j, ht with
        | 0, ht =>
          obtain rfl : t = 23 := by simpa using ht.symm
          exact (show Tryz.prog.wantsStandIn 23 = false by kernel_rfl)
        | 1, ht =>
          obtain rfl : t = 3 := by simpa using ht.symm
          exact (show Tryz.prog.wantsStandIn 3 = false by kernel_rfl)
        | 2, ht =>
          obtain rfl : t = 3 := by simpa using ht.symm
          exact (show Tryz.prog.wantsStandIn 3 = false by kernel_rfl)
        | j + 3, ht => simp at ht⟩)
    (by kernel_rfl)
end Go.Proofs.YtghfggfgndgkjaaGreatDoor.quantTells
namespace Go.Proofs.YtghfggfgndgkjaaGreatDoor
theorem quantTells_holds : Rows.QuantTellsCardSaid := quantTells.card_holds
end Go.Proofs.YtghfggfgndgkjaaGreatDoor
