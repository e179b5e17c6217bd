/- QuantSends: the row and its tied card. -/
import Derived.Test.YtghfggfgndgkjaaGreatDoorRows
import Derived.Test.YtghfggfgndgkjaaGreatDoorCards
import Derived.Test.YtghfggfgndgkjaaGreatDoorTie
import Derived.Test.YtghfggfgndgkjaaGreatDoorLawKit
import Derived.Test.YtghfggfgndgkjaaGreatDoorFacts
import Derived.Test.YtghfggfgndgkjaaGreatDoorLQuantSends
import Derived.WalkKit
import Derived.ProofKit
import Derived.OpenShut
import Derived.LaidMore
import Derived.LaidOnce
import Derived.Lib.SmallJoins
import Derived.Carry
import Derived.Stop.Joined
import Derived.SevenTiedAt
namespace Go.Proofs.YtghfggfgndgkjaaGreatDoor.quantSends
open Go Go.ChangeShapes Go.WideShapes Go.ChangeAt Go.RowKit Go.Joins
set_option linter.unusedVariables false
set_option maxRecDepth 100000

theorem own : ownKnob Tryz.prog.godebug = none := by kernel_rfl
theorem laid : laidOutB Tryz.prog = true := by kernel_rfl
theorem cellsG : Tryz.prog.cellsOf 23 = 3 := by kernel_rfl
theorem cellsV : Tryz.prog.cellsOf 58 = 2 := by kernel_rfl
theorem door_met (os : Os) (args : Array Value) : laidMetH Tryz.prog [("math/bits.deBruijn32tab", Rows.laid_math_bits_deBruijn32tab), ("math/bits.deBruijn64tab", Rows.laid_math_bits_deBruijn64tab), ("math/big.leafSize", Rows.laid_math_big_leafSize), ("math/big.divRecursiveThreshold", Rows.laid_math_big_divRecursiveThreshold), ("math/big.karatsubaThreshold", Rows.laid_math_big_karatsubaThreshold), ("math/big.basicSqrThreshold", Rows.laid_math_big_basicSqrThreshold), ("math/big.karatsubaSqrThreshold", Rows.laid_math_big_karatsubaSqrThreshold)] ((World.doorLaid Tryz.prog 1000 os).forCall (fun _ _ => 0) ⟨#[], args, []⟩).memory :=
  laidMetH_of_parts3 (fuel := 8) (laidMet_of_run' 8 (by kernel_rfl) (by kernel_rfl)) (by kernel_rfl) (by kernel_rfl)

theorem lifted (os : Os) (started : os.Started) (H : Type) (enc : TypeId × Value → H) :
    ReturnsInHanded {} Tryz.checked os 5 .any (fun w args => (Rows.quantSendsSpec.pre enc Tryz.prog Tryz.f5 [] false w args ∧ laidMetH Tryz.prog [("math/bits.deBruijn32tab", Rows.laid_math_bits_deBruijn32tab), ("math/bits.deBruijn64tab", Rows.laid_math_bits_deBruijn64tab), ("math/big.leafSize", Rows.laid_math_big_leafSize), ("math/big.divRecursiveThreshold", Rows.laid_math_big_divRecursiveThreshold), ("math/big.karatsubaThreshold", Rows.laid_math_big_karatsubaThreshold), ("math/big.basicSqrThreshold", Rows.laid_math_big_basicSqrThreshold), ("math/big.karatsubaSqrThreshold", Rows.laid_math_big_karatsubaSqrThreshold)] w) ∧ sizedMet enc Tryz.prog Tryz.f5 (OpenSpec.ofChange Rows.quantSendsSpec) false w args)
      (Rows.quantSendsSpec.post enc Tryz.prog Tryz.f5 false true false false) := by
  refine returnsInHanded_of_change_and (C := Tryz.checked) (X := fun w _ => laidMetH Tryz.prog [("math/bits.deBruijn32tab", Rows.laid_math_bits_deBruijn32tab), ("math/bits.deBruijn64tab", Rows.laid_math_bits_deBruijn64tab), ("math/big.leafSize", Rows.laid_math_big_leafSize), ("math/big.divRecursiveThreshold", Rows.laid_math_big_divRecursiveThreshold), ("math/big.karatsubaThreshold", Rows.laid_math_big_karatsubaThreshold), ("math/big.basicSqrThreshold", Rows.laid_math_big_basicSqrThreshold), ("math/big.karatsubaSqrThreshold", Rows.laid_math_big_karatsubaSqrThreshold)] w) (fun _ _ _ hh h => h.of_heap hh) own started (by kernel_rfl) Tryz.func5
    (ChangeSpec.witness_shaped (enc := enc) (C := Tryz.checked) (os := os) (X := fun w _ => laidMetH Tryz.prog [("math/bits.deBruijn32tab", Rows.laid_math_bits_deBruijn32tab), ("math/bits.deBruijn64tab", Rows.laid_math_bits_deBruijn64tab), ("math/big.leafSize", Rows.laid_math_big_leafSize), ("math/big.divRecursiveThreshold", Rows.laid_math_big_divRecursiveThreshold), ("math/big.karatsubaThreshold", Rows.laid_math_big_karatsubaThreshold), ("math/big.basicSqrThreshold", Rows.laid_math_big_basicSqrThreshold), ("math/big.karatsubaSqrThreshold", Rows.laid_math_big_karatsubaSqrThreshold)] w) false (World.doorLaid Tryz.prog 1000 os) #[.agg #[.int .i64 0, .int .i64 0, .int .i64 0], .agg #[.int .i64 0, .int .i64 0, .int .i64 0], .agg #[.int .i64 0, .int .i64 0], .int .u8 0, .int .u8 0] 8 rfl (World.shaped_of_RefB (by kernel_rfl) (by kernel_rfl)) (by kernel_rfl) (by kernel_rfl) (by kernel_rfl) (door_met os _)) ?_
  intro W base args ds gs before hval0 hW _ _ hL _
  have hval : ∀ (j : Nat) t v, Tryz.f5.params[j]? = some t → args[j]? = some v → Value.okWide Tryz.prog W .any base t v := hval0
  have hW' := hW
  obtain ⟨p, q, hA0, hV, rfl, hfz, hnd⟩ := hW
  have hA : DataW.TrodAll enc Tryz.prog W 0 (fun _ => true) true Tryz.f5.params.toList args.toList ds p := hA0
  rw [Tryz.params5] at hA hval
  obtain ⟨v0, vs0, d0, ds0, p0, q0, hargs, rfl, rfl, h0, r0⟩ := trodAll_cons hA
  obtain ⟨v1, vs1, d1, ds1, p1, q1, rfl, rfl, rfl, h1, r1⟩ := trodAll_cons r0
  obtain ⟨v2, vs2, d2, ds2, p2, q2, rfl, rfl, rfl, h2, r2⟩ := trodAll_cons r1
  obtain ⟨v3, vs3, d3, ds3, p3, q3, rfl, rfl, rfl, h3, r3⟩ := trodAll_cons r2
  obtain ⟨v4, vs4, d4, ds4, p4, q4, rfl, rfl, rfl, h4, r4⟩ := trodAll_cons r3
  obtain ⟨rfl, rfl, rfl⟩ := trodAll_nil r4
  obtain rfl : args = #[v0, v1, v2, v3, v4] := by cases args; simp_all
  obtain ⟨rfl, rfl⟩ := trodVars_none hV
  have h0k := h0
  have h1k := h1
  have h2k := h2
  have h3k := h3
  have h4k := h4
  obtain ⟨c00, c01, c02, y00, y01, y02, m0, rfl, rfl, rfl, hy00, hy01, hy02⟩ := open_agg3 Tryz.underlying23 (by kernel_rfl) cellsG (hval 0 23 v0 rfl rfl) h0
  obtain ⟨a0, e0, rfl, w0⟩ := DataW.trod_int Tryz.underlying3 hy00
  simp at e0
  subst e0
  obtain ⟨a1, e1, rfl, w1⟩ := DataW.trod_int Tryz.underlying3 hy01
  simp at e1
  subst e1
  obtain ⟨a2, e2, rfl, w2⟩ := DataW.trod_int Tryz.underlying3 hy02
  simp at e2
  subst e2
  obtain ⟨c10, c11, c12, y10, y11, y12, m1, rfl, rfl, rfl, hy10, hy11, hy12⟩ := open_agg3 Tryz.underlying23 (by kernel_rfl) cellsG (hval 1 23 v1 rfl rfl) h1
  obtain ⟨a3, e3, rfl, w3⟩ := DataW.trod_int Tryz.underlying3 hy10
  simp at e3
  subst e3
  obtain ⟨a4, e4, rfl, w4⟩ := DataW.trod_int Tryz.underlying3 hy11
  simp at e4
  subst e4
  obtain ⟨a5, e5, rfl, w5⟩ := DataW.trod_int Tryz.underlying3 hy12
  simp at e5
  subst e5
  obtain ⟨c20, c21, y20, y21, m2, rfl, rfl, rfl, hy20, hy21⟩ := open_agg2 Tryz.underlying58 (by kernel_rfl) cellsV (hval 2 58 v2 rfl rfl) h2
  obtain ⟨a6, e6, rfl, w6⟩ := DataW.trod_int Tryz.underlying3 hy20
  simp at e6
  subst e6
  obtain ⟨a7, e7, rfl, w7⟩ := DataW.trod_int Tryz.underlying3 hy21
  simp at e7
  subst e7
  obtain ⟨a8, rfl, rfl, rfl, w8⟩ := open_int Tryz.underlying5 (hval 3 5 v3 rfl rfl) h3
  obtain ⟨a9, rfl, rfl, rfl, w9⟩ := open_int Tryz.underlying5 (hval 4 5 v4 rfl rfl) h4
  clear hA0 hval0
  simp only [List.append_nil] at hW'
  refine (walk_QuantSends a0 a1 a2 a3 a4 a5 a6 a7 a8 a9 (wf_i64o w6) (wf_i64o w7) (wf_u8o w8) (wf_u8o w9) W).mono fun e W' ⟨he, hg⟩ => ?_
  subst he
  exact ⟨_, rfl, law_post (pa := []) (pv := []) hW' hg (fun _ _ _ => (trodAll_cons_mk (shut_bool Tryz.underlying4 _) trodAll_mk0)) (fun sp _ => (trodAll_cons_mk (WideElems.Trod_stays laid (by kernel_rfl) (of_decide_eq_true (by kernel_rfl)) h0k (fun x hx => absurd hx (List.not_mem_nil)) (fun x hx => absurd hx (List.not_mem_nil))) (trodAll_cons_mk (WideElems.Trod_stays laid (by kernel_rfl) (of_decide_eq_true (by kernel_rfl)) h1k (fun x hx => absurd hx (List.not_mem_nil)) (fun x hx => absurd hx (List.not_mem_nil))) (trodAll_cons_mk (WideElems.Trod_stays laid (by kernel_rfl) (of_decide_eq_true (by kernel_rfl)) h2k (fun x hx => absurd hx (List.not_mem_nil)) (fun x hx => absurd hx (List.not_mem_nil))) (trodAll_cons_mk (WideElems.Trod_stays laid (by kernel_rfl) (of_decide_eq_true (by kernel_rfl)) h3k (fun x hx => absurd hx (List.not_mem_nil)) (fun x hx => absurd hx (List.not_mem_nil))) (trodAll_cons_mk (WideElems.Trod_stays laid (by kernel_rfl) (of_decide_eq_true (by kernel_rfl)) h4k (fun x hx => absurd hx (List.not_mem_nil)) (fun x hx => absurd hx (List.not_mem_nil))) trodAll_mk0)))))) (fun _ _ => rfl)⟩

theorem k0 : (Rows.quantSendsRow.wf (OpenSpec.ofChange Rows.quantSendsSpec) : Bool) = true := by kernel_rfl
theorem k3 : (Tryz.f5.params.all (Tryz.pinned.checked.prog.readableRec ·) : Bool) = true := by kernel_rfl
theorem k4 : (namedTie Tryz.pinned.checked.prog Rows.quantSendsRow.named Rows.quantSendsSpec.vars : Bool) = true := by kernel_rfl
theorem k5 : ((Rows.quantSendsRow.stops == []) : Bool) = true := by kernel_rfl
theorem k7 : ((Rows.quantSendsRow.knobs == []) : Bool) = true := by kernel_rfl
theorem k9 : ((Rows.quantSendsRow.inPlace == Tryz.pinned.checked.prog.inPlace 5) : Bool) = true := by kernel_rfl
theorem k10 : ((Rows.quantSendsRow.unfollowed == Tryz.pinned.checked.prog.unfollowed 5) : Bool) = true := by kernel_rfl
theorem k11 : ((Rows.quantSendsRow.recurses == Tryz.pinned.checked.prog.recurses 5) : Bool) = true := by kernel_rfl
theorem k12 : ((Rows.quantSendsRow.named == Tryz.pinned.checked.prog.varsNamed 5) : Bool) = true := by kernel_rfl
theorem k13 : ((Rows.quantSendsRow.maps == (Tryz.f5.params.toList ++ Rows.quantSendsSpec.plain.varTypes Tryz.pinned.checked.prog).any (Tryz.pinned.checked.prog.mapsRec ·)) : Bool) = true := by kernel_rfl
theorem k14 : ((Rows.quantSendsRow.ifaces == (Tryz.f5.params.toList ++ Rows.quantSendsSpec.plain.varTypes Tryz.pinned.checked.prog).any (Tryz.pinned.checked.prog.ifacesRec ·)) : Bool) = true := by kernel_rfl
theorem k15 : ((Rows.quantSendsRow.mapsOut == Tryz.pinned.checked.prog.mapsAmong Tryz.f5.resultTypes.toList) : Bool) = true := by kernel_rfl
theorem k16 : ((Rows.quantSendsRow.loops == (Tryz.f5.params.toList ++ Rows.quantSendsSpec.plain.varTypes Tryz.pinned.checked.prog).any (Tryz.pinned.checked.prog.loopsFrom ·)) : Bool) = true := by kernel_rfl
theorem k17 : ((Rows.quantSendsRow.wideKeys == (Tryz.f5.params.toList ++ Rows.quantSendsSpec.plain.varTypes Tryz.pinned.checked.prog ++ Tryz.f5.resultTypes.toList).any (Tryz.pinned.checked.prog.wideKeysFrom ·)) : Bool) = true := by kernel_rfl
theorem k18 : (Rows.quantSendsSpec.vars.all (Tryz.pinned.checked.prog.varReadable ·) : Bool) = true := by kernel_rfl
theorem k19 : (Tryz.f5.resultTypes.all (fun t => Tryz.pinned.checked.prog.readableRec t && decide (t < Tryz.pinned.checked.prog.types.size)) : Bool) = true := by kernel_rfl
theorem k20 : ((Rows.quantSendsRow.ifacesOut == Tryz.f5.resultTypes.toList.any (Tryz.pinned.checked.prog.ifacesRec ·)) : Bool) = true := by kernel_rfl
theorem k21 : ((Rows.quantSendsRow.loopsOut == Tryz.f5.resultTypes.toList.any (Tryz.pinned.checked.prog.loopsFrom ·)) : Bool) = true := by kernel_rfl
theorem k23 : (Rows.quantSendsRow.shortTexts.isNone : Bool) = true := by kernel_rfl
theorem k29 : ((Rows.quantSendsRow.pinned == Rows.quantSendsRow.pinnedBy) : Bool) = true := by kernel_rfl
theorem k30 : ((Rows.quantSendsRow.veiled == (Tryz.f5.params.toList ++ Rows.quantSendsSpec.plain.varTypes Tryz.pinned.checked.prog ++ Tryz.f5.resultTypes.toList).any (Tryz.pinned.checked.prog.veiledRec ·)) : Bool) = true := by kernel_rfl
theorem k31 : (Rows.quantSendsRow.veiledFits Tryz.pinned.checked.prog Tryz.f5.params.toList (Tryz.f5.params.toList ++ Rows.quantSendsSpec.plain.varTypes Tryz.pinned.checked.prog ++ Tryz.f5.resultTypes.toList) : Bool) = true := by kernel_rfl
theorem closed : joinedFacts Tryz.pinned.checked.prog 5 Tryz.f5 Rows.quantSendsSpec Rows.quantSendsRow = true := (and_tt (and_tt (and_tt (and_tt (and_tt (and_tt (and_tt (and_tt (and_tt (and_tt (and_tt (and_tt (and_tt (and_tt (and_tt (and_tt (and_tt (and_tt (and_tt (and_tt (and_tt (and_tt (and_tt (and_tt (and_tt (and_tt (and_tt (and_tt (and_tt (and_tt (and_tt k0 fact1) fact2) k3) k4) k5) fact6) k7) fact8) k9) k10) k11) k12) k13) k14) k15) k16) k17) k18) k19) k20) k21) fact22) k23) fact24) fact25) fact26) fact27) (by kernel_rfl)) k29) k30) k31)
theorem named : Tryz.pinned.checked.prog.funcNamed Rows.quantSendsRow.func = some 5 := by kernel_rfl
theorem inst : Tryz.f5.isInstance Tryz.pinned.checked.prog Rows.quantSendsRow.origin Rows.quantSendsRow.targs := of_decide_eq_true (by kernel_rfl)
theorem wrap : Tryz.f5.isWrapper Tryz.pinned.checked.prog Rows.quantSendsRow.wrapper Rows.quantSendsRow.mainSum := by
  unfold Func.isWrapper
  first | (rw [if_pos (by decide +kernel)]; kernel_rfl) | (rw [if_neg (by decide +kernel)]; exact ⟨rfl, rfl⟩)
theorem over : Rows.quantSendsRow.holds Tryz.pinned (OpenSpec.ofChange Rows.quantSendsSpec) :=
  OpenClaim.holds_of_wide 5 Tryz.f5 rfl rfl rfl rfl rfl rfl rfl ⟨rfl, rfl, rfl, rfl, rfl⟩ rfl rfl rfl rfl rfl named Tryz.func5 closed inst wrap
    (fun os started H enc _ => lifted os started H enc)
theorem card_holds : Claim7.holds Tryz.pinned (.plain (OpenSpec.ofChange Rows.quantSendsSpec)) Rows.quantSendsCard :=
  Claim7.holds_tied_plain_at .later [] [.data, .data, .data, .data, .data, .data, .data] true (true, "61727df975015729602ed47df38ccbdec7b81ca75035d99823f35858524f04f9") true
    over (fun _ h => by cases h) (by kernel_rfl) (fun _ h => by cases h) quantSends_row_tie rfl ⟨rfl, rfl⟩ (by kernel_rfl) rfl
    (fun f fn hf hfn => by
      obtain rfl : f = 5 := Option.some.inj (named.symm.trans hf) |>.symm
      obtain rfl : fn = Tryz.f5 := (Option.some.inj (Tryz.func5.symm.trans hfn)).symm
      exact ⟨by kernel_rfl, fun j t ht => by
        rw [Tryz.params5] at ht
        match j, ht with
        | 0, ht =>
          obtain rfl : t = 23 := by simpa using ht.symm
          exact (show Tryz.prog.wantsStandIn 23 = false by kernel_rfl)
        | 1, ht =>
          obtain rfl : t = 23 := by simpa using ht.symm
          exact (show Tryz.prog.wantsStandIn 23 = false by kernel_rfl)
        | 2, ht =>
          obtain rfl : t = 58 := by simpa using ht.symm
          exact (show Tryz.prog.wantsStandIn 58 = false by kernel_rfl)
        | 3, ht =>
          obtain rfl : t = 5 := by simpa using ht.symm
          exact (show Tryz.prog.wantsStandIn 5 = false by kernel_rfl)
        | 4, ht =>
          obtain rfl : t = 5 := by simpa using ht.symm
          exact (show Tryz.prog.wantsStandIn 5 = false by kernel_rfl)
        | j + 5, ht => simp at ht⟩)
    (by kernel_rfl)
end Go.Proofs.YtghfggfgndgkjaaGreatDoor.quantSends
namespace Go.Proofs.YtghfggfgndgkjaaGreatDoor
theorem quantSends_holds : Rows.QuantSendsCardSaid := quantSends.card_holds
end Go.Proofs.YtghfggfgndgkjaaGreatDoor
