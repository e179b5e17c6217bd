/-
  VecArrives: the call returns true for every input; nothing that was there is written. The frame of the row is the kit's; the walk is YtolifgjkejhlhaaLVecArrives's.
-/
import Derived.Test.YtolifgjkejhlhaaRows
import Derived.Test.YtolifgjkejhlhaaLawKit
import Derived.Test.YtolifgjkejhlhaaFacts
import Derived.Test.YtolifgjkejhlhaaLVecArrives
import Derived.WalkKit
import Derived.ProofKit
import Derived.OpenShut
namespace Go.Proofs.Ytolifgjkejhlhaa.vecArrives
open Go.ChangeShapes Go.WideShapes Go.ChangeAt Go.RowKit
set_option linter.unusedVariables false      -- a walk need not use every 'w<i>' (that an integer argument fits its kind)

theorem own : ownKnob Try.prog.godebug = none := by kernel_rfl

/-! ### THE ROW's STEP: WRITTEN OUT: LEAVE IT -/
set_option maxRecDepth 100000 in
theorem lifted (os : Os) (started : os.Started) (H : Type) (enc : TypeId × Value → H) :
    ReturnsInHanded {} Try.checked os 20 .any (Rows.vecArrivesSpec.pre6 enc Try.prog Try.f20 Rows.vecArrivesRow.domain false) (Rows.vecArrivesSpec.post enc Try.prog Try.f20 false true false false) := by
  refine returnsInHanded_of_change (C := Try.checked) own started (by kernel_rfl) Try.func20
    (ChangeSpec.witness6 (enc := enc) (C := Try.checked) false ⟨#[], #[.int .i32 0, .int .i32 0, .int .i32 0, .int .i32 0, .int .u16 0], []⟩ 8 (by kernel_rfl) (by kernel_rfl) (by kernel_rfl) (by kernel_rfl)) ?_
  intro W base args ds gs before hval0 hW hcnd _
  have hval : ∀ (j : Nat) t v, Try.f20.params[j]? = some t → args[j]? = some v → Value.okWide Try.prog W .any base t v := hval0
  have hW' := hW
  obtain ⟨p, q, hA0, hV, rfl, hfz, hnd⟩ := hW
  have hA : DataW.TrodAll enc Try.prog W 0 (fun _ => true) true Try.f20.params.toList args.toList ds p := hA0
  rw [Try.params20] at hA hval
  obtain ⟨v0, vs0, d0, ds0, p0, q0, hargs, rfl, rfl, h0, r0⟩ := trodAll_cons hA
  obtain ⟨v1, vs1, d1, ds1, p1, q1, rfl, rfl, rfl, h1, r1⟩ := trodAll_cons r0
  obtain ⟨v2, vs2, d2, ds2, p2, q2, rfl, rfl, rfl, h2, r2⟩ := trodAll_cons r1
  obtain ⟨v3, vs3, d3, ds3, p3, q3, rfl, rfl, rfl, h3, r3⟩ := trodAll_cons r2
  obtain ⟨v4, vs4, d4, ds4, p4, q4, rfl, rfl, rfl, h4, r4⟩ := trodAll_cons r3
  obtain ⟨rfl, rfl, rfl⟩ := trodAll_nil r4
  obtain rfl : args = #[v0, v1, v2, v3, v4] := by cases args; simp_all
  obtain ⟨rfl, rfl⟩ := trodVars_none hV
  obtain ⟨a0, rfl, rfl, rfl, w0⟩ := open_int Try.underlying21 (hval 0 21 v0 rfl rfl) h0
  obtain ⟨a1, rfl, rfl, rfl, w1⟩ := open_int Try.underlying21 (hval 1 21 v1 rfl rfl) h1
  obtain ⟨a2, rfl, rfl, rfl, w2⟩ := open_int Try.underlying21 (hval 2 21 v2 rfl rfl) h2
  obtain ⟨a3, rfl, rfl, rfl, w3⟩ := open_int Try.underlying21 (hval 3 21 v3 rfl rfl) h3
  obtain ⟨a4, rfl, rfl, rfl, w4⟩ := open_int Try.underlying27 (hval 4 27 v4 rfl rfl) h4
  clear hA0 hval0
  simp only [List.append_nil] at hW'
  refine (walk_VecArrives a0 a1 a2 a3 a4 w0 w1 w2 w3 w4 W).mono fun e W' ⟨he, hg⟩ => ?_
  subst he
  exact ⟨_, rfl, law_post (pa := []) (pv := []) hW' hg (fun _ _ _ => (trodAll_cons_mk (shut_bool Try.underlying4 _) trodAll_mk0)) (fun sp _ => (trodAll_cons_mk (shut_int Try.underlying21 w0) (trodAll_cons_mk (shut_int Try.underlying21 w1) (trodAll_cons_mk (shut_int Try.underlying21 w2) (trodAll_cons_mk (shut_int Try.underlying21 w3) (trodAll_cons_mk (shut_int Try.underlying27 w4) trodAll_mk0)))))) (fun _ _ => rfl)⟩

theorem k0 : (Rows.vecArrivesRow.wf (OpenSpec.ofChange Rows.vecArrivesSpec) : Bool) = true := by kernel_rfl
theorem k3 : (Try.f20.params.all (Try.pinned.checked.prog.readableRec ·) : Bool) = true := by kernel_rfl
theorem k4 : (namedTie Try.pinned.checked.prog Rows.vecArrivesRow.named Rows.vecArrivesSpec.vars : Bool) = true := by kernel_rfl
theorem k5 : ((Rows.vecArrivesRow.stops == []) : Bool) = true := by kernel_rfl
theorem k7 : ((Rows.vecArrivesRow.knobs == []) : Bool) = true := by kernel_rfl
theorem k9 : ((Rows.vecArrivesRow.inPlace == Try.pinned.checked.prog.inPlace 20) : Bool) = true := by kernel_rfl
theorem k10 : ((Rows.vecArrivesRow.unfollowed == Try.pinned.checked.prog.unfollowed 20) : Bool) = true := by kernel_rfl
theorem k11 : ((Rows.vecArrivesRow.recurses == Try.pinned.checked.prog.recurses 20) : Bool) = true := by kernel_rfl
theorem k12 : ((Rows.vecArrivesRow.named == Try.pinned.checked.prog.varsNamed 20) : Bool) = true := by kernel_rfl
theorem k13 : ((Rows.vecArrivesRow.maps == (Try.f20.params.toList ++ Rows.vecArrivesSpec.plain.varTypes Try.pinned.checked.prog).any (Try.pinned.checked.prog.mapsRec ·)) : Bool) = true := by kernel_rfl
theorem k14 : ((Rows.vecArrivesRow.ifaces == (Try.f20.params.toList ++ Rows.vecArrivesSpec.plain.varTypes Try.pinned.checked.prog).any (Try.pinned.checked.prog.ifacesRec ·)) : Bool) = true := by kernel_rfl
theorem k15 : ((Rows.vecArrivesRow.mapsOut == Try.pinned.checked.prog.mapsAmong Try.f20.resultTypes.toList) : Bool) = true := by kernel_rfl
theorem k16 : ((Rows.vecArrivesRow.loops == (Try.f20.params.toList ++ Rows.vecArrivesSpec.plain.varTypes Try.pinned.checked.prog).any (Try.pinned.checked.prog.loopsFrom ·)) : Bool) = true := by kernel_rfl
theorem k17 : ((Rows.vecArrivesRow.wideKeys == (Try.f20.params.toList ++ Rows.vecArrivesSpec.plain.varTypes Try.pinned.checked.prog ++ Try.f20.resultTypes.toList).any (Try.pinned.checked.prog.wideKeysFrom ·)) : Bool) = true := by kernel_rfl
theorem k18 : (Rows.vecArrivesSpec.vars.all (Try.pinned.checked.prog.varReadable ·) : Bool) = true := by kernel_rfl
theorem k19 : (Try.f20.resultTypes.all (fun t => Try.pinned.checked.prog.readableRec t && decide (t < Try.pinned.checked.prog.types.size)) : Bool) = true := by kernel_rfl
theorem k20 : ((Rows.vecArrivesRow.ifacesOut == Try.f20.resultTypes.toList.any (Try.pinned.checked.prog.ifacesRec ·)) : Bool) = true := by kernel_rfl
theorem k21 : ((Rows.vecArrivesRow.loopsOut == Try.f20.resultTypes.toList.any (Try.pinned.checked.prog.loopsFrom ·)) : Bool) = true := by kernel_rfl
theorem k23 : (Rows.vecArrivesRow.shortTexts.isNone : Bool) = true := by kernel_rfl
theorem k29 : ((Rows.vecArrivesRow.pinned == Rows.vecArrivesRow.pinnedBy) : Bool) = true := by kernel_rfl
theorem k30 : ((Rows.vecArrivesRow.veiled == (Try.f20.params.toList ++ Rows.vecArrivesSpec.plain.varTypes Try.pinned.checked.prog ++ Try.f20.resultTypes.toList).any (Try.pinned.checked.prog.veiledRec ·)) : Bool) = true := by kernel_rfl
theorem k31 : (Rows.vecArrivesRow.veiledFits Try.pinned.checked.prog Try.f20.params.toList (Try.f20.params.toList ++ Rows.vecArrivesSpec.plain.varTypes Try.pinned.checked.prog ++ Try.f20.resultTypes.toList) : Bool) = true := by kernel_rfl
theorem closed : joinedFacts Try.pinned.checked.prog 20 Try.f20 Rows.vecArrivesSpec Rows.vecArrivesRow = true := (and_tt (and_tt (and_tt (and_tt (and_tt (and_tt (and_tt (and_tt (and_tt (and_tt (and_tt (and_tt (and_tt (and_tt (and_tt (and_tt (and_tt (and_tt (and_tt (and_tt (and_tt (and_tt (and_tt (and_tt (and_tt (and_tt (and_tt (and_tt (and_tt (and_tt (and_tt k0 fact1) fact2) k3) k4) k5) fact6) k7) fact8) k9) k10) k11) k12) k13) k14) k15) k16) k17) k18) k19) k20) k21) fact22) k23) fact24) fact25) fact26) fact27) (by kernel_rfl)) k29) k30) k31)
theorem named : Try.pinned.checked.prog.funcNamed Rows.vecArrivesRow.func = some 20 := by kernel_rfl
theorem inst : Try.f20.isInstance Try.pinned.checked.prog Rows.vecArrivesRow.origin Rows.vecArrivesRow.targs := of_decide_eq_true (by kernel_rfl)
theorem wrap : Try.f20.isWrapper Try.pinned.checked.prog Rows.vecArrivesRow.wrapper Rows.vecArrivesRow.mainSum := by
  unfold Func.isWrapper
  first | (rw [if_pos (by decide +kernel)]; kernel_rfl) | (rw [if_neg (by decide +kernel)]; exact ⟨rfl, rfl⟩)

theorem over : Rows.vecArrivesRow.holds Try.pinned (OpenSpec.ofChange Rows.vecArrivesSpec) :=
  OpenClaim.holds_of_wide 20 Try.f20 rfl rfl rfl rfl rfl rfl rfl ⟨rfl, rfl, rfl, rfl, rfl⟩ rfl rfl rfl rfl rfl named Try.func20 closed inst wrap
    (fun os started H enc _ => lifted os started H enc)

/-- ████ THE STATEMENT ████ -/
theorem proved : Rows.VecArrivesSaid :=
  over
end Go.Proofs.Ytolifgjkejhlhaa.vecArrives
namespace Go.Proofs.Ytolifgjkejhlhaa
theorem vecArrives_holds : Rows.VecArrivesSaid := vecArrives.proved
end Go.Proofs.Ytolifgjkejhlhaa
