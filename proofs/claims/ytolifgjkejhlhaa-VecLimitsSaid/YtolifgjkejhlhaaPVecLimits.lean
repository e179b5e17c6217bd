/-
  VecLimits: the call returns true for every input; nothing that was there is written. The frame of the row is the kit's; the walk is YtolifgjkejhlhaaLVecLimits's.
-/
import Derived.Test.YtolifgjkejhlhaaRows
import Derived.Test.YtolifgjkejhlhaaLawKit
import Derived.Test.YtolifgjkejhlhaaFacts
import Derived.Test.YtolifgjkejhlhaaLVecLimits
import Derived.WalkKit
import Derived.ProofKit
import Derived.OpenShut
namespace Go.Proofs.Ytolifgjkejhlhaa.vecLimits
open Go.ChangeShapes Go.WideShapes Go.ChangeAt Go.RowKit
set_option linter.unusedVariables false      -- a walk need not use every 'w<i>' (that an integer argument fits its kind)

theorem own : ownKnob Try.prog.godebug = none := by kernel_rfl

/-! ### THE ROW's STEP: WRITTEN OUT: LEAVE IT -/
set_option maxRecDepth 100000 in
theorem lifted (os : Os) (started : os.Started) (H : Type) (enc : TypeId × Value → H) :
    ReturnsInHanded {} Try.checked os 18 .any (Rows.vecLimitsSpec.pre6 enc Try.prog Try.f18 Rows.vecLimitsRow.domain false) (Rows.vecLimitsSpec.post enc Try.prog Try.f18 false true false false) := by
  refine returnsInHanded_of_change (C := Try.checked) own started (by kernel_rfl) Try.func18
    (ChangeSpec.witness6 (enc := enc) (C := Try.checked) false ⟨#[], #[.int .i32 0, .int .i32 0, .int .u32 0], []⟩ 8 (by kernel_rfl) (by kernel_rfl) (by kernel_rfl) (by kernel_rfl)) ?_
  intro W base args ds gs before hval0 hW hcnd _
  have hval : ∀ (j : Nat) t v, Try.f18.params[j]? = some t → args[j]? = some v → Value.okWide Try.prog W .any base t v := hval0
  have hW' := hW
  obtain ⟨p, q, hA0, hV, rfl, hfz, hnd⟩ := hW
  have hA : DataW.TrodAll enc Try.prog W 0 (fun _ => true) true Try.f18.params.toList args.toList ds p := hA0
  rw [Try.params18] at hA hval
  obtain ⟨v0, vs0, d0, ds0, p0, q0, hargs, rfl, rfl, h0, r0⟩ := trodAll_cons hA
  obtain ⟨v1, vs1, d1, ds1, p1, q1, rfl, rfl, rfl, h1, r1⟩ := trodAll_cons r0
  obtain ⟨v2, vs2, d2, ds2, p2, q2, rfl, rfl, rfl, h2, r2⟩ := trodAll_cons r1
  obtain ⟨rfl, rfl, rfl⟩ := trodAll_nil r2
  obtain rfl : args = #[v0, v1, v2] := by cases args; simp_all
  obtain ⟨rfl, rfl⟩ := trodVars_none hV
  obtain ⟨a0, rfl, rfl, rfl, w0⟩ := open_int Try.underlying21 (hval 0 21 v0 rfl rfl) h0
  obtain ⟨a1, rfl, rfl, rfl, w1⟩ := open_int Try.underlying21 (hval 1 21 v1 rfl rfl) h1
  obtain ⟨a2, rfl, rfl, rfl, w2⟩ := open_int Try.underlying30 (hval 2 30 v2 rfl rfl) h2
  clear hA0 hval0
  simp only [List.append_nil] at hW'
  refine (walk_VecLimits a0 a1 a2 w0 w1 w2 W).mono fun e W' ⟨he, hg⟩ => ?_
  subst he
  exact ⟨_, rfl, law_post (pa := []) (pv := []) hW' hg (fun _ _ _ => (trodAll_cons_mk (shut_bool Try.underlying4 _) trodAll_mk0)) (fun sp _ => (trodAll_cons_mk (shut_int Try.underlying21 w0) (trodAll_cons_mk (shut_int Try.underlying21 w1) (trodAll_cons_mk (shut_int Try.underlying30 w2) trodAll_mk0)))) (fun _ _ => rfl)⟩

theorem k0 : (Rows.vecLimitsRow.wf (OpenSpec.ofChange Rows.vecLimitsSpec) : Bool) = true := by kernel_rfl
theorem k3 : (Try.f18.params.all (Try.pinned.checked.prog.readableRec ·) : Bool) = true := by kernel_rfl
theorem k4 : (namedTie Try.pinned.checked.prog Rows.vecLimitsRow.named Rows.vecLimitsSpec.vars : Bool) = true := by kernel_rfl
theorem k5 : ((Rows.vecLimitsRow.stops == []) : Bool) = true := by kernel_rfl
theorem k7 : ((Rows.vecLimitsRow.knobs == []) : Bool) = true := by kernel_rfl
theorem k9 : ((Rows.vecLimitsRow.inPlace == Try.pinned.checked.prog.inPlace 18) : Bool) = true := by kernel_rfl
theorem k10 : ((Rows.vecLimitsRow.unfollowed == Try.pinned.checked.prog.unfollowed 18) : Bool) = true := by kernel_rfl
theorem k11 : ((Rows.vecLimitsRow.recurses == Try.pinned.checked.prog.recurses 18) : Bool) = true := by kernel_rfl
theorem k12 : ((Rows.vecLimitsRow.named == Try.pinned.checked.prog.varsNamed 18) : Bool) = true := by kernel_rfl
theorem k13 : ((Rows.vecLimitsRow.maps == (Try.f18.params.toList ++ Rows.vecLimitsSpec.plain.varTypes Try.pinned.checked.prog).any (Try.pinned.checked.prog.mapsRec ·)) : Bool) = true := by kernel_rfl
theorem k14 : ((Rows.vecLimitsRow.ifaces == (Try.f18.params.toList ++ Rows.vecLimitsSpec.plain.varTypes Try.pinned.checked.prog).any (Try.pinned.checked.prog.ifacesRec ·)) : Bool) = true := by kernel_rfl
theorem k15 : ((Rows.vecLimitsRow.mapsOut == Try.pinned.checked.prog.mapsAmong Try.f18.resultTypes.toList) : Bool) = true := by kernel_rfl
theorem k16 : ((Rows.vecLimitsRow.loops == (Try.f18.params.toList ++ Rows.vecLimitsSpec.plain.varTypes Try.pinned.checked.prog).any (Try.pinned.checked.prog.loopsFrom ·)) : Bool) = true := by kernel_rfl
theorem k17 : ((Rows.vecLimitsRow.wideKeys == (Try.f18.params.toList ++ Rows.vecLimitsSpec.plain.varTypes Try.pinned.checked.prog ++ Try.f18.resultTypes.toList).any (Try.pinned.checked.prog.wideKeysFrom ·)) : Bool) = true := by kernel_rfl
theorem k18 : (Rows.vecLimitsSpec.vars.all (Try.pinned.checked.prog.varReadable ·) : Bool) = true := by kernel_rfl
theorem k19 : (Try.f18.resultTypes.all (fun t => Try.pinned.checked.prog.readableRec t && decide (t < Try.pinned.checked.prog.types.size)) : Bool) = true := by kernel_rfl
theorem k20 : ((Rows.vecLimitsRow.ifacesOut == Try.f18.resultTypes.toList.any (Try.pinned.checked.prog.ifacesRec ·)) : Bool) = true := by kernel_rfl
theorem k21 : ((Rows.vecLimitsRow.loopsOut == Try.f18.resultTypes.toList.any (Try.pinned.checked.prog.loopsFrom ·)) : Bool) = true := by kernel_rfl
theorem k23 : (Rows.vecLimitsRow.shortTexts.isNone : Bool) = true := by kernel_rfl
theorem k29 : ((Rows.vecLimitsRow.pinned == Rows.vecLimitsRow.pinnedBy) : Bool) = true := by kernel_rfl
theorem k30 : ((Rows.vecLimitsRow.veiled == (Try.f18.params.toList ++ Rows.vecLimitsSpec.plain.varTypes Try.pinned.checked.prog ++ Try.f18.resultTypes.toList).any (Try.pinned.checked.prog.veiledRec ·)) : Bool) = true := by kernel_rfl
theorem k31 : (Rows.vecLimitsRow.veiledFits Try.pinned.checked.prog Try.f18.params.toList (Try.f18.params.toList ++ Rows.vecLimitsSpec.plain.varTypes Try.pinned.checked.prog ++ Try.f18.resultTypes.toList) : Bool) = true := by kernel_rfl
theorem closed : joinedFacts Try.pinned.checked.prog 18 Try.f18 Rows.vecLimitsSpec Rows.vecLimitsRow = true := (and_tt (and_tt (and_tt (and_tt (and_tt (and_tt (and_tt (and_tt (and_tt (and_tt (and_tt (and_tt (and_tt (and_tt (and_tt (and_tt (and_tt (and_tt (and_tt (and_tt (and_tt (and_tt (and_tt (and_tt (and_tt (and_tt (and_tt (and_tt (and_tt (and_tt (and_tt k0 fact1) fact2) k3) k4) k5) fact6) k7) fact8) k9) k10) k11) k12) k13) k14) k15) k16) k17) k18) k19) k20) k21) fact22) k23) fact24) fact25) fact26) fact27) (by kernel_rfl)) k29) k30) k31)
theorem named : Try.pinned.checked.prog.funcNamed Rows.vecLimitsRow.func = some 18 := by kernel_rfl
theorem inst : Try.f18.isInstance Try.pinned.checked.prog Rows.vecLimitsRow.origin Rows.vecLimitsRow.targs := of_decide_eq_true (by kernel_rfl)
theorem wrap : Try.f18.isWrapper Try.pinned.checked.prog Rows.vecLimitsRow.wrapper Rows.vecLimitsRow.mainSum := by
  unfold Func.isWrapper
  first | (rw [if_pos (by decide +kernel)]; kernel_rfl) | (rw [if_neg (by decide +kernel)]; exact ⟨rfl, rfl⟩)

theorem over : Rows.vecLimitsRow.holds Try.pinned (OpenSpec.ofChange Rows.vecLimitsSpec) :=
  OpenClaim.holds_of_wide 18 Try.f18 rfl rfl rfl rfl rfl rfl rfl ⟨rfl, rfl, rfl, rfl, rfl⟩ rfl rfl rfl rfl rfl named Try.func18 closed inst wrap
    (fun os started H enc _ => lifted os started H enc)

/-- ████ THE STATEMENT ████ -/
theorem proved : Rows.VecLimitsSaid :=
  over
end Go.Proofs.Ytolifgjkejhlhaa.vecLimits
namespace Go.Proofs.Ytolifgjkejhlhaa
theorem vecLimits_holds : Rows.VecLimitsSaid := vecLimits.proved
end Go.Proofs.Ytolifgjkejhlhaa
