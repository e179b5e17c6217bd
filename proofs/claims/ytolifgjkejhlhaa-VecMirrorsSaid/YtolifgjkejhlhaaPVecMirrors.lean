/-
  VecMirrors: the call returns true for every input; nothing that was there is written. The frame of the row is the kit's; the walk is YtolifgjkejhlhaaLVecMirrors's.
-/
import Derived.Test.YtolifgjkejhlhaaRows
import Derived.Test.YtolifgjkejhlhaaLawKit
import Derived.Test.YtolifgjkejhlhaaFacts
import Derived.Test.YtolifgjkejhlhaaLVecMirrors
import Derived.WalkKit
import Derived.ProofKit
import Derived.OpenShut
namespace Go.Proofs.Ytolifgjkejhlhaa.vecMirrors
open Go.ChangeShapes Go.WideShapes Go.ChangeAt Go.RowKit
set_option linter.unusedVariables false      -- a walk need not use every 'w<i>' (that an integer argument fits its kind)

theorem own : ownKnob Try.prog.godebug = none := by kernel_rfl

/-! ### THE ROW's STEP: WRITTEN OUT: LEAVE IT -/
set_option maxRecDepth 100000 in
theorem lifted (os : Os) (started : os.Started) (H : Type) (enc : TypeId × Value → H) :
    ReturnsInHanded {} Try.checked os 16 .any (Rows.vecMirrorsSpec.pre6 enc Try.prog Try.f16 Rows.vecMirrorsRow.domain false) (Rows.vecMirrorsSpec.post enc Try.prog Try.f16 false true false false) := by
  refine returnsInHanded_of_change (C := Try.checked) own started (by kernel_rfl) Try.func16
    (ChangeSpec.witness6 (enc := enc) (C := Try.checked) false ⟨#[], #[.int .i32 0, .int .i32 0, .int .i32 0, .int .i32 0, .int .i32 0, .int .i32 0, .int .i64 0], []⟩ 8 (by kernel_rfl) (by kernel_rfl) (by kernel_rfl) (by kernel_rfl)) ?_
  intro W base args ds gs before hval0 hW hcnd _
  have hval : ∀ (j : Nat) t v, Try.f16.params[j]? = some t → args[j]? = some v → Value.okWide Try.prog W .any base t v := hval0
  have hW' := hW
  obtain ⟨p, q, hA0, hV, rfl, hfz, hnd⟩ := hW
  have hA : DataW.TrodAll enc Try.prog W 0 (fun _ => true) true Try.f16.params.toList args.toList ds p := hA0
  rw [Try.params16] at hA hval
  obtain ⟨v0, vs0, d0, ds0, p0, q0, hargs, rfl, rfl, h0, r0⟩ := trodAll_cons hA
  obtain ⟨v1, vs1, d1, ds1, p1, q1, rfl, rfl, rfl, h1, r1⟩ := trodAll_cons r0
  obtain ⟨v2, vs2, d2, ds2, p2, q2, rfl, rfl, rfl, h2, r2⟩ := trodAll_cons r1
  obtain ⟨v3, vs3, d3, ds3, p3, q3, rfl, rfl, rfl, h3, r3⟩ := trodAll_cons r2
  obtain ⟨v4, vs4, d4, ds4, p4, q4, rfl, rfl, rfl, h4, r4⟩ := trodAll_cons r3
  obtain ⟨v5, vs5, d5, ds5, p5, q5, rfl, rfl, rfl, h5, r5⟩ := trodAll_cons r4
  obtain ⟨v6, vs6, d6, ds6, p6, q6, rfl, rfl, rfl, h6, r6⟩ := trodAll_cons r5
  obtain ⟨rfl, rfl, rfl⟩ := trodAll_nil r6
  obtain rfl : args = #[v0, v1, v2, v3, v4, v5, v6] := by cases args; simp_all
  obtain ⟨rfl, rfl⟩ := trodVars_none hV
  obtain ⟨a0, rfl, rfl, rfl, w0⟩ := open_int Try.underlying21 (hval 0 21 v0 rfl rfl) h0
  obtain ⟨a1, rfl, rfl, rfl, w1⟩ := open_int Try.underlying21 (hval 1 21 v1 rfl rfl) h1
  obtain ⟨a2, rfl, rfl, rfl, w2⟩ := open_int Try.underlying21 (hval 2 21 v2 rfl rfl) h2
  obtain ⟨a3, rfl, rfl, rfl, w3⟩ := open_int Try.underlying21 (hval 3 21 v3 rfl rfl) h3
  obtain ⟨a4, rfl, rfl, rfl, w4⟩ := open_int Try.underlying21 (hval 4 21 v4 rfl rfl) h4
  obtain ⟨a5, rfl, rfl, rfl, w5⟩ := open_int Try.underlying21 (hval 5 21 v5 rfl rfl) h5
  obtain ⟨a6, rfl, rfl, rfl, w6⟩ := open_int Try.underlying3 (hval 6 3 v6 rfl rfl) h6
  clear hA0 hval0
  simp only [List.append_nil] at hW'
  refine (walk_VecMirrors a0 a1 a2 a3 a4 a5 a6 w0 w1 w2 w3 w4 w5 w6 W).mono fun e W' ⟨he, hg⟩ => ?_
  subst he
  exact ⟨_, rfl, law_post (pa := []) (pv := []) hW' hg (fun _ _ _ => (trodAll_cons_mk (shut_bool Try.underlying4 _) trodAll_mk0)) (fun sp _ => (trodAll_cons_mk (shut_int Try.underlying21 w0) (trodAll_cons_mk (shut_int Try.underlying21 w1) (trodAll_cons_mk (shut_int Try.underlying21 w2) (trodAll_cons_mk (shut_int Try.underlying21 w3) (trodAll_cons_mk (shut_int Try.underlying21 w4) (trodAll_cons_mk (shut_int Try.underlying21 w5) (trodAll_cons_mk (shut_int Try.underlying3 w6) trodAll_mk0)))))))) (fun _ _ => rfl)⟩

theorem k0 : (Rows.vecMirrorsRow.wf (OpenSpec.ofChange Rows.vecMirrorsSpec) : Bool) = true := by kernel_rfl
theorem k3 : (Try.f16.params.all (Try.pinned.checked.prog.readableRec ·) : Bool) = true := by kernel_rfl
theorem k4 : (namedTie Try.pinned.checked.prog Rows.vecMirrorsRow.named Rows.vecMirrorsSpec.vars : Bool) = true := by kernel_rfl
theorem k5 : ((Rows.vecMirrorsRow.stops == []) : Bool) = true := by kernel_rfl
theorem k7 : ((Rows.vecMirrorsRow.knobs == []) : Bool) = true := by kernel_rfl
theorem k9 : ((Rows.vecMirrorsRow.inPlace == Try.pinned.checked.prog.inPlace 16) : Bool) = true := by kernel_rfl
theorem k10 : ((Rows.vecMirrorsRow.unfollowed == Try.pinned.checked.prog.unfollowed 16) : Bool) = true := by kernel_rfl
theorem k11 : ((Rows.vecMirrorsRow.recurses == Try.pinned.checked.prog.recurses 16) : Bool) = true := by kernel_rfl
theorem k12 : ((Rows.vecMirrorsRow.named == Try.pinned.checked.prog.varsNamed 16) : Bool) = true := by kernel_rfl
theorem k13 : ((Rows.vecMirrorsRow.maps == (Try.f16.params.toList ++ Rows.vecMirrorsSpec.plain.varTypes Try.pinned.checked.prog).any (Try.pinned.checked.prog.mapsRec ·)) : Bool) = true := by kernel_rfl
theorem k14 : ((Rows.vecMirrorsRow.ifaces == (Try.f16.params.toList ++ Rows.vecMirrorsSpec.plain.varTypes Try.pinned.checked.prog).any (Try.pinned.checked.prog.ifacesRec ·)) : Bool) = true := by kernel_rfl
theorem k15 : ((Rows.vecMirrorsRow.mapsOut == Try.pinned.checked.prog.mapsAmong Try.f16.resultTypes.toList) : Bool) = true := by kernel_rfl
theorem k16 : ((Rows.vecMirrorsRow.loops == (Try.f16.params.toList ++ Rows.vecMirrorsSpec.plain.varTypes Try.pinned.checked.prog).any (Try.pinned.checked.prog.loopsFrom ·)) : Bool) = true := by kernel_rfl
theorem k17 : ((Rows.vecMirrorsRow.wideKeys == (Try.f16.params.toList ++ Rows.vecMirrorsSpec.plain.varTypes Try.pinned.checked.prog ++ Try.f16.resultTypes.toList).any (Try.pinned.checked.prog.wideKeysFrom ·)) : Bool) = true := by kernel_rfl
theorem k18 : (Rows.vecMirrorsSpec.vars.all (Try.pinned.checked.prog.varReadable ·) : Bool) = true := by kernel_rfl
theorem k19 : (Try.f16.resultTypes.all (fun t => Try.pinned.checked.prog.readableRec t && decide (t < Try.pinned.checked.prog.types.size)) : Bool) = true := by kernel_rfl
theorem k20 : ((Rows.vecMirrorsRow.ifacesOut == Try.f16.resultTypes.toList.any (Try.pinned.checked.prog.ifacesRec ·)) : Bool) = true := by kernel_rfl
theorem k21 : ((Rows.vecMirrorsRow.loopsOut == Try.f16.resultTypes.toList.any (Try.pinned.checked.prog.loopsFrom ·)) : Bool) = true := by kernel_rfl
theorem k23 : (Rows.vecMirrorsRow.shortTexts.isNone : Bool) = true := by kernel_rfl
theorem k29 : ((Rows.vecMirrorsRow.pinned == Rows.vecMirrorsRow.pinnedBy) : Bool) = true := by kernel_rfl
theorem k30 : ((Rows.vecMirrorsRow.veiled == (Try.f16.params.toList ++ Rows.vecMirrorsSpec.plain.varTypes Try.pinned.checked.prog ++ Try.f16.resultTypes.toList).any (Try.pinned.checked.prog.veiledRec ·)) : Bool) = true := by kernel_rfl
theorem k31 : (Rows.vecMirrorsRow.veiledFits Try.pinned.checked.prog Try.f16.params.toList (Try.f16.params.toList ++ Rows.vecMirrorsSpec.plain.varTypes Try.pinned.checked.prog ++ Try.f16.resultTypes.toList) : Bool) = true := by kernel_rfl
theorem closed : joinedFacts Try.pinned.checked.prog 16 Try.f16 Rows.vecMirrorsSpec Rows.vecMirrorsRow = true := (and_tt (and_tt (and_tt (and_tt (and_tt (and_tt (and_tt (and_tt (and_tt (and_tt (and_tt (and_tt (and_tt (and_tt (and_tt (and_tt (and_tt (and_tt (and_tt (and_tt (and_tt (and_tt (and_tt (and_tt (and_tt (and_tt (and_tt (and_tt (and_tt (and_tt (and_tt k0 fact1) fact2) k3) k4) k5) fact6) k7) fact8) k9) k10) k11) k12) k13) k14) k15) k16) k17) k18) k19) k20) k21) fact22) k23) fact24) fact25) fact26) fact27) (by kernel_rfl)) k29) k30) k31)
theorem named : Try.pinned.checked.prog.funcNamed Rows.vecMirrorsRow.func = some 16 := by kernel_rfl
theorem inst : Try.f16.isInstance Try.pinned.checked.prog Rows.vecMirrorsRow.origin Rows.vecMirrorsRow.targs := of_decide_eq_true (by kernel_rfl)
theorem wrap : Try.f16.isWrapper Try.pinned.checked.prog Rows.vecMirrorsRow.wrapper Rows.vecMirrorsRow.mainSum := by
  unfold Func.isWrapper
  first | (rw [if_pos (by decide +kernel)]; kernel_rfl) | (rw [if_neg (by decide +kernel)]; exact ⟨rfl, rfl⟩)

theorem over : Rows.vecMirrorsRow.holds Try.pinned (OpenSpec.ofChange Rows.vecMirrorsSpec) :=
  OpenClaim.holds_of_wide 16 Try.f16 rfl rfl rfl rfl rfl rfl rfl ⟨rfl, rfl, rfl, rfl, rfl⟩ rfl rfl rfl rfl rfl named Try.func16 closed inst wrap
    (fun os started H enc _ => lifted os started H enc)

/-- ████ THE STATEMENT ████ -/
theorem proved : Rows.VecMirrorsSaid :=
  over
end Go.Proofs.Ytolifgjkejhlhaa.vecMirrors
namespace Go.Proofs.Ytolifgjkejhlhaa
theorem vecMirrors_holds : Rows.VecMirrorsSaid := vecMirrors.proved
end Go.Proofs.Ytolifgjkejhlhaa
