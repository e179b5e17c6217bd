/-
  QuantWrong: the call returns true for every input; nothing that was there is written. The frame of the row is the kit's; the walk is YtolifgjkejhlhaaLQuantWrong's.
-/
import Derived.Test.YtolifgjkejhlhaaRows
import Derived.Test.YtolifgjkejhlhaaLawKit
import Derived.Test.YtolifgjkejhlhaaFacts
import Derived.Test.YtolifgjkejhlhaaLQuantWrong
import Derived.WalkKit
import Derived.ProofKit
import Derived.OpenShut
namespace Go.Proofs.Ytolifgjkejhlhaa.quantWrong
open Go.ChangeShapes Go.WideShapes Go.ChangeAt Go.RowKit
set_option linter.unusedVariables false      -- a walk need not use every 'w<i>' (that an integer argument fits its kind)

theorem own : ownKnob Try.prog.godebug = none := by kernel_rfl

/-! ### THE ROW's STEP: WRITTEN OUT: LEAVE IT -/
set_option maxRecDepth 100000 in
theorem lifted (os : Os) (started : os.Started) (H : Type) (enc : TypeId × Value → H) :
    ReturnsInHanded {} Try.checked os 22 .any (Rows.quantWrongSpec.pre6 enc Try.prog Try.f22 Rows.quantWrongRow.domain false) (Rows.quantWrongSpec.post enc Try.prog Try.f22 false true false false) := by
  refine returnsInHanded_of_change (C := Try.checked) own started (by kernel_rfl) Try.func22
    (ChangeSpec.witness6 (enc := enc) (C := Try.checked) false ⟨#[], #[.int .i64 0, .int .u64 0, .int .u8 0, .int .i64 0], []⟩ 8 (by kernel_rfl) (by kernel_rfl) (by kernel_rfl) (by kernel_rfl)) ?_
  intro W base args ds gs before hval0 hW hcnd _
  have hval : ∀ (j : Nat) t v, Try.f22.params[j]? = some t → args[j]? = some v → Value.okWide Try.prog W .any base t v := hval0
  have hW' := hW
  obtain ⟨p, q, hA0, hV, rfl, hfz, hnd⟩ := hW
  have hA : DataW.TrodAll enc Try.prog W 0 (fun _ => true) true Try.f22.params.toList args.toList ds p := hA0
  rw [Try.params22] at hA hval
  obtain ⟨v0, vs0, d0, ds0, p0, q0, hargs, rfl, rfl, h0, r0⟩ := trodAll_cons hA
  obtain ⟨v1, vs1, d1, ds1, p1, q1, rfl, rfl, rfl, h1, r1⟩ := trodAll_cons r0
  obtain ⟨v2, vs2, d2, ds2, p2, q2, rfl, rfl, rfl, h2, r2⟩ := trodAll_cons r1
  obtain ⟨v3, vs3, d3, ds3, p3, q3, rfl, rfl, rfl, h3, r3⟩ := trodAll_cons r2
  obtain ⟨rfl, rfl, rfl⟩ := trodAll_nil r3
  obtain rfl : args = #[v0, v1, v2, v3] := by cases args; simp_all
  obtain ⟨rfl, rfl⟩ := trodVars_none hV
  obtain ⟨a0, rfl, rfl, rfl, w0⟩ := open_int Try.underlying3 (hval 0 3 v0 rfl rfl) h0
  obtain ⟨a1, rfl, rfl, rfl, w1⟩ := open_int Try.underlying40 (hval 1 40 v1 rfl rfl) h1
  obtain ⟨a2, rfl, rfl, rfl, w2⟩ := open_int Try.underlying5 (hval 2 5 v2 rfl rfl) h2
  obtain ⟨a3, rfl, rfl, rfl, w3⟩ := open_int Try.underlying3 (hval 3 3 v3 rfl rfl) h3
  clear hA0 hval0
  simp only [List.append_nil] at hW'
  refine (walk_QuantWrong a0 a1 a2 a3 w0 w1 w2 w3 W).mono fun e W' ⟨he, hg⟩ => ?_
  subst he
  exact ⟨_, rfl, law_post (pa := []) (pv := []) hW' hg (fun _ _ _ => (trodAll_cons_mk (shut_bool Try.underlying4 _) trodAll_mk0)) (fun sp _ => (trodAll_cons_mk (shut_int Try.underlying3 w0) (trodAll_cons_mk (shut_int Try.underlying40 w1) (trodAll_cons_mk (shut_int Try.underlying5 w2) (trodAll_cons_mk (shut_int Try.underlying3 w3) trodAll_mk0))))) (fun _ _ => rfl)⟩

theorem k0 : (Rows.quantWrongRow.wf (OpenSpec.ofChange Rows.quantWrongSpec) : Bool) = true := by kernel_rfl
theorem k3 : (Try.f22.params.all (Try.pinned.checked.prog.readableRec ·) : Bool) = true := by kernel_rfl
theorem k4 : (namedTie Try.pinned.checked.prog Rows.quantWrongRow.named Rows.quantWrongSpec.vars : Bool) = true := by kernel_rfl
theorem k5 : ((Rows.quantWrongRow.stops == []) : Bool) = true := by kernel_rfl
theorem k7 : ((Rows.quantWrongRow.knobs == []) : Bool) = true := by kernel_rfl
theorem k9 : ((Rows.quantWrongRow.inPlace == Try.pinned.checked.prog.inPlace 22) : Bool) = true := by kernel_rfl
theorem k10 : ((Rows.quantWrongRow.unfollowed == Try.pinned.checked.prog.unfollowed 22) : Bool) = true := by kernel_rfl
theorem k11 : ((Rows.quantWrongRow.recurses == Try.pinned.checked.prog.recurses 22) : Bool) = true := by kernel_rfl
theorem k12 : ((Rows.quantWrongRow.named == Try.pinned.checked.prog.varsNamed 22) : Bool) = true := by kernel_rfl
theorem k13 : ((Rows.quantWrongRow.maps == (Try.f22.params.toList ++ Rows.quantWrongSpec.plain.varTypes Try.pinned.checked.prog).any (Try.pinned.checked.prog.mapsRec ·)) : Bool) = true := by kernel_rfl
theorem k14 : ((Rows.quantWrongRow.ifaces == (Try.f22.params.toList ++ Rows.quantWrongSpec.plain.varTypes Try.pinned.checked.prog).any (Try.pinned.checked.prog.ifacesRec ·)) : Bool) = true := by kernel_rfl
theorem k15 : ((Rows.quantWrongRow.mapsOut == Try.pinned.checked.prog.mapsAmong Try.f22.resultTypes.toList) : Bool) = true := by kernel_rfl
theorem k16 : ((Rows.quantWrongRow.loops == (Try.f22.params.toList ++ Rows.quantWrongSpec.plain.varTypes Try.pinned.checked.prog).any (Try.pinned.checked.prog.loopsFrom ·)) : Bool) = true := by kernel_rfl
theorem k17 : ((Rows.quantWrongRow.wideKeys == (Try.f22.params.toList ++ Rows.quantWrongSpec.plain.varTypes Try.pinned.checked.prog ++ Try.f22.resultTypes.toList).any (Try.pinned.checked.prog.wideKeysFrom ·)) : Bool) = true := by kernel_rfl
theorem k18 : (Rows.quantWrongSpec.vars.all (Try.pinned.checked.prog.varReadable ·) : Bool) = true := by kernel_rfl
theorem k19 : (Try.f22.resultTypes.all (fun t => Try.pinned.checked.prog.readableRec t && decide (t < Try.pinned.checked.prog.types.size)) : Bool) = true := by kernel_rfl
theorem k20 : ((Rows.quantWrongRow.ifacesOut == Try.f22.resultTypes.toList.any (Try.pinned.checked.prog.ifacesRec ·)) : Bool) = true := by kernel_rfl
theorem k21 : ((Rows.quantWrongRow.loopsOut == Try.f22.resultTypes.toList.any (Try.pinned.checked.prog.loopsFrom ·)) : Bool) = true := by kernel_rfl
theorem k23 : (Rows.quantWrongRow.shortTexts.isNone : Bool) = true := by kernel_rfl
theorem k29 : ((Rows.quantWrongRow.pinned == Rows.quantWrongRow.pinnedBy) : Bool) = true := by kernel_rfl
theorem k30 : ((Rows.quantWrongRow.veiled == (Try.f22.params.toList ++ Rows.quantWrongSpec.plain.varTypes Try.pinned.checked.prog ++ Try.f22.resultTypes.toList).any (Try.pinned.checked.prog.veiledRec ·)) : Bool) = true := by kernel_rfl
theorem k31 : (Rows.quantWrongRow.veiledFits Try.pinned.checked.prog Try.f22.params.toList (Try.f22.params.toList ++ Rows.quantWrongSpec.plain.varTypes Try.pinned.checked.prog ++ Try.f22.resultTypes.toList) : Bool) = true := by kernel_rfl
theorem closed : joinedFacts Try.pinned.checked.prog 22 Try.f22 Rows.quantWrongSpec Rows.quantWrongRow = true := (and_tt (and_tt (and_tt (and_tt (and_tt (and_tt (and_tt (and_tt (and_tt (and_tt (and_tt (and_tt (and_tt (and_tt (and_tt (and_tt (and_tt (and_tt (and_tt (and_tt (and_tt (and_tt (and_tt (and_tt (and_tt (and_tt (and_tt (and_tt (and_tt (and_tt (and_tt k0 fact1) fact2) k3) k4) k5) fact6) k7) fact8) k9) k10) k11) k12) k13) k14) k15) k16) k17) k18) k19) k20) k21) fact22) k23) fact24) fact25) fact26) fact27) (by kernel_rfl)) k29) k30) k31)
theorem named : Try.pinned.checked.prog.funcNamed Rows.quantWrongRow.func = some 22 := by kernel_rfl
theorem inst : Try.f22.isInstance Try.pinned.checked.prog Rows.quantWrongRow.origin Rows.quantWrongRow.targs := of_decide_eq_true (by kernel_rfl)
theorem wrap : Try.f22.isWrapper Try.pinned.checked.prog Rows.quantWrongRow.wrapper Rows.quantWrongRow.mainSum := by
  unfold Func.isWrapper
  first | (rw [if_pos (by decide +kernel)]; kernel_rfl) | (rw [if_neg (by decide +kernel)]; exact ⟨rfl, rfl⟩)

theorem over : Rows.quantWrongRow.holds Try.pinned (OpenSpec.ofChange Rows.quantWrongSpec) :=
  OpenClaim.holds_of_wide 22 Try.f22 rfl rfl rfl rfl rfl rfl rfl ⟨rfl, rfl, rfl, rfl, rfl⟩ rfl rfl rfl rfl rfl named Try.func22 closed inst wrap
    (fun os started H enc _ => lifted os started H enc)

/-- ████ THE STATEMENT ████ -/
theorem proved : Rows.QuantWrongSaid :=
  over
end Go.Proofs.Ytolifgjkejhlhaa.quantWrong
namespace Go.Proofs.Ytolifgjkejhlhaa
theorem quantWrong_holds : Rows.QuantWrongSaid := quantWrong.proved
end Go.Proofs.Ytolifgjkejhlhaa
