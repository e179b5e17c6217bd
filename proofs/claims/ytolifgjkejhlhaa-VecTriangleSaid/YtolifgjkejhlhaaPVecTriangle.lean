/-
  VecTriangle: the call returns true for every input; nothing that was there is written.
-/
import Derived.Test.YtolifgjkejhlhaaRows
import Derived.Test.YtolifgjkejhlhaaLawKit
import Derived.Test.YtolifgjkejhlhaaFacts
import Derived.Test.YtolifgjkejhlhaaLVecTriangle
import Derived.WalkKit
import Derived.ProofKit
import Derived.OpenShut
import Derived.Lib.SmallJoins
import Derived.Carry
namespace Go.Proofs.Ytolifgjkejhlhaa.vecTriangle
open Go.ChangeShapes Go.WideShapes Go.ChangeAt Go.RowKit Go.Joins
set_option linter.unusedVariables false

theorem own : ownKnob Try.prog.godebug = none := by kernel_rfl
theorem laid : laidOutB Try.prog = true := by kernel_rfl
theorem cellsV : Try.prog.cellsOf 55 = 2 := by kernel_rfl

set_option maxRecDepth 100000 in
theorem lifted (os : Os) (started : os.Started) (H : Type) (enc : TypeId × Value → H) :
    ReturnsInHanded {} Try.checked os 17 .any (Rows.vecTriangleSpec.pre6 enc Try.prog Try.f17 Rows.vecTriangleRow.domain false) (Rows.vecTriangleSpec.post enc Try.prog Try.f17 false true false false) := by
  refine returnsInHanded_of_change (C := Try.checked) own started (by kernel_rfl) Try.func17
    (ChangeSpec.witness6 (enc := enc) (C := Try.checked) false ⟨#[], #[.agg #[.int .i64 0, .int .i64 0], .agg #[.int .i64 0, .int .i64 0], .agg #[.int .i64 0, .int .i64 0]], []⟩ 8 (by kernel_rfl) (by kernel_rfl) (by kernel_rfl) (by kernel_rfl)) ?_
  intro W base args ds gs before hval0 hW hcnd _
  have hval : ∀ (j : Nat) t v, Try.f17.params[j]? = some t → args[j]? = some v → Value.okWide Try.prog W .any base t v := hval0
  have hW' := hW
  obtain ⟨p, q, hA0, hV, rfl, hfz, hnd⟩ := hW
  have hA : DataW.TrodAll enc Try.prog W 0 (fun _ => true) true Try.f17.params.toList args.toList ds p := hA0
  rw [Try.params17] at hA hval
  obtain ⟨v0, vs0, d0, ds0, p0, q0, hargs, rfl, rfl, h0, r0⟩ := trodAll_cons hA
  obtain ⟨v1, vs1, d1, ds1, p1, q1, rfl, rfl, rfl, h1, r1⟩ := trodAll_cons r0
  obtain ⟨v2, vs2, d2, ds2, p2, q2, rfl, rfl, rfl, h2, r2⟩ := trodAll_cons r1
  obtain ⟨rfl, rfl, rfl⟩ := trodAll_nil r2
  obtain rfl : args = #[v0, v1, v2] := by cases args; simp_all
  obtain ⟨rfl, rfl⟩ := trodVars_none hV
  have h0k := h0
  obtain ⟨c00, c01, y00, y01, m0, rfl, rfl, rfl, hy00, hy01⟩ := open_agg2 Try.underlying55 (by kernel_rfl) cellsV (hval 0 55 v0 rfl rfl) h0
  obtain ⟨a0, e0, rfl, w0⟩ := DataW.trod_int Try.underlying3 hy00
  simp at e0
  subst e0
  obtain ⟨a1, e1, rfl, w1⟩ := DataW.trod_int Try.underlying3 hy01
  simp at e1
  subst e1
  have h1k := h1
  obtain ⟨c10, c11, y10, y11, m1, rfl, rfl, rfl, hy10, hy11⟩ := open_agg2 Try.underlying55 (by kernel_rfl) cellsV (hval 1 55 v1 rfl rfl) h1
  obtain ⟨a2, e2, rfl, w2⟩ := DataW.trod_int Try.underlying3 hy10
  simp at e2
  subst e2
  obtain ⟨a3, e3, rfl, w3⟩ := DataW.trod_int Try.underlying3 hy11
  simp at e3
  subst e3
  have h2k := h2
  obtain ⟨c20, c21, y20, y21, m2, rfl, rfl, rfl, hy20, hy21⟩ := open_agg2 Try.underlying55 (by kernel_rfl) cellsV (hval 2 55 v2 rfl rfl) h2
  obtain ⟨a4, e4, rfl, w4⟩ := DataW.trod_int Try.underlying3 hy20
  simp at e4
  subst e4
  obtain ⟨a5, e5, rfl, w5⟩ := DataW.trod_int Try.underlying3 hy21
  simp at e5
  subst e5
  clear hA0 hval0
  simp only [List.append_nil] at hW'
  refine (walk_VecTriangle a0 a1 a2 a3 a4 a5 w0 w1 w2 w3 w4 w5 W).mono fun e W' ⟨he, hg⟩ => ?_
  subst he
  exact ⟨_, rfl, law_post (pa := []) (pv := []) hW' hg (fun _ _ _ => (trodAll_cons_mk (shut_bool Try.underlying4 _) trodAll_mk0)) (fun sp _ => (trodAll_cons_mk (WideElems.Trod_stays laid (by kernel_rfl) (of_decide_eq_true (by kernel_rfl)) h0k (fun x hx => absurd hx (List.not_mem_nil)) (fun x hx => absurd hx (List.not_mem_nil))) (trodAll_cons_mk (WideElems.Trod_stays laid (by kernel_rfl) (of_decide_eq_true (by kernel_rfl)) h1k (fun x hx => absurd hx (List.not_mem_nil)) (fun x hx => absurd hx (List.not_mem_nil))) (trodAll_cons_mk (WideElems.Trod_stays laid (by kernel_rfl) (of_decide_eq_true (by kernel_rfl)) h2k (fun x hx => absurd hx (List.not_mem_nil)) (fun x hx => absurd hx (List.not_mem_nil))) trodAll_mk0)))) (fun _ _ => rfl)⟩

theorem k0 : (Rows.vecTriangleRow.wf (OpenSpec.ofChange Rows.vecTriangleSpec) : Bool) = true := by kernel_rfl
theorem k3 : (Try.f17.params.all (Try.pinned.checked.prog.readableRec ·) : Bool) = true := by kernel_rfl
theorem k4 : (namedTie Try.pinned.checked.prog Rows.vecTriangleRow.named Rows.vecTriangleSpec.vars : Bool) = true := by kernel_rfl
theorem k5 : ((Rows.vecTriangleRow.stops == []) : Bool) = true := by kernel_rfl
theorem k7 : ((Rows.vecTriangleRow.knobs == []) : Bool) = true := by kernel_rfl
theorem k9 : ((Rows.vecTriangleRow.inPlace == Try.pinned.checked.prog.inPlace 17) : Bool) = true := by kernel_rfl
theorem k10 : ((Rows.vecTriangleRow.unfollowed == Try.pinned.checked.prog.unfollowed 17) : Bool) = true := by kernel_rfl
theorem k11 : ((Rows.vecTriangleRow.recurses == Try.pinned.checked.prog.recurses 17) : Bool) = true := by kernel_rfl
theorem k12 : ((Rows.vecTriangleRow.named == Try.pinned.checked.prog.varsNamed 17) : Bool) = true := by kernel_rfl
theorem k13 : ((Rows.vecTriangleRow.maps == (Try.f17.params.toList ++ Rows.vecTriangleSpec.plain.varTypes Try.pinned.checked.prog).any (Try.pinned.checked.prog.mapsRec ·)) : Bool) = true := by kernel_rfl
theorem k14 : ((Rows.vecTriangleRow.ifaces == (Try.f17.params.toList ++ Rows.vecTriangleSpec.plain.varTypes Try.pinned.checked.prog).any (Try.pinned.checked.prog.ifacesRec ·)) : Bool) = true := by kernel_rfl
theorem k15 : ((Rows.vecTriangleRow.mapsOut == Try.pinned.checked.prog.mapsAmong Try.f17.resultTypes.toList) : Bool) = true := by kernel_rfl
theorem k16 : ((Rows.vecTriangleRow.loops == (Try.f17.params.toList ++ Rows.vecTriangleSpec.plain.varTypes Try.pinned.checked.prog).any (Try.pinned.checked.prog.loopsFrom ·)) : Bool) = true := by kernel_rfl
theorem k17 : ((Rows.vecTriangleRow.wideKeys == (Try.f17.params.toList ++ Rows.vecTriangleSpec.plain.varTypes Try.pinned.checked.prog ++ Try.f17.resultTypes.toList).any (Try.pinned.checked.prog.wideKeysFrom ·)) : Bool) = true := by kernel_rfl
theorem k18 : (Rows.vecTriangleSpec.vars.all (Try.pinned.checked.prog.varReadable ·) : Bool) = true := by kernel_rfl
theorem k19 : (Try.f17.resultTypes.all (fun t => Try.pinned.checked.prog.readableRec t && decide (t < Try.pinned.checked.prog.types.size)) : Bool) = true := by kernel_rfl
theorem k20 : ((Rows.vecTriangleRow.ifacesOut == Try.f17.resultTypes.toList.any (Try.pinned.checked.prog.ifacesRec ·)) : Bool) = true := by kernel_rfl
theorem k21 : ((Rows.vecTriangleRow.loopsOut == Try.f17.resultTypes.toList.any (Try.pinned.checked.prog.loopsFrom ·)) : Bool) = true := by kernel_rfl
theorem k23 : (Rows.vecTriangleRow.shortTexts.isNone : Bool) = true := by kernel_rfl
theorem k29 : ((Rows.vecTriangleRow.pinned == Rows.vecTriangleRow.pinnedBy) : Bool) = true := by kernel_rfl
theorem k30 : ((Rows.vecTriangleRow.veiled == (Try.f17.params.toList ++ Rows.vecTriangleSpec.plain.varTypes Try.pinned.checked.prog ++ Try.f17.resultTypes.toList).any (Try.pinned.checked.prog.veiledRec ·)) : Bool) = true := by kernel_rfl
theorem k31 : (Rows.vecTriangleRow.veiledFits Try.pinned.checked.prog Try.f17.params.toList (Try.f17.params.toList ++ Rows.vecTriangleSpec.plain.varTypes Try.pinned.checked.prog ++ Try.f17.resultTypes.toList) : Bool) = true := by kernel_rfl
theorem closed : joinedFacts Try.pinned.checked.prog 17 Try.f17 Rows.vecTriangleSpec Rows.vecTriangleRow = true := (and_tt (and_tt (and_tt (and_tt (and_tt (and_tt (and_tt (and_tt (and_tt (and_tt (and_tt (and_tt (and_tt (and_tt (and_tt (and_tt (and_tt (and_tt (and_tt (and_tt (and_tt (and_tt (and_tt (and_tt (and_tt (and_tt (and_tt (and_tt (and_tt (and_tt (and_tt k0 fact1) fact2) k3) k4) k5) fact6) k7) fact8) k9) k10) k11) k12) k13) k14) k15) k16) k17) k18) k19) k20) k21) fact22) k23) fact24) fact25) fact26) fact27) (by kernel_rfl)) k29) k30) k31)
theorem named : Try.pinned.checked.prog.funcNamed Rows.vecTriangleRow.func = some 17 := by kernel_rfl
theorem inst : Try.f17.isInstance Try.pinned.checked.prog Rows.vecTriangleRow.origin Rows.vecTriangleRow.targs := of_decide_eq_true (by kernel_rfl)
theorem wrap : Try.f17.isWrapper Try.pinned.checked.prog Rows.vecTriangleRow.wrapper Rows.vecTriangleRow.mainSum := by
  unfold Func.isWrapper
  first | (rw [if_pos (by decide +kernel)]; kernel_rfl) | (rw [if_neg (by decide +kernel)]; exact ⟨rfl, rfl⟩)

theorem over : Rows.vecTriangleRow.holds Try.pinned (OpenSpec.ofChange Rows.vecTriangleSpec) :=
  OpenClaim.holds_of_wide 17 Try.f17 rfl rfl rfl rfl rfl rfl rfl ⟨rfl, rfl, rfl, rfl, rfl⟩ rfl rfl rfl rfl rfl named Try.func17 closed inst wrap
    (fun os started H enc _ => lifted os started H enc)

theorem proved : Rows.VecTriangleSaid :=
  over
end Go.Proofs.Ytolifgjkejhlhaa.vecTriangle
namespace Go.Proofs.Ytolifgjkejhlhaa
theorem vecTriangle_holds : Rows.VecTriangleSaid := vecTriangle.proved
end Go.Proofs.Ytolifgjkejhlhaa
