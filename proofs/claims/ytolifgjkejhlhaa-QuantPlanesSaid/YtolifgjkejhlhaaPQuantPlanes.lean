/-
  QuantPlanes: the call returns true for every input; nothing that was there is written.
-/
import Derived.Test.YtolifgjkejhlhaaRows
import Derived.Test.YtolifgjkejhlhaaLawKit
import Derived.Test.YtolifgjkejhlhaaFacts
import Derived.Test.YtolifgjkejhlhaaLQuantPlanes
import Derived.WalkKit
import Derived.ProofKit
import Derived.OpenShut
import Derived.Lib.SmallJoins
import Derived.Carry
namespace Go.Proofs.Ytolifgjkejhlhaa.quantPlanes
open Go.ChangeShapes Go.WideShapes Go.ChangeAt Go.RowKit Go.Joins
set_option linter.unusedVariables false

theorem own : ownKnob Try.prog.godebug = none := by kernel_rfl
theorem laid : laidOutB Try.prog = true := by kernel_rfl
theorem cellsV : Try.prog.cellsOf 55 = 2 := by kernel_rfl

set_option maxRecDepth 100000 in
theorem lifted (os : Os) (started : os.Started) (H : Type) (enc : TypeId × Value → H) :
    ReturnsInHanded {} Try.checked os 23 .any (Rows.quantPlanesSpec.pre6 enc Try.prog Try.f23 Rows.quantPlanesRow.domain false) (Rows.quantPlanesSpec.post enc Try.prog Try.f23 false true false false) := by
  refine returnsInHanded_of_change (C := Try.checked) own started (by kernel_rfl) Try.func23
    (ChangeSpec.witness6 (enc := enc) (C := Try.checked) false ⟨#[], #[.int .i64 0, .int .i64 0, .int .u64 0, .int .u64 0, .int .u8 0, .int .u8 0, .agg #[.int .i64 0, .int .i64 0]], []⟩ 8 (by kernel_rfl) (by kernel_rfl) (by kernel_rfl) (by kernel_rfl)) ?_
  intro W base args ds gs before hval0 hW hcnd _
  have hval : ∀ (j : Nat) t v, Try.f23.params[j]? = some t → args[j]? = some v → Value.okWide Try.prog W .any base t v := hval0
  have hW' := hW
  obtain ⟨p, q, hA0, hV, rfl, hfz, hnd⟩ := hW
  have hA : DataW.TrodAll enc Try.prog W 0 (fun _ => true) true Try.f23.params.toList args.toList ds p := hA0
  rw [Try.params23] at hA hval
  obtain ⟨v0, vs0, d0, ds0, p0, q0, hargs, rfl, rfl, h0, r0⟩ := trodAll_cons hA
  obtain ⟨v1, vs1, d1, ds1, p1, q1, rfl, rfl, rfl, h1, r1⟩ := trodAll_cons r0
  obtain ⟨v2, vs2, d2, ds2, p2, q2, rfl, rfl, rfl, h2, r2⟩ := trodAll_cons r1
  obtain ⟨v3, vs3, d3, ds3, p3, q3, rfl, rfl, rfl, h3, r3⟩ := trodAll_cons r2
  obtain ⟨v4, vs4, d4, ds4, p4, q4, rfl, rfl, rfl, h4, r4⟩ := trodAll_cons r3
  obtain ⟨v5, vs5, d5, ds5, p5, q5, rfl, rfl, rfl, h5, r5⟩ := trodAll_cons r4
  obtain ⟨v6, vs6, d6, ds6, p6, q6, rfl, rfl, rfl, h6, r6⟩ := trodAll_cons r5
  obtain ⟨rfl, rfl, rfl⟩ := trodAll_nil r6
  obtain rfl : args = #[v0, v1, v2, v3, v4, v5, v6] := by cases args; simp_all
  obtain ⟨rfl, rfl⟩ := trodVars_none hV
  have h0k := h0
  obtain ⟨a0, rfl, rfl, rfl, w0⟩ := open_int Try.underlying3 (hval 0 3 v0 rfl rfl) h0
  have h1k := h1
  obtain ⟨a1, rfl, rfl, rfl, w1⟩ := open_int Try.underlying3 (hval 1 3 v1 rfl rfl) h1
  have h2k := h2
  obtain ⟨a2, rfl, rfl, rfl, w2⟩ := open_int Try.underlying40 (hval 2 40 v2 rfl rfl) h2
  have h3k := h3
  obtain ⟨a3, rfl, rfl, rfl, w3⟩ := open_int Try.underlying40 (hval 3 40 v3 rfl rfl) h3
  have h4k := h4
  obtain ⟨a4, rfl, rfl, rfl, w4⟩ := open_int Try.underlying5 (hval 4 5 v4 rfl rfl) h4
  have h5k := h5
  obtain ⟨a5, rfl, rfl, rfl, w5⟩ := open_int Try.underlying5 (hval 5 5 v5 rfl rfl) h5
  have h6k := h6
  obtain ⟨c60, c61, y60, y61, m6, rfl, rfl, rfl, hy60, hy61⟩ := open_agg2 Try.underlying55 (by kernel_rfl) cellsV (hval 6 55 v6 rfl rfl) h6
  obtain ⟨a6, e6, rfl, w6⟩ := DataW.trod_int Try.underlying3 hy60
  simp at e6
  subst e6
  obtain ⟨a7, e7, rfl, w7⟩ := DataW.trod_int Try.underlying3 hy61
  simp at e7
  subst e7
  clear hA0 hval0
  simp only [List.append_nil] at hW'
  refine (walk_QuantPlanes a0 a1 a2 a3 a4 a5 a6 a7 w0 w1 w2 w3 w4 w5 w6 w7 W).mono fun e W' ⟨he, hg⟩ => ?_
  subst he
  exact ⟨_, rfl, law_post (pa := []) (pv := []) hW' hg (fun _ _ _ => (trodAll_cons_mk (shut_bool Try.underlying4 _) trodAll_mk0)) (fun sp _ => (trodAll_cons_mk (WideElems.Trod_stays laid (by kernel_rfl) (of_decide_eq_true (by kernel_rfl)) h0k (fun x hx => absurd hx (List.not_mem_nil)) (fun x hx => absurd hx (List.not_mem_nil))) (trodAll_cons_mk (WideElems.Trod_stays laid (by kernel_rfl) (of_decide_eq_true (by kernel_rfl)) h1k (fun x hx => absurd hx (List.not_mem_nil)) (fun x hx => absurd hx (List.not_mem_nil))) (trodAll_cons_mk (WideElems.Trod_stays laid (by kernel_rfl) (of_decide_eq_true (by kernel_rfl)) h2k (fun x hx => absurd hx (List.not_mem_nil)) (fun x hx => absurd hx (List.not_mem_nil))) (trodAll_cons_mk (WideElems.Trod_stays laid (by kernel_rfl) (of_decide_eq_true (by kernel_rfl)) h3k (fun x hx => absurd hx (List.not_mem_nil)) (fun x hx => absurd hx (List.not_mem_nil))) (trodAll_cons_mk (WideElems.Trod_stays laid (by kernel_rfl) (of_decide_eq_true (by kernel_rfl)) h4k (fun x hx => absurd hx (List.not_mem_nil)) (fun x hx => absurd hx (List.not_mem_nil))) (trodAll_cons_mk (WideElems.Trod_stays laid (by kernel_rfl) (of_decide_eq_true (by kernel_rfl)) h5k (fun x hx => absurd hx (List.not_mem_nil)) (fun x hx => absurd hx (List.not_mem_nil))) (trodAll_cons_mk (WideElems.Trod_stays laid (by kernel_rfl) (of_decide_eq_true (by kernel_rfl)) h6k (fun x hx => absurd hx (List.not_mem_nil)) (fun x hx => absurd hx (List.not_mem_nil))) trodAll_mk0)))))))) (fun _ _ => rfl)⟩

theorem k0 : (Rows.quantPlanesRow.wf (OpenSpec.ofChange Rows.quantPlanesSpec) : Bool) = true := by kernel_rfl
theorem k3 : (Try.f23.params.all (Try.pinned.checked.prog.readableRec ·) : Bool) = true := by kernel_rfl
theorem k4 : (namedTie Try.pinned.checked.prog Rows.quantPlanesRow.named Rows.quantPlanesSpec.vars : Bool) = true := by kernel_rfl
theorem k5 : ((Rows.quantPlanesRow.stops == []) : Bool) = true := by kernel_rfl
theorem k7 : ((Rows.quantPlanesRow.knobs == []) : Bool) = true := by kernel_rfl
theorem k9 : ((Rows.quantPlanesRow.inPlace == Try.pinned.checked.prog.inPlace 23) : Bool) = true := by kernel_rfl
theorem k10 : ((Rows.quantPlanesRow.unfollowed == Try.pinned.checked.prog.unfollowed 23) : Bool) = true := by kernel_rfl
theorem k11 : ((Rows.quantPlanesRow.recurses == Try.pinned.checked.prog.recurses 23) : Bool) = true := by kernel_rfl
theorem k12 : ((Rows.quantPlanesRow.named == Try.pinned.checked.prog.varsNamed 23) : Bool) = true := by kernel_rfl
theorem k13 : ((Rows.quantPlanesRow.maps == (Try.f23.params.toList ++ Rows.quantPlanesSpec.plain.varTypes Try.pinned.checked.prog).any (Try.pinned.checked.prog.mapsRec ·)) : Bool) = true := by kernel_rfl
theorem k14 : ((Rows.quantPlanesRow.ifaces == (Try.f23.params.toList ++ Rows.quantPlanesSpec.plain.varTypes Try.pinned.checked.prog).any (Try.pinned.checked.prog.ifacesRec ·)) : Bool) = true := by kernel_rfl
theorem k15 : ((Rows.quantPlanesRow.mapsOut == Try.pinned.checked.prog.mapsAmong Try.f23.resultTypes.toList) : Bool) = true := by kernel_rfl
theorem k16 : ((Rows.quantPlanesRow.loops == (Try.f23.params.toList ++ Rows.quantPlanesSpec.plain.varTypes Try.pinned.checked.prog).any (Try.pinned.checked.prog.loopsFrom ·)) : Bool) = true := by kernel_rfl
theorem k17 : ((Rows.quantPlanesRow.wideKeys == (Try.f23.params.toList ++ Rows.quantPlanesSpec.plain.varTypes Try.pinned.checked.prog ++ Try.f23.resultTypes.toList).any (Try.pinned.checked.prog.wideKeysFrom ·)) : Bool) = true := by kernel_rfl
theorem k18 : (Rows.quantPlanesSpec.vars.all (Try.pinned.checked.prog.varReadable ·) : Bool) = true := by kernel_rfl
theorem k19 : (Try.f23.resultTypes.all (fun t => Try.pinned.checked.prog.readableRec t && decide (t < Try.pinned.checked.prog.types.size)) : Bool) = true := by kernel_rfl
theorem k20 : ((Rows.quantPlanesRow.ifacesOut == Try.f23.resultTypes.toList.any (Try.pinned.checked.prog.ifacesRec ·)) : Bool) = true := by kernel_rfl
theorem k21 : ((Rows.quantPlanesRow.loopsOut == Try.f23.resultTypes.toList.any (Try.pinned.checked.prog.loopsFrom ·)) : Bool) = true := by kernel_rfl
theorem k23 : (Rows.quantPlanesRow.shortTexts.isNone : Bool) = true := by kernel_rfl
theorem k29 : ((Rows.quantPlanesRow.pinned == Rows.quantPlanesRow.pinnedBy) : Bool) = true := by kernel_rfl
theorem k30 : ((Rows.quantPlanesRow.veiled == (Try.f23.params.toList ++ Rows.quantPlanesSpec.plain.varTypes Try.pinned.checked.prog ++ Try.f23.resultTypes.toList).any (Try.pinned.checked.prog.veiledRec ·)) : Bool) = true := by kernel_rfl
theorem k31 : (Rows.quantPlanesRow.veiledFits Try.pinned.checked.prog Try.f23.params.toList (Try.f23.params.toList ++ Rows.quantPlanesSpec.plain.varTypes Try.pinned.checked.prog ++ Try.f23.resultTypes.toList) : Bool) = true := by kernel_rfl
theorem closed : joinedFacts Try.pinned.checked.prog 23 Try.f23 Rows.quantPlanesSpec Rows.quantPlanesRow = true := (and_tt (and_tt (and_tt (and_tt (and_tt (and_tt (and_tt (and_tt (and_tt (and_tt (and_tt (and_tt (and_tt (and_tt (and_tt (and_tt (and_tt (and_tt (and_tt (and_tt (and_tt (and_tt (and_tt (and_tt (and_tt (and_tt (and_tt (and_tt (and_tt (and_tt (and_tt k0 fact1) fact2) k3) k4) k5) fact6) k7) fact8) k9) k10) k11) k12) k13) k14) k15) k16) k17) k18) k19) k20) k21) fact22) k23) fact24) fact25) fact26) fact27) (by kernel_rfl)) k29) k30) k31)
theorem named : Try.pinned.checked.prog.funcNamed Rows.quantPlanesRow.func = some 23 := by kernel_rfl
theorem inst : Try.f23.isInstance Try.pinned.checked.prog Rows.quantPlanesRow.origin Rows.quantPlanesRow.targs := of_decide_eq_true (by kernel_rfl)
theorem wrap : Try.f23.isWrapper Try.pinned.checked.prog Rows.quantPlanesRow.wrapper Rows.quantPlanesRow.mainSum := by
  unfold Func.isWrapper
  first | (rw [if_pos (by decide +kernel)]; kernel_rfl) | (rw [if_neg (by decide +kernel)]; exact ⟨rfl, rfl⟩)

theorem over : Rows.quantPlanesRow.holds Try.pinned (OpenSpec.ofChange Rows.quantPlanesSpec) :=
  OpenClaim.holds_of_wide 23 Try.f23 rfl rfl rfl rfl rfl rfl rfl ⟨rfl, rfl, rfl, rfl, rfl⟩ rfl rfl rfl rfl rfl named Try.func23 closed inst wrap
    (fun os started H enc _ => lifted os started H enc)

theorem proved : Rows.QuantPlanesSaid :=
  over
end Go.Proofs.Ytolifgjkejhlhaa.quantPlanes
namespace Go.Proofs.Ytolifgjkejhlhaa
theorem quantPlanes_holds : Rows.QuantPlanesSaid := quantPlanes.proved
end Go.Proofs.Ytolifgjkejhlhaa
