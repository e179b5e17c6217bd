/- InterpWrong: the row and its tied card. -/
import Derived.Test.YtjjodmkblpdnhaaDoorRows
import Derived.Test.YtjjodmkblpdnhaaDoorCards
import Derived.Test.YtjjodmkblpdnhaaDoorTie
import Derived.Test.YtjjodmkblpdnhaaDoorLaid
import Derived.Test.YtjjodmkblpdnhaaDoorLawKit
import Derived.Test.YtjjodmkblpdnhaaDoorFacts
import Derived.Test.YtjjodmkblpdnhaaDoorLInterpWrong
import Derived.WalkKit
import Derived.ProofKit
import Derived.OpenShut
import Derived.LaidMore
import Derived.Lib.SmallJoins
import Derived.Carry
import Derived.Stop.Joined
import Derived.SevenTiedAt
namespace Go.Proofs.YtjjodmkblpdnhaaDoor.interpWrong
open Go Go.ChangeShapes Go.WideShapes Go.ChangeAt Go.RowKit Go.Joins
set_option linter.unusedVariables false
set_option maxRecDepth 100000

theorem own : ownKnob Tryd.prog.godebug = none := by kernel_rfl
theorem laid : laidOutB Tryd.prog = true := by kernel_rfl
theorem door_met (os : Os) (args : Array Value) : laidMetH Tryd.prog [("marches/store.ranges", Rows.laid_marches_store_ranges)] ((World.doorLaid Tryd.prog 104 os).forCall (fun _ _ => 0) ⟨#[], args, []⟩).memory :=
  laidMetH_of_parts3 (fuel := 8) (laidMet_of_run' 8 (by kernel_rfl) (by kernel_rfl)) (by kernel_rfl) (by kernel_rfl)
theorem wf_i32 {n : Int} (h : (Lit.int .i32 n).wf = true) : -2147483648 ≤ n ∧ n ≤ 2147483647 := by
  simp [Lit.wf, IntKind.min, IntKind.max, IntKind.signed, IntKind.bits] at h
  omega
theorem wf_u16 {n : Int} (h : (Lit.int .u16 n).wf = true) : 0 ≤ n ∧ n ≤ 65535 := by
  simp [Lit.wf, IntKind.min, IntKind.max, IntKind.signed, IntKind.bits] at h
  omega
theorem wf_u8' {n : Int} (h : (Lit.int .u8 n).wf = true) : 0 ≤ n ∧ n ≤ 255 := by
  simp [Lit.wf, IntKind.min, IntKind.max, IntKind.signed, IntKind.bits] at h
  omega
theorem wf_i64' {n : Int} (h : (Lit.int .i64 n).wf = true) : -9223372036854775808 ≤ n ∧ n ≤ 9223372036854775807 := by
  simp [Lit.wf, IntKind.min, IntKind.max, IntKind.signed, IntKind.bits] at h
  omega
theorem u51 : Tryd.prog.cellsOf 51 = 1 := by kernel_rfl
theorem open_nums {H : Type} {enc : TypeId × Value → H} {W : World} {b0 : Nat} {v : Value} {d : DataW H} {p : List MemPlace} (hv : Value.okWide Tryd.prog W .any b0 22 v) (h : DataW.Trod enc Tryd.prog W 0 (fun _ => true) true 22 v d p) :
    ∃ a n c l, v = .slice a n c ∧ NumsAt W (.slice a n c) l := by
  obtain ⟨a0, len, cap, rfl⟩ := Go.WideShapes.okWide_slice Tryd.underlying22 hv
  obtain ⟨fuel, hf⟩ := h
  rcases open_ints Tryd.underlying22 Tryd.underlying51 u51 hf with ⟨hcs, hxx⟩ | ⟨a, len', cap', zs, hcs, _, hl, hm, hz, hxx, hcell, hwz⟩
  · simp [Value.cells] at hcs
    obtain ⟨rfl, rfl, rfl⟩ := hcs
    exact ⟨none, 0, 0, [], rfl, none, 0, rfl, by simp, fun i x hx => by simp at hx⟩
  · simp [Value.cells] at hcs
    obtain ⟨rfl, rfl, rfl⟩ := hcs
    simp only [if_true] at hz
    have hlt : (zs.take len).length = len := by rw [List.length_take, hz]; exact Nat.min_eq_left hl
    refine ⟨some a, len, cap, zs.take len, rfl, some a, cap, by rw [hlt], by rw [hlt]; unfold maxLen at hm; omega, fun i x hx => ?_⟩
    have hi := (List.getElem?_eq_some_iff.1 hx).1
    rw [hlt] at hi
    obtain ⟨b, off, rfl, hc⟩ := ints_at hcell (by omega)
    have hx' : zs[i]? = some x := by rw [List.getElem?_take] at hx; simpa [hi] using hx
    have h1 := hc i (by omega)
    have hg : zs.getD i 0 = x := by rw [List.getD, hx']; rfl
    rw [hg] at h1
    have hw := wf_u16 (hwz x (List.mem_iff_getElem?.2 ⟨i, hx'⟩))
    exact ⟨b, off, rfl, h1, hw⟩

set_option maxRecDepth 100000 in
theorem lifted (os : Os) (started : os.Started) (H : Type) (enc : TypeId × Value → H) :
    ReturnsInHanded {} Tryd.checked os 5 .any (fun w args => (Rows.interpWrongSpec.pre enc Tryd.prog Tryd.f5 [] false w args ∧ laidMetH Tryd.prog [("marches/store.ranges", Rows.laid_marches_store_ranges)] w) ∧ sizedMet enc Tryd.prog Tryd.f5 (OpenSpec.ofChange Rows.interpWrongSpec) false w args)
      (Rows.interpWrongSpec.post enc Tryd.prog Tryd.f5 false true false false) := by
  refine returnsInHanded_of_change_and (C := Tryd.checked) (X := fun w _ => laidMetH Tryd.prog [("marches/store.ranges", Rows.laid_marches_store_ranges)] w) (fun _ _ _ hh h => h.of_heap hh) own started (by kernel_rfl) Tryd.func5
    (ChangeSpec.witness_shaped (enc := enc) (C := Tryd.checked) (os := os) (X := fun w _ => laidMetH Tryd.prog [("marches/store.ranges", Rows.laid_marches_store_ranges)] w) false (World.doorLaid Tryd.prog 104 os) #[.slice none 0 0, .int .u8 0, .int .i64 0] 8 rfl (World.shaped_of_RefB (by kernel_rfl) (by kernel_rfl)) (by kernel_rfl) (by kernel_rfl) (by kernel_rfl) (door_met os _)) ?_
  intro W base args ds gs before hval0 hW _ _ hL _
  have hval : ∀ (j : Nat) t v, Tryd.f5.params[j]? = some t → args[j]? = some v → Value.okWide Tryd.prog W .any base t v := hval0
  have hW' := hW
  obtain ⟨p, q, hA0, hV, rfl, hfz, hnd⟩ := hW
  have hA : DataW.TrodAll enc Tryd.prog W 0 (fun _ => true) true Tryd.f5.params.toList args.toList ds p := hA0
  rw [Tryd.params5] at hA hval
  obtain ⟨v0, vs0, d0, ds0, p0, q0, hargs, rfl, rfl, h0, r0⟩ := trodAll_cons hA
  obtain ⟨v1, vs1, d1, ds1, p1, q1, rfl, rfl, rfl, h1, r1⟩ := trodAll_cons r0
  obtain ⟨v2, vs2, d2, ds2, p2, q2, rfl, rfl, rfl, h2, r2⟩ := trodAll_cons r1
  obtain ⟨rfl, rfl, rfl⟩ := trodAll_nil r2
  obtain rfl : args = #[v0, v1, v2] := by cases args; simp_all
  obtain ⟨rfl, rfl⟩ := trodVars_none hV
  have h0k := h0
  have h1k := h1
  have h2k := h2
  obtain ⟨a0, n0, c0, l0, rfl, hN0⟩ := open_nums (hval 0 22 v0 rfl rfl) h0
  obtain ⟨a1, rfl, rfl, rfl, w1⟩ := open_int Tryd.underlying5 (hval 1 5 v1 rfl rfl) h1
  obtain ⟨a2, rfl, rfl, rfl, w2⟩ := open_int Tryd.underlying3 (hval 2 3 v2 rfl rfl) h2
  have hR := of_laid hL
  clear hA0 hval0
  refine (iwrong_any l0 a0 n0 c0 a1 a2 (wf_u8' w1) (wf_i64' w2) W hR hN0).mono fun e W' ⟨he, hg⟩ => ?_
  subst he
  exact ⟨_, rfl, law_post (pv := []) hW' hg (fun _ _ _ => (trodAll_cons_mk (shut_bool Tryd.underlying4 _) trodAll_mk0)) (fun sp hsp => (trodAll_cons_mk (WideElems.Trod_stays laid (by kernel_rfl) (of_decide_eq_true (by kernel_rfl)) h0k (fun x hx => hg.same (hW'.lt x (by simp [hx]))) (fun x hx => hsp x (by simp [hx]))) (trodAll_cons_mk (WideElems.Trod_stays laid (by kernel_rfl) (of_decide_eq_true (by kernel_rfl)) h1k (fun x hx => absurd hx (List.not_mem_nil)) (fun x hx => absurd hx (List.not_mem_nil))) (trodAll_cons_mk (WideElems.Trod_stays laid (by kernel_rfl) (of_decide_eq_true (by kernel_rfl)) h2k (fun x hx => absurd hx (List.not_mem_nil)) (fun x hx => absurd hx (List.not_mem_nil))) trodAll_mk0)))) (fun _ _ => rfl)⟩

theorem k0 : (Rows.interpWrongRow.wf (OpenSpec.ofChange Rows.interpWrongSpec) : Bool) = true := by kernel_rfl
theorem k3 : (Tryd.f5.params.all (Tryd.pinned.checked.prog.readableRec ·) : Bool) = true := by kernel_rfl
theorem k4 : (namedTie Tryd.pinned.checked.prog Rows.interpWrongRow.named Rows.interpWrongSpec.vars : Bool) = true := by kernel_rfl
theorem k5 : ((Rows.interpWrongRow.stops == []) : Bool) = true := by kernel_rfl
theorem k7 : ((Rows.interpWrongRow.knobs == []) : Bool) = true := by kernel_rfl
theorem k9 : ((Rows.interpWrongRow.inPlace == Tryd.pinned.checked.prog.inPlace 5) : Bool) = true := by kernel_rfl
theorem k10 : ((Rows.interpWrongRow.unfollowed == Tryd.pinned.checked.prog.unfollowed 5) : Bool) = true := by kernel_rfl
theorem k11 : ((Rows.interpWrongRow.recurses == Tryd.pinned.checked.prog.recurses 5) : Bool) = true := by kernel_rfl
theorem k12 : ((Rows.interpWrongRow.named == Tryd.pinned.checked.prog.varsNamed 5) : Bool) = true := by kernel_rfl
theorem k13 : ((Rows.interpWrongRow.maps == (Tryd.f5.params.toList ++ Rows.interpWrongSpec.plain.varTypes Tryd.pinned.checked.prog).any (Tryd.pinned.checked.prog.mapsRec ·)) : Bool) = true := by kernel_rfl
theorem k14 : ((Rows.interpWrongRow.ifaces == (Tryd.f5.params.toList ++ Rows.interpWrongSpec.plain.varTypes Tryd.pinned.checked.prog).any (Tryd.pinned.checked.prog.ifacesRec ·)) : Bool) = true := by kernel_rfl
theorem k15 : ((Rows.interpWrongRow.mapsOut == Tryd.pinned.checked.prog.mapsAmong Tryd.f5.resultTypes.toList) : Bool) = true := by kernel_rfl
theorem k16 : ((Rows.interpWrongRow.loops == (Tryd.f5.params.toList ++ Rows.interpWrongSpec.plain.varTypes Tryd.pinned.checked.prog).any (Tryd.pinned.checked.prog.loopsFrom ·)) : Bool) = true := by kernel_rfl
theorem k17 : ((Rows.interpWrongRow.wideKeys == (Tryd.f5.params.toList ++ Rows.interpWrongSpec.plain.varTypes Tryd.pinned.checked.prog ++ Tryd.f5.resultTypes.toList).any (Tryd.pinned.checked.prog.wideKeysFrom ·)) : Bool) = true := by kernel_rfl
theorem k18 : (Rows.interpWrongSpec.vars.all (Tryd.pinned.checked.prog.varReadable ·) : Bool) = true := by kernel_rfl
theorem k19 : (Tryd.f5.resultTypes.all (fun t => Tryd.pinned.checked.prog.readableRec t && decide (t < Tryd.pinned.checked.prog.types.size)) : Bool) = true := by kernel_rfl
theorem k20 : ((Rows.interpWrongRow.ifacesOut == Tryd.f5.resultTypes.toList.any (Tryd.pinned.checked.prog.ifacesRec ·)) : Bool) = true := by kernel_rfl
theorem k21 : ((Rows.interpWrongRow.loopsOut == Tryd.f5.resultTypes.toList.any (Tryd.pinned.checked.prog.loopsFrom ·)) : Bool) = true := by kernel_rfl
theorem k23 : (Rows.interpWrongRow.shortTexts.isNone : Bool) = true := by kernel_rfl
theorem k29 : ((Rows.interpWrongRow.pinned == Rows.interpWrongRow.pinnedBy) : Bool) = true := by kernel_rfl
theorem k30 : ((Rows.interpWrongRow.veiled == (Tryd.f5.params.toList ++ Rows.interpWrongSpec.plain.varTypes Tryd.pinned.checked.prog ++ Tryd.f5.resultTypes.toList).any (Tryd.pinned.checked.prog.veiledRec ·)) : Bool) = true := by kernel_rfl
theorem k31 : (Rows.interpWrongRow.veiledFits Tryd.pinned.checked.prog Tryd.f5.params.toList (Tryd.f5.params.toList ++ Rows.interpWrongSpec.plain.varTypes Tryd.pinned.checked.prog ++ Tryd.f5.resultTypes.toList) : Bool) = true := by kernel_rfl
theorem closed : joinedFacts Tryd.pinned.checked.prog 5 Tryd.f5 Rows.interpWrongSpec Rows.interpWrongRow = true := (and_tt (and_tt (and_tt (and_tt (and_tt (and_tt (and_tt (and_tt (and_tt (and_tt (and_tt (and_tt (and_tt (and_tt (and_tt (and_tt (and_tt (and_tt (and_tt (and_tt (and_tt (and_tt (and_tt (and_tt (and_tt (and_tt (and_tt (and_tt (and_tt (and_tt (and_tt k0 fact1) fact2) k3) k4) k5) fact6) k7) fact8) k9) k10) k11) k12) k13) k14) k15) k16) k17) k18) k19) k20) k21) fact22) k23) fact24) fact25) fact26) fact27) (by kernel_rfl)) k29) k30) k31)
theorem named : Tryd.pinned.checked.prog.funcNamed Rows.interpWrongRow.func = some 5 := by kernel_rfl
theorem inst : Tryd.f5.isInstance Tryd.pinned.checked.prog Rows.interpWrongRow.origin Rows.interpWrongRow.targs := of_decide_eq_true (by kernel_rfl)
theorem wrap : Tryd.f5.isWrapper Tryd.pinned.checked.prog Rows.interpWrongRow.wrapper Rows.interpWrongRow.mainSum := by
  unfold Func.isWrapper
  first | (rw [if_pos (by decide +kernel)]; kernel_rfl) | (rw [if_neg (by decide +kernel)]; exact ⟨rfl, rfl⟩)
theorem over : Rows.interpWrongRow.holds Tryd.pinned (OpenSpec.ofChange Rows.interpWrongSpec) :=
  OpenClaim.holds_of_wide 5 Tryd.f5 rfl rfl rfl rfl rfl rfl rfl ⟨rfl, rfl, rfl, rfl, rfl⟩ rfl rfl rfl rfl rfl named Tryd.func5 closed inst wrap
    (fun os started H enc _ => lifted os started H enc)
theorem card_holds : Claim7.holds Tryd.pinned (.plain (OpenSpec.ofChange Rows.interpWrongSpec)) Rows.interpWrongCard :=
  Claim7.holds_tied_plain_at .later [] [.data] true (true, "c4ea2b264f8c10b2f54221e5308f0d33dbcb3682bc0eb0295667e0a30b40a42e") false
    over (fun _ h => by cases h) (by kernel_rfl) (fun _ h => by cases h) interpWrong_row_tie rfl ⟨rfl, rfl⟩ (by kernel_rfl) rfl
    (fun f fn hf hfn => by
      obtain rfl : f = 5 := Option.some.inj (named.symm.trans hf) |>.symm
      obtain rfl : fn = Tryd.f5 := (Option.some.inj (Tryd.func5.symm.trans hfn)).symm
      exact ⟨by kernel_rfl, fun j t ht => by
        rw [Tryd.params5] at ht
        match j, ht with
        | 0, ht =>
          obtain rfl : t = 22 := by simpa using ht.symm
          exact (show Tryd.prog.wantsStandIn 22 = false by kernel_rfl)
        | 1, ht =>
          obtain rfl : t = 5 := by simpa using ht.symm
          exact (show Tryd.prog.wantsStandIn 5 = false by kernel_rfl)
        | 2, ht =>
          obtain rfl : t = 3 := by simpa using ht.symm
          exact (show Tryd.prog.wantsStandIn 3 = false by kernel_rfl)
        | j + 3, ht => simp at ht⟩)
    (by kernel_rfl)
end Go.Proofs.YtjjodmkblpdnhaaDoor.interpWrong
namespace Go.Proofs.YtjjodmkblpdnhaaDoor
theorem interpWrong_holds : Rows.InterpWrongCardSaid := interpWrong.card_holds
end Go.Proofs.YtjjodmkblpdnhaaDoor
