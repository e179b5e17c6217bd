/- InterpEven: the row and its tied card. -/
import Derived.Test.YtjjodmkblpdnhaaDoorRows
import Derived.Test.YtjjodmkblpdnhaaDoorCards
import Derived.Test.YtjjodmkblpdnhaaDoorTie
import Derived.Test.YtjjodmkblpdnhaaDoorLaid
import Derived.Test.YtjjodmkblpdnhaaDoorLawKit
import Derived.Test.YtjjodmkblpdnhaaDoorFacts
import Derived.Test.YtjjodmkblpdnhaaDoorLInterpEven
import Derived.WalkKit
import Derived.ProofKit
import Derived.OpenShut
import Derived.LaidMore
import Derived.Lib.SmallJoins
import Derived.Carry
import Derived.Stop.Joined
import Derived.SevenTiedAt
namespace Go.Proofs.YtjjodmkblpdnhaaDoor.interpEven
open Go Go.ChangeShapes Go.WideShapes Go.ChangeAt Go.RowKit Go.Joins
set_option linter.unusedVariables false
set_option maxRecDepth 100000

theorem own : ownKnob Tryd.prog.godebug = none := by kernel_rfl
theorem laid : laidOutB Tryd.prog = true := by kernel_rfl
theorem door_met (os : Os) (args : Array Value) : laidMetH Tryd.prog [("marches/store.ranges", Rows.laid_marches_store_ranges)] ((World.doorLaid Tryd.prog 104 os).forCall (fun _ _ => 0) ⟨#[], args, []⟩).memory :=
  laidMetH_of_parts3 (fuel := 8) (laidMet_of_run' 8 (by kernel_rfl) (by kernel_rfl)) (by kernel_rfl) (by kernel_rfl)
theorem wf_i32 {n : Int} (h : (Lit.int .i32 n).wf = true) : -2147483648 ≤ n ∧ n ≤ 2147483647 := by
  simp [Lit.wf, IntKind.min, IntKind.max, IntKind.signed, IntKind.bits] at h
  omega
theorem wf_u16 {n : Int} (h : (Lit.int .u16 n).wf = true) : 0 ≤ n ∧ n ≤ 65535 := by
  simp [Lit.wf, IntKind.min, IntKind.max, IntKind.signed, IntKind.bits] at h
  omega
theorem u50 : Tryd.prog.underlying 50 = some (.array 2 21) := by kernel_rfl
theorem c50 : Tryd.prog.cellsOf 50 = 2 := by kernel_rfl
theorem c21 : Tryd.prog.cellsOf 21 = 1 := by kernel_rfl
theorem open_two {H : Type} {enc : TypeId × Value → H} {W : World} {base b0 : Nat} {spare : Nat → Bool} {held : Bool} {v : Value} {d : DataW H} {p : List MemPlace} (hv : Value.okWide Tryd.prog W .any b0 50 v) (h : DataW.Trod enc Tryd.prog W base spare held 50 v d p) :
    ∃ a b : Int, v = .agg #[.int .i32 a, .int .i32 b] ∧ p = [] ∧ (Lit.int .i32 a).wf = true ∧ (Lit.int .i32 b).wf = true := by
  obtain ⟨cs, rfl, hsz⟩ : ∃ cs : Array Value, v = .agg cs ∧ cs.size = 2 := by
    simp only [Value.okWide, u50] at hv
    obtain ⟨cs, h1, h2, _⟩ := hv
    exact ⟨cs, h1, by rw [h2]; exact c50⟩
  obtain ⟨x, y, rfl⟩ := array2 hsz
  obtain ⟨fuel, hf⟩ := h
  obtain ⟨xs, m, rfl, hx, -, hn, hel⟩ := DataW.trod_array u50 hf
  simp only [Prod.mk.injEq] at hx
  match xs, hn, hel, hx with
  | [z0, z1], _, hel, hx =>
    have h0 := hel 0 (by decide)
    have h1 := hel 1 (by decide)
    rw [c21] at h0 h1
    obtain ⟨a, e0, g0, w0⟩ := DataW.trod_int Tryd.underlying21 h0
    obtain ⟨b, e1, g1, w1⟩ := DataW.trod_int Tryd.underlying21 h1
    simp [Value.cells] at e0 e1
    subst e0 e1
    exact ⟨a, b, rfl, by rw [hx.2]; simp [g0, g1], w0, w1⟩

set_option maxRecDepth 100000 in
theorem lifted (os : Os) (started : os.Started) (H : Type) (enc : TypeId × Value → H) :
    ReturnsInHanded {} Tryd.checked os 6 .any (fun w args => (Rows.interpEvenSpec.pre enc Tryd.prog Tryd.f6 [] false w args ∧ laidMetH Tryd.prog [("marches/store.ranges", Rows.laid_marches_store_ranges)] w) ∧ sizedMet enc Tryd.prog Tryd.f6 (OpenSpec.ofChange Rows.interpEvenSpec) false w args)
      (Rows.interpEvenSpec.post enc Tryd.prog Tryd.f6 false true false false) := by
  refine returnsInHanded_of_change_and (C := Tryd.checked) (X := fun w _ => laidMetH Tryd.prog [("marches/store.ranges", Rows.laid_marches_store_ranges)] w) (fun _ _ _ hh h => h.of_heap hh) own started (by kernel_rfl) Tryd.func6
    (ChangeSpec.witness_shaped (enc := enc) (C := Tryd.checked) (os := os) (X := fun w _ => laidMetH Tryd.prog [("marches/store.ranges", Rows.laid_marches_store_ranges)] w) false (World.doorLaid Tryd.prog 104 os) #[.agg #[.int .i32 0, .int .i32 0], .agg #[.int .i32 0, .int .i32 0], .int .u16 0, .int .u16 0] 8 rfl (World.shaped_of_RefB (by kernel_rfl) (by kernel_rfl)) (by kernel_rfl) (by kernel_rfl) (by kernel_rfl) (door_met os _)) ?_
  intro W base args ds gs before hval0 hW _ _ hL _
  have hval : ∀ (j : Nat) t v, Tryd.f6.params[j]? = some t → args[j]? = some v → Value.okWide Tryd.prog W .any base t v := hval0
  have hW' := hW
  obtain ⟨p, q, hA0, hV, rfl, hfz, hnd⟩ := hW
  have hA : DataW.TrodAll enc Tryd.prog W 0 (fun _ => true) true Tryd.f6.params.toList args.toList ds p := hA0
  rw [Tryd.params6] at hA hval
  obtain ⟨v0, vs0, d0, ds0, p0, q0, hargs, rfl, rfl, h0, r0⟩ := trodAll_cons hA
  obtain ⟨v1, vs1, d1, ds1, p1, q1, rfl, rfl, rfl, h1, r1⟩ := trodAll_cons r0
  obtain ⟨v2, vs2, d2, ds2, p2, q2, rfl, rfl, rfl, h2, r2⟩ := trodAll_cons r1
  obtain ⟨v3, vs3, d3, ds3, p3, q3, rfl, rfl, rfl, h3, r3⟩ := trodAll_cons r2
  obtain ⟨rfl, rfl, rfl⟩ := trodAll_nil r3
  obtain rfl : args = #[v0, v1, v2, v3] := by cases args; simp_all
  obtain ⟨rfl, rfl⟩ := trodVars_none hV
  have h0k := h0
  have h1k := h1
  have h2k := h2
  have h3k := h3
  obtain ⟨a0, a1, rfl, rfl, w0, w1⟩ := open_two (hval 0 50 v0 rfl rfl) h0
  obtain ⟨a2, a3, rfl, rfl, w2, w3⟩ := open_two (hval 1 50 v1 rfl rfl) h1
  obtain ⟨a4, rfl, rfl, rfl, w4⟩ := open_int Tryd.underlying51 (hval 2 51 v2 rfl rfl) h2
  obtain ⟨a5, rfl, rfl, rfl, w5⟩ := open_int Tryd.underlying51 (hval 3 51 v3 rfl rfl) h3
  have hR := of_laid hL
  clear hA0 hval0
  simp only [List.append_nil] at hW'
  refine (even_any a0 a1 a2 a3 a4 a5 (wf_i32 w0) (wf_i32 w1) (wf_i32 w2) (wf_i32 w3) (wf_u16 w4) (wf_u16 w5) W hR).mono fun e W' ⟨he, hg⟩ => ?_
  subst he
  exact ⟨_, rfl, law_post (pa := []) (pv := []) hW' hg (fun _ _ _ => (trodAll_cons_mk (shut_bool Tryd.underlying4 _) trodAll_mk0)) (fun sp _ => (trodAll_cons_mk (WideElems.Trod_stays laid (by kernel_rfl) (of_decide_eq_true (by kernel_rfl)) h0k (fun x hx => absurd hx (List.not_mem_nil)) (fun x hx => absurd hx (List.not_mem_nil))) (trodAll_cons_mk (WideElems.Trod_stays laid (by kernel_rfl) (of_decide_eq_true (by kernel_rfl)) h1k (fun x hx => absurd hx (List.not_mem_nil)) (fun x hx => absurd hx (List.not_mem_nil))) (trodAll_cons_mk (WideElems.Trod_stays laid (by kernel_rfl) (of_decide_eq_true (by kernel_rfl)) h2k (fun x hx => absurd hx (List.not_mem_nil)) (fun x hx => absurd hx (List.not_mem_nil))) (trodAll_cons_mk (WideElems.Trod_stays laid (by kernel_rfl) (of_decide_eq_true (by kernel_rfl)) h3k (fun x hx => absurd hx (List.not_mem_nil)) (fun x hx => absurd hx (List.not_mem_nil))) trodAll_mk0))))) (fun _ _ => rfl)⟩

theorem k0 : (Rows.interpEvenRow.wf (OpenSpec.ofChange Rows.interpEvenSpec) : Bool) = true := by kernel_rfl
theorem k3 : (Tryd.f6.params.all (Tryd.pinned.checked.prog.readableRec ·) : Bool) = true := by kernel_rfl
theorem k4 : (namedTie Tryd.pinned.checked.prog Rows.interpEvenRow.named Rows.interpEvenSpec.vars : Bool) = true := by kernel_rfl
theorem k5 : ((Rows.interpEvenRow.stops == []) : Bool) = true := by kernel_rfl
theorem k7 : ((Rows.interpEvenRow.knobs == []) : Bool) = true := by kernel_rfl
theorem k9 : ((Rows.interpEvenRow.inPlace == Tryd.pinned.checked.prog.inPlace 6) : Bool) = true := by kernel_rfl
theorem k10 : ((Rows.interpEvenRow.unfollowed == Tryd.pinned.checked.prog.unfollowed 6) : Bool) = true := by kernel_rfl
theorem k11 : ((Rows.interpEvenRow.recurses == Tryd.pinned.checked.prog.recurses 6) : Bool) = true := by kernel_rfl
theorem k12 : ((Rows.interpEvenRow.named == Tryd.pinned.checked.prog.varsNamed 6) : Bool) = true := by kernel_rfl
theorem k13 : ((Rows.interpEvenRow.maps == (Tryd.f6.params.toList ++ Rows.interpEvenSpec.plain.varTypes Tryd.pinned.checked.prog).any (Tryd.pinned.checked.prog.mapsRec ·)) : Bool) = true := by kernel_rfl
theorem k14 : ((Rows.interpEvenRow.ifaces == (Tryd.f6.params.toList ++ Rows.interpEvenSpec.plain.varTypes Tryd.pinned.checked.prog).any (Tryd.pinned.checked.prog.ifacesRec ·)) : Bool) = true := by kernel_rfl
theorem k15 : ((Rows.interpEvenRow.mapsOut == Tryd.pinned.checked.prog.mapsAmong Tryd.f6.resultTypes.toList) : Bool) = true := by kernel_rfl
theorem k16 : ((Rows.interpEvenRow.loops == (Tryd.f6.params.toList ++ Rows.interpEvenSpec.plain.varTypes Tryd.pinned.checked.prog).any (Tryd.pinned.checked.prog.loopsFrom ·)) : Bool) = true := by kernel_rfl
theorem k17 : ((Rows.interpEvenRow.wideKeys == (Tryd.f6.params.toList ++ Rows.interpEvenSpec.plain.varTypes Tryd.pinned.checked.prog ++ Tryd.f6.resultTypes.toList).any (Tryd.pinned.checked.prog.wideKeysFrom ·)) : Bool) = true := by kernel_rfl
theorem k18 : (Rows.interpEvenSpec.vars.all (Tryd.pinned.checked.prog.varReadable ·) : Bool) = true := by kernel_rfl
theorem k19 : (Tryd.f6.resultTypes.all (fun t => Tryd.pinned.checked.prog.readableRec t && decide (t < Tryd.pinned.checked.prog.types.size)) : Bool) = true := by kernel_rfl
theorem k20 : ((Rows.interpEvenRow.ifacesOut == Tryd.f6.resultTypes.toList.any (Tryd.pinned.checked.prog.ifacesRec ·)) : Bool) = true := by kernel_rfl
theorem k21 : ((Rows.interpEvenRow.loopsOut == Tryd.f6.resultTypes.toList.any (Tryd.pinned.checked.prog.loopsFrom ·)) : Bool) = true := by kernel_rfl
theorem k23 : (Rows.interpEvenRow.shortTexts.isNone : Bool) = true := by kernel_rfl
theorem k29 : ((Rows.interpEvenRow.pinned == Rows.interpEvenRow.pinnedBy) : Bool) = true := by kernel_rfl
theorem k30 : ((Rows.interpEvenRow.veiled == (Tryd.f6.params.toList ++ Rows.interpEvenSpec.plain.varTypes Tryd.pinned.checked.prog ++ Tryd.f6.resultTypes.toList).any (Tryd.pinned.checked.prog.veiledRec ·)) : Bool) = true := by kernel_rfl
theorem k31 : (Rows.interpEvenRow.veiledFits Tryd.pinned.checked.prog Tryd.f6.params.toList (Tryd.f6.params.toList ++ Rows.interpEvenSpec.plain.varTypes Tryd.pinned.checked.prog ++ Tryd.f6.resultTypes.toList) : Bool) = true := by kernel_rfl
theorem closed : joinedFacts Tryd.pinned.checked.prog 6 Tryd.f6 Rows.interpEvenSpec Rows.interpEvenRow = true := (and_tt (and_tt (and_tt (and_tt (and_tt (and_tt (and_tt (and_tt (and_tt (and_tt (and_tt (and_tt (and_tt (and_tt (and_tt (and_tt (and_tt (and_tt (and_tt (and_tt (and_tt (and_tt (and_tt (and_tt (and_tt (and_tt (and_tt (and_tt (and_tt (and_tt (and_tt k0 fact1) fact2) k3) k4) k5) fact6) k7) fact8) k9) k10) k11) k12) k13) k14) k15) k16) k17) k18) k19) k20) k21) fact22) k23) fact24) fact25) fact26) fact27) (by kernel_rfl)) k29) k30) k31)
theorem named : Tryd.pinned.checked.prog.funcNamed Rows.interpEvenRow.func = some 6 := by kernel_rfl
theorem inst : Tryd.f6.isInstance Tryd.pinned.checked.prog Rows.interpEvenRow.origin Rows.interpEvenRow.targs := of_decide_eq_true (by kernel_rfl)
theorem wrap : Tryd.f6.isWrapper Tryd.pinned.checked.prog Rows.interpEvenRow.wrapper Rows.interpEvenRow.mainSum := by
  unfold Func.isWrapper
  first | (rw [if_pos (by decide +kernel)]; kernel_rfl) | (rw [if_neg (by decide +kernel)]; exact ⟨rfl, rfl⟩)
theorem over : Rows.interpEvenRow.holds Tryd.pinned (OpenSpec.ofChange Rows.interpEvenSpec) :=
  OpenClaim.holds_of_wide 6 Tryd.f6 rfl rfl rfl rfl rfl rfl rfl ⟨rfl, rfl, rfl, rfl, rfl⟩ rfl rfl rfl rfl rfl named Tryd.func6 closed inst wrap
    (fun os started H enc _ => lifted os started H enc)
theorem card_holds : Claim7.holds Tryd.pinned (.plain (OpenSpec.ofChange Rows.interpEvenSpec)) Rows.interpEvenCard :=
  Claim7.holds_tied_plain_at .later [] [.data] true (true, "c4ea2b264f8c10b2f54221e5308f0d33dbcb3682bc0eb0295667e0a30b40a42e") false
    over (fun _ h => by cases h) (by kernel_rfl) (fun _ h => by cases h) interpEven_row_tie rfl ⟨rfl, rfl⟩ (by kernel_rfl) rfl
    (fun f fn hf hfn => by
      obtain rfl : f = 6 := Option.some.inj (named.symm.trans hf) |>.symm
      obtain rfl : fn = Tryd.f6 := (Option.some.inj (Tryd.func6.symm.trans hfn)).symm
      exact ⟨by kernel_rfl, fun j t ht => by
        rw [Tryd.params6] at ht
        have h3 : t = 50 ∨ t = 51 := by
          match j, ht with
          | 0, ht => exact .inl (by simpa using ht.symm)
          | 1, ht => exact .inl (by simpa using ht.symm)
          | 2, ht => exact .inr (by simpa using ht.symm)
          | 3, ht => exact .inr (by simpa using ht.symm)
          | j + 4, ht => simp at ht
        rcases h3 with rfl | rfl
        · exact (show Tryd.prog.wantsStandIn 50 = false by kernel_rfl)
        · exact (show Tryd.prog.wantsStandIn 51 = false by kernel_rfl)⟩)
    (by kernel_rfl)
end Go.Proofs.YtjjodmkblpdnhaaDoor.interpEven
namespace Go.Proofs.YtjjodmkblpdnhaaDoor
theorem interpEven_holds : Rows.InterpEvenCardSaid := interpEven.card_holds
end Go.Proofs.YtjjodmkblpdnhaaDoor
