/- The condition of the rows (the table's datum) gives the walks' own: RG. -/
import Derived.Test.YtjjodmkblpdnhaaDoorRows
import Derived.Test.YtjjodmkblpdnhaaDoorStore1
import Derived.ProofKit
import Derived.LaidMore
import Derived.OpenShut
import Derived.Stop.Joined
set_option linter.unusedVariables false
set_option linter.unusedSimpArgs false
namespace Go.Proofs.YtjjodmkblpdnhaaDoor
open Go Go.ChangeShapes Go.WideShapes Go.ChangeAt Go.RowKit

theorem gR : Tryd.prog.globalNamed "marches/store.ranges" = some 0 := by kernel_rfl
theorem trod_at {H : Type} {enc : TypeId × Value → H} {P : Program} {W : World} {base : Nat} {spare : Nat → Bool} {held : Bool} {fuel : Nat} {t e : TypeId} {n : Nat} {cs : List Value} {ds : List (DataW H)} {ps : List MemPlace} (ht : P.underlying t = some (.array n e)) (h : DataW.trod enc P W base spare held fuel t cs = some (.agg ds, ps)) (i : Nat) (hi : i < n) {d : DataW H} (hd : ds[i]? = some d) :
    ∃ m p, DataW.trod enc P W base spare held m e ((cs.drop (i * P.cellsOf e)).take (P.cellsOf e)) = some (d, p) := by
  obtain ⟨xs, m, rfl, hx, -, hn, hel⟩ := DataW.trod_array ht h
  simp only [Prod.mk.injEq, DataW.agg.injEq] at hx
  obtain ⟨rfl, -⟩ := hx
  rw [List.getElem?_map] at hd
  have := hel i hi
  cases hxi : xs[i]? with
  | none => rw [hxi] at hd; cases hd
  | some x =>
    rw [hxi] at hd this
    simp only [Option.map_some, Option.some.injEq] at hd
    exact ⟨m, x.2, by rw [this, ← hd]⟩
theorem tR : (Tryd.prog.globals[0]?).map (·.type) = some 122 := by kernel_rfl
theorem uR : Tryd.prog.underlying 122 = some (.array 11 121) := by kernel_rfl
theorem uS : Tryd.prog.underlying 121 = some (.array 4 120) := by kernel_rfl
theorem cT : Tryd.prog.cellsOf 120 = 2 := by kernel_rfl
theorem cS : Tryd.prog.cellsOf 121 = 8 := by kernel_rfl
theorem cI : Tryd.prog.cellsOf 3 = 1 := by kernel_rfl
theorem laid_eq {H : Type} : (Rows.laid_marches_store_ranges : DataW H) = .agg ((List.range 11).map fun i => .agg ((List.range 4).map fun r => .agg [.lit (.int .i64 (tab.getD (i * 8 + 2 * r) 0)), .lit (.int .i64 (tab.getD (i * 8 + 2 * r + 1) 0))])) := by rfl
theorem of_laid {W : World} (h : laidMetH Tryd.prog [("marches/store.ranges", Rows.laid_marches_store_ranges)] W) : RG W := by
  rw [MakeChecks.laidMetH_plain _ _ _ (by kernel_rfl)] at h
  obtain ⟨ps, ⟨g0, t0, cs0, f0, p0, q0, hg0, ht0, hv0, hd0, hrest⟩, hps⟩ := h
  obtain rfl := Option.some.inj (gR.symm.trans hg0)
  obtain rfl := Option.some.inj (tR.symm.trans ht0)
  rw [laid_eq] at hd0
  intro j hj
  have hi : j / 8 < 11 := by omega
  have hr : (j / 2) % 4 < 4 := by omega
  obtain ⟨m1, p1, k1⟩ := trod_at uR hd0 (j / 8) hi (d := .agg ((List.range 4).map fun r => .agg [.lit (.int .i64 (tab.getD (j / 8 * 8 + 2 * r) 0)), .lit (.int .i64 (tab.getD (j / 8 * 8 + 2 * r + 1) 0))])) (by simp [List.getElem?_map, hi])
  obtain ⟨m2, p2, k2⟩ := trod_at uS k1 ((j / 2) % 4) hr (d := .agg [.lit (.int .i64 (tab.getD (j / 8 * 8 + 2 * ((j / 2) % 4)) 0)), .lit (.int .i64 (tab.getD (j / 8 * 8 + 2 * ((j / 2) % 4) + 1) 0))]) (by simp [List.getElem?_map, hr])
  obtain ⟨y0, y1, m3, hx, -, h0, h1⟩ := trod_struct2 Tryd.underlying120 k2
  simp only [Prod.mk.injEq, DataW.agg.injEq, List.cons.injEq, and_true] at hx
  obtain ⟨⟨hy0, hy1⟩, -⟩ := hx
  obtain ⟨v0, e0, g0, -⟩ := DataW.trod_int Tryd.underlying3 h0
  obtain ⟨v1, e1, g1, -⟩ := DataW.trod_int Tryd.underlying3 h1
  rw [g0] at hy0
  rw [g1] at hy1
  simp only [DataW.lit.injEq, Lit.int.injEq, true_and] at hy0 hy1
  rw [← hy0] at e0
  rw [← hy1] at e1
  rw [cT, cS, cI] at e0 e1
  rw [World.var?_cell gR hv0 j]
  have q0 := congrArg (fun l => l[0]?) e0
  have q1 := congrArg (fun l => l[0]?) e1
  simp only [List.getElem?_take, List.getElem?_drop, Array.getElem?_toList] at q0 q1
  rcases (by omega : j % 2 = 0 ∨ j % 2 = 1) with hs | hs
  · rw [show j / 8 * 8 + 2 * (j / 2 % 4) = j by omega] at q0
    simp [show j / 8 * 8 + (j / 2 % 4 * 2) = j by omega] at q0
    simpa using q0.2
  · rw [show j / 8 * 8 + 2 * (j / 2 % 4) + 1 = j by omega] at q1
    simp [show j / 8 * 8 + (j / 2 % 4 * 2 + 1) = j by omega] at q1
    simpa using q1.2
end Go.Proofs.YtjjodmkblpdnhaaDoor
