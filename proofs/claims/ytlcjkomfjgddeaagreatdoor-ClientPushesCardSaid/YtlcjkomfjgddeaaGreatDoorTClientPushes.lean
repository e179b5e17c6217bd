/- ClientPushes returns true for every list of gaps and every number that a row hands over. -/
import Derived.Test.YtlcjkomfjgddeaaGreatDoorLClientPushes
import Derived.Test.YtlcjkomfjgddeaaGreatDoorOpenC
set_option linter.unusedVariables false
set_option linter.unusedSimpArgs false
namespace Go.Proofs.YtlcjkomfjgddeaaGreatDoor
open Go Go.ChangeShapes Go.WideShapes Go.ChangeAt Go.RowKit Go.Joins
set_option maxRecDepth 100000

theorem open_bytes {H : Type} {enc : TypeId × Value → H} {W : World} {b0 : Nat} {v : Value} {d : DataW H} {p : List MemPlace} (hv : Value.okWide Tryz.prog W .any b0 52 v) (h : DataW.Trod enc Tryz.prog W 0 (fun _ => true) true 52 v d p) :
    ∃ a n c gs, v = .slice a n c ∧ n ≤ c ∧ BytesAt W a n gs := by
  obtain ⟨a0, len, cap, rfl⟩ := Go.WideShapes.okWide_slice Tryz.underlying52 hv
  obtain ⟨fuel, hf⟩ := h
  rcases open_ints Tryz.underlying52 Tryz.underlying5 cU8 hf with ⟨hcs, hxx⟩ | ⟨a, len', cap', zs, hcs, _, hl, hm, hz, hxx, hcell, hwz⟩
  · simp [Value.cells] at hcs
    obtain ⟨rfl, rfl, rfl⟩ := hcs
    exact ⟨none, 0, 0, [], rfl, Nat.le_refl _, rfl, by omega, fun i hi => absurd hi (by omega)⟩
  · simp [Value.cells] at hcs
    obtain ⟨rfl, rfl, rfl⟩ := hcs
    simp only [if_true] at hz
    have hlt : (zs.take len).length = len := by rw [List.length_take, hz]; exact Nat.min_eq_left hl
    refine ⟨some a, len, cap, zs.take len, rfl, hl, hlt.symm, by unfold maxLen at hm; omega, fun i hi => ?_⟩
    obtain ⟨b, off, rfl, hc⟩ := ints_at hcell (by omega)
    have h1 := hc i (by omega)
    have hg : (zs.take len).getD i 0 = zs.getD i 0 := by
      simp only [List.getD]
      rw [List.getElem?_take, if_pos hi]
    have hz2 : zs[i]? = some (zs.getD i 0) := by
      rw [List.getD, List.getElem?_eq_getElem (by omega)]; rfl
    rw [hg]
    exact ⟨b, off, rfl, h1, wf_u8o (hwz _ (List.mem_iff_getElem?.2 ⟨i, hz2⟩))⟩
theorem clientPushes_all {W : World} (a : Option Addr) (n c : Nat) (gs : List Int) (hnc : n ≤ c) (hB : BytesAt W a n gs) (nn : Int) (hn : 0 ≤ nn ∧ nn ≤ 65535) (hR : RG W) (hM : RM W) (hw : 2 ≤ W.heap.size) :
    Calls Tryz.prog 5 #[.slice a n c, .int .u16 nn] W fun e w' => e = .returned (.bool true) ∧ Below W.heap.size W w' :=
  pushes_any gs a n c hnc nn hn W hR hM hw hB
end Go.Proofs.YtlcjkomfjgddeaaGreatDoor
