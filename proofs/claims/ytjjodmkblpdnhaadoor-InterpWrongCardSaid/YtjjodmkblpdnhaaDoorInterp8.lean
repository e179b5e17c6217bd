/- interp.Valid. -/
import Derived.Test.YtjjodmkblpdnhaaDoorInterp7
set_option linter.unusedVariables false
set_option linter.unusedSimpArgs false
namespace Go.Proofs.YtjjodmkblpdnhaaDoor
open Go Go.RowKit Go.Sort
set_option maxRecDepth 100000
attribute [local go_sem] opLow opUpon opLow2 opUpon2

/-- the first j worlds are a history's -/
def Upto (l : List Wld) (j : Nat) : Prop := (∀ i x, i < j → l[i]? = some x → Valid x) ∧ ∀ i x y, i + 1 < j → l[i]? = some x → l[i + 1]? = some y → x.t < y.t
theorem Upto.nil (l : List Wld) : Upto l 0 := ⟨fun i x h => absurd h (by omega), fun i x y h => absurd h (by omega)⟩
theorem Upto.step {l : List Wld} {j : Nat} {x : Wld} (h : Upto l j) (hx : l[j]? = some x) (hv : Valid x) (ht : ∀ y, 0 < j → l[j - 1]? = some y → y.t < x.t) : Upto l (j + 1) := by
  refine ⟨fun i y hi hy => ?_, fun i y z hi hy hz => ?_⟩
  · rcases Nat.lt_succ_iff_lt_or_eq.1 hi with h1 | rfl
    · exact h.1 i y h1 hy
    · rw [hx] at hy; cases hy; exact hv
  · rcases Nat.lt_or_ge (i + 1) j with h1 | h1
    · exact h.2 i y z h1 hy hz
    · obtain rfl : j = i + 1 := by omega
      rw [hx] at hz; cases hz
      exact ht y (by omega) (by simpa using hy)
theorem Upto.all {l : List Wld} {j : Nat} (h : Upto l j) (hj : l.length ≤ j) : (∀ w ∈ l, Valid w) ∧ Rises (l.map Wld.t) := by
  refine ⟨fun x hx => ?_, fun i hi => ?_⟩
  · obtain ⟨i, hi⟩ := List.mem_iff_getElem?.1 hx
    exact h.1 i x (by have := (List.getElem?_eq_some_iff.1 hi).1; omega) hi
  · rw [List.length_map] at hi
    obtain ⟨x, hx⟩ := at_lt (l := l) (i := i) (by omega)
    obtain ⟨y, hy⟩ := at_lt (l := l) (i := i + 1) (by omega)
    rw [map_at Wld.t hx, map_at Wld.t hy]
    exact h.2 i x y (by omega) hx hy
theorem validH_no1 {l : List Wld} {j : Nat} {x : Wld} (hx : l[j]? = some x) (h : ¬ Valid x) : decide (ValidH l) = false := by
  simp only [decide_eq_false_iff_not]
  exact fun hv => h (hv.1.1 x (List.mem_iff_getElem?.2 ⟨j, hx⟩))
theorem validH_no2 {l : List Wld} {j : Nat} {x y : Wld} (hj : 0 < j) (hy : l[j - 1]? = some y) (hx : l[j]? = some x) (h : ¬ y.t < x.t) : decide (ValidH l) = false := by
  simp only [decide_eq_false_iff_not]
  intro hv
  have h1 := hv.1.2 (j - 1) (by rw [List.length_map]; have := (List.getElem?_eq_some_iff.1 hx).1; omega)
  rw [map_at Wld.t hy, show j - 1 + 1 = j by omega, map_at Wld.t hx] at h1
  exact h h1
set_option maxHeartbeats 4000000 in
theorem validH_any (l : List Wld) (a : Option Addr) (n c : Nat) (w : World) (h : HistAt w (.slice a n c) l) (hR : RG w) :
    Calls Tryd.prog 19 #[.slice a n c] w fun e w' => e = .returned (.bool (decide (ValidH l))) ∧ Below w.heap.size w w' := by
  have hl := same_off h
  have HL := Lib.hid hl.1
  have hn2 := hl.2
  have HH := Lib.hid h
  clear hl h
  go_enter Tryd.func19, Tryd.ntmps19
  go_wp2
  go_loopw [7] (fun v7 wr => ∃ j : Nat, j ≤ n ∧ v7 = .int .i64 j ∧ Hid (Upto l j) ∧ Below w.heap.size w wr) (fun v7 _ => n - (intOf v7).toNat)
  case atStart => exact ⟨0, by omega, rfl, Lib.hid (Upto.nil l), by go_grown⟩
  case round =>
    obtain ⟨j, hj, rfl, HJ, hb⟩ := hrel
    by_cases hlt : j < n
    · obtain ⟨x, hx⟩ := at_lt (l := l) (i := j) (by rw [← HL.out]; exact hlt)
      obtain ⟨b, off, rfl, p⟩ := same_at HH.out hx
      obtain ⟨p0, xa, xn, xc, p1, ph⟩ := p
      replace p0 := cell_later hb p0
      replace p1 := cell_later hb p1
      replace ph := ph.below hb
      have HX := Lib.hid hx
      have hs := hb.size
      have ltb := World.block_lt_of_cell? wr _ p0
      clear hx
      go_wp2
      refine wp_name (fun W1 => Bk W1 wr.heap.size #[.int .i64 x.t, .slice xa xn xc] 27 ∧ W1.cell? ⟨b, off + j * 2, none⟩ = some (.int .i64 x.t) ∧ EntsAt W1 (.slice xa xn xc) x.es ∧ Below w.heap.size w W1) ⟨Bk.made _ _ _, cell_later ((Below.refl _ _).alloc (Nat.le_refl _) _) p0, ph.below ((Below.refl _ _).alloc (Nat.le_refl _) _), hb.alloc hs _⟩ ?_
      clear p0 p1 ph hb ltb
      rintro W1 ⟨B1, p0, ph, hb1⟩
      have c0 := cell_regrown (B1.cell (v := .int .i64 x.t) 0 rfl)
      have c1 := cell_regrown (B1.cell (v := .slice xa xn xc) 1 rfl)
      have VT := fun d os => valid_any x xa xn xc (grow (redrawn W1 d) os) ((hR.below hb1).below (below_regrown _ _ _)) (ph.below (below_regrown _ _ _))
      by_cases hv : Valid x
      · rw [decide_eq_true hv] at VT
        have HV := Lib.hid hv
        clear hv
        rcases j with _ | j
        · refine wp_region_low 17 (by kernel_rfl) (by kernel_rfl) ?_
          simp only [List.take, List.drop]
          iterate 17 (refine low_step (fun K hK => ?_); go_simp; first | (refine hK _ ?_; clear hK K) | (apply Exists.intro; refine ⟨fun p => ?_, hK _ ?_⟩; (first | with_reducible exact VT _ _); clear hK K))
          refine low_nil ?_
          intro W2 hC
          have hb2 := hC.1
          obtain ⟨hb', hs'⟩ := below_c (w := w) hb2 hb1
          clear VT hC hb2 hb1 B1 c0 c1 p0 ph
          go_wp2
          go_roundw
          case rel => exact ⟨0 + 1, by omega, by go_num, Lib.hid (HJ.out.step HX.out HV.out (fun y hy => absurd hy (by omega))), hb'⟩
          case measure => simp [intOf]; omega
        · obtain ⟨y, hy⟩ := at_lt (l := l) (i := j) (by rw [← HL.out]; omega)
          obtain ⟨b', off', he, q0, -⟩ := same_at HH.out hy
          cases he
          replace q0 := cell_regrown (cell_later hb1 q0)
          have HY := Lib.hid hy
          have e1 : IntKind.i64.wrap (j : Int) = (j : Int) := by rw [IntKind.wrap_i64]; omega
          have e2 : (j : Int) < n := by omega
          have e3 : (0 : Int) < (j : Int) + 1 := by omega
          have e5 : (0 : Int) ≤ (j : Int) := by omega
          clear hy
          refine wp_region_low 17 (by kernel_rfl) (by kernel_rfl) ?_
          simp only [List.take, List.drop]
          iterate 17 (refine low_step (fun K hK => ?_); go_simp; first | (refine hK _ ?_; clear hK K) | (apply Exists.intro; refine ⟨fun p => ?_, hK _ ?_⟩; (first | with_reducible exact VT _ _); clear hK K))
          refine low_nil ?_
          intro W2 hC
          have hb2 := hC.1
          obtain ⟨hb', hs'⟩ := below_c (w := w) hb2 hb1
          clear VT hC hb2 hb1 B1 c0 c1 p0 ph q0
          by_cases ht : x.t ≤ y.t
          · go_wp2
            go_returns
            exact ⟨ret_bool (validH_no2 (j := j + 1) (by omega) HY.out HX.out (by omega)).symm, hb'⟩
          · go_wp2
            go_roundw
            case rel => exact ⟨j + 1 + 1, by omega, by go_num, Lib.hid (HJ.out.step HX.out HV.out (fun z _ hz => by
              rw [Nat.add_sub_cancel, HY.out] at hz; cases hz; omega)), hb'⟩
            case measure => simp [intOf]; omega
      · rw [decide_eq_false hv] at VT
        have HV := Lib.hid hv
        clear hv
        refine wp_region_low 17 (by kernel_rfl) (by kernel_rfl) ?_
        simp only [List.take, List.drop]
        iterate 17 (refine low_step (fun K hK => ?_); go_simp; first | (refine hK _ ?_; clear hK K) | (apply Exists.intro; refine ⟨fun p => ?_, hK _ ?_⟩; (first | with_reducible exact VT _ _); clear hK K))
        refine low_nil ?_
        intro W2 hC
        have hb2 := hC.1
        obtain ⟨hb', hs'⟩ := below_c (w := w) hb2 hb1
        clear VT hC hb2 hb1 B1 c0 c1 p0 ph
        go_wp2
        go_returns
        exact ⟨ret_bool (validH_no1 HX.out HV.out).symm, hb'⟩
    · obtain rfl : n = j := by omega
      have hd : decide (ValidH l) = decide ((n : Int) ≤ 40) := by
        have := HJ.out.all (by rw [← HL.out]; exact Nat.le_refl _)
        have hl := HL.out
        rw [decide_eq_decide]
        unfold ValidH
        constructor
        · exact fun h => by have := h.2; omega
        · exact fun h => ⟨this, by omega⟩
      have HD := Lib.hid hd
      clear hd
      go_wp2
      go_returns
      exact ⟨ret_bool (by rw [HD.out]), hb⟩
end Go.Proofs.YtjjodmkblpdnhaaDoor
