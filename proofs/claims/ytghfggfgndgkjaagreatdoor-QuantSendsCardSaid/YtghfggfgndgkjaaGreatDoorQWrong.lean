/- Contracts of package quant's methods on grids that are not valid, and of bits.NewReader. -/
import Derived.Test.YtghfggfgndgkjaaGreatDoorQLaw
import Derived.Test.YtghfggfgndgkjaaGreatDoorBlk
import Derived.Deep.AppendLies
import Derived.Test.YtghfggfgndgkjaaGreatDoorReg2
set_option linter.unusedVariables false
set_option linter.unusedSimpArgs false
namespace Go.Proofs.YtghfggfgndgkjaaGreatDoor
open Go Go.RowKit Go.Sort
attribute [local go_sem] opLow opUpon

theorem get_no (lo hi b : Int) (r : Value) (hg : ¬ GV lo hi b) (w : World) :
    Calls Tryz.prog 37 #[G lo hi b, r] w fun e w' => e = .returned (.tuple #[.int .i64 0, .int .i64 2]) ∧ Below w.heap.size w w' := by
  have HG := Lib.hid hg
  clear hg
  go_enter Tryz.func37, Tryz.ntmps37
  go_wp2_with (go_at_call 49; refine (valid_no _ _ _ HG.out _).mono ?_; rintro e w1 ⟨rfl, hb1⟩; obtain ⟨hg1, hs1⟩ := below_c (w := w) hb1 (by go_grown); clear hb1)
  go_returns
  exact ⟨rfl, by go_grown⟩
theorem put_no (lo hi b x : Int) (r : Value) (hg : ¬ GV lo hi b) (w : World) :
    Calls Tryz.prog 29 #[G lo hi b, r, .int .i64 x] w fun e w' => e = .returned (.int .i64 2) ∧ Below w.heap.size w w' := by
  have HG := Lib.hid hg
  clear hg
  go_enter Tryz.func29, Tryz.ntmps29
  go_wp2_with (go_at_call 46; refine (index_no _ _ _ _ HG.out _).mono ?_; rintro e w1 ⟨rfl, hb1⟩; obtain ⟨hg1, hs1⟩ := below_c (w := w) hb1 (by go_grown); clear hb1)
  go_returns
  exact ⟨rfl, by go_grown⟩
abbrev PL (a b c d e f : Int) : Value := .agg #[.int .i64 a, .int .i64 b, .int .i64 c, .int .i64 d, .int .i64 e, .int .i64 f]
theorem pvalid_no1 (a b c d e' f : Int) (h : ¬ GV a b c) (w : World) :
    Calls Tryz.prog 67 #[PL a b c d e' f] w fun e w' => e = .returned (.bool false) ∧ Below w.heap.size w w' := by
  have HG := Lib.hid h
  clear h
  go_enter Tryz.func67, Tryz.ntmps67
  go_wp2_with (go_at_call 49; refine (valid_no _ _ _ HG.out _).mono ?_; rintro e w1 ⟨rfl, hb1⟩; obtain ⟨hg1, hs1⟩ := below_c (w := w) hb1 (by go_grown); clear hb1)
  go_returns
  exact ⟨rfl, by go_grown⟩
theorem pvalid_no2 (a b c d e' f : Int) (h1 : GV a b c) (h : ¬ GV d e' f) (w : World) :
    Calls Tryz.prog 67 #[PL a b c d e' f] w fun e w' => e = .returned (.bool false) ∧ Below w.heap.size w w' := by
  have HG := Lib.hid h
  have HV := Lib.hid h1
  clear h h1
  go_enter Tryz.func67, Tryz.ntmps67
  go_wp2_with fail
  with_reducible refine (valid_yes _ _ _ HV.out _).mono ?_
  rintro e w1 ⟨rfl, hb1⟩
  have B1 := Bk.below (g := w.heap.size) (cs := #[.int .i64 a, .int .i64 b, .int .i64 c, .int .i64 d, .int .i64 e', .int .i64 f]) (t := 65) (Bk.made _ _ _) hb1
  have c3 := B1.cell (v := .int .i64 d) 3 rfl
  have c4 := B1.cell (v := .int .i64 e') 4 rfl
  have c5 := B1.cell (v := .int .i64 f) 5 rfl
  obtain ⟨hg1, hs1⟩ := below_c (w := w) hb1 (by go_grown)
  clear hb1
  go_wp2_with fail
  with_reducible refine (valid_no _ _ _ HG.out _).mono ?_
  rintro e w2 ⟨rfl, hb2⟩
  obtain ⟨hg2, hs2⟩ := below_c (w := w) hb2 (by go_grown)
  clear hb2
  go_wp2
  go_returns
  exact ⟨rfl, by go_grown⟩
theorem pvalid_no (a b c d e' f : Int) (h : ¬ (GV a b c ∧ GV d e' f)) (w : World) :
    Calls Tryz.prog 67 #[PL a b c d e' f] w fun e w' => e = .returned (.bool false) ∧ Below w.heap.size w w' := by
  by_cases h1 : GV a b c
  · exact pvalid_no2 a b c d e' f h1 (fun h2 => h ⟨h1, h2⟩) w
  · exact pvalid_no1 a b c d e' f h1 w
theorem pget_no (a b c d e' f : Int) (r : Value) (h : ¬ (GV a b c ∧ GV d e' f)) (w : World) :
    Calls Tryz.prog 38 #[PL a b c d e' f, r] w fun e w' => e = .returned (.tuple #[.agg #[.int .i64 0, .int .i64 0], .int .i64 2]) ∧ Below w.heap.size w w' := by
  have HG := Lib.hid h
  clear h
  go_enter Tryz.func38, Tryz.ntmps38
  go_wp2_with fail
  with_reducible refine (pvalid_no _ _ _ _ _ _ HG.out _).mono ?_
  rintro e w1 ⟨rfl, hb1⟩
  have B1 := Bk.below (g := w.heap.size + 1) (cs := #[.int .i64 0, .int .i64 0]) (t := 58) (Bk.at_ (by simp)) hb1
  have c0 := B1.cell (v := .int .i64 0) 0 rfl
  have c1 := B1.cell (v := .int .i64 0) 1 rfl
  have f0 := B1.free 0
  have f1 := B1.free 1
  obtain ⟨hg1, hs1⟩ := below_c (w := w) hb1 (by go_grown)
  clear hb1
  go_wp2
  refine bodyPost_ret (v := .tuple #[.agg #[.int .i64 0, .int .i64 0], .int .i64 2]) (by simp [results, Tryz.results38, go_sem, c0, c1]; try rfl) rfl ⟨rfl, by go_grown⟩
theorem pput_no (a b c d e' f x y : Int) (r : Value) (h : ¬ (GV a b c ∧ GV d e' f)) (w : World) :
    Calls Tryz.prog 30 #[PL a b c d e' f, r, .agg #[.int .i64 x, .int .i64 y]] w fun e w' => e = .returned (.int .i64 2) ∧ Below w.heap.size w w' := by
  have HG := Lib.hid h
  clear h
  go_enter Tryz.func30, Tryz.ntmps30
  go_wp2_with (go_at_call 67; refine (pvalid_no _ _ _ _ _ _ HG.out _).mono ?_; rintro e w1 ⟨rfl, hb1⟩; obtain ⟨hg1, hs1⟩ := below_c (w := w) hb1 (by go_grown); clear hb1)
  go_returns
  exact ⟨rfl, by go_grown⟩
theorem fit_no1 (lo hi most : Int) (h : lo < -1099511627776 ∨ hi ≤ lo ∨ 1099511627776 < hi) (w : World) :
    Calls Tryz.prog 6 #[.int .i64 lo, .int .i64 hi, .int .i64 most] w fun e w' => e = .returned (.tuple #[G 0 0 0, .int .i64 2]) ∧ Below w.heap.size w w' := by
  have HG := Lib.hid h
  clear h
  go_enter Tryz.func6, Tryz.ntmps6
  go_wp2_with fail
  with_reducible refine (ranged_no _ _ HG.out _).mono ?_
  rintro e w1 ⟨rfl, hb1⟩
  have B1 := Bk.below (g := w.heap.size + 1 + 1 + 1) (cs := #[.int .i64 0, .int .i64 0, .int .i64 0]) (t := 23) (Bk.at_ (by simp)) hb1
  obtain ⟨c0, c1, c2⟩ := cells3 B1
  obtain ⟨f0, f1, f2⟩ := free3 B1
  obtain ⟨hg1, hs1⟩ := below_c (w := w) hb1 (by go_grown)
  clear hb1
  go_wp2
  refine bodyPost_ret (v := .tuple #[G 0 0 0, .int .i64 2]) (by simp [results, Tryz.results6, go_sem, c0, c1, c2]; try rfl) rfl ⟨rfl, by go_grown⟩
theorem fit_no2 (lo hi most : Int) (h1 : -1099511627776 ≤ lo) (h2 : lo < hi) (h3 : hi ≤ 1099511627776) (hm : most < 0) (w : World) :
    Calls Tryz.prog 6 #[.int .i64 lo, .int .i64 hi, .int .i64 most] w fun e w' => e = .returned (.tuple #[G 0 0 0, .int .i64 2]) ∧ Below w.heap.size w w' := by
  go_enter Tryz.func6, Tryz.ntmps6
  go_wp2_with fail
  with_reducible refine (ranged_yes _ _ h1 h2 h3 _).mono ?_
  rintro e w1 ⟨rfl, hb1⟩
  have M1 := cell_later (a := ⟨w.heap.size + 1 + 1, 0, none⟩) (v := .int .i64 most) hb1 (by simp [go_sem])
  have B1 := Bk.below (g := w.heap.size + 1 + 1 + 1) (cs := #[.int .i64 0, .int .i64 0, .int .i64 0]) (t := 23) (Bk.at_ (by simp)) hb1
  obtain ⟨c0, c1, c2⟩ := cells3 B1
  obtain ⟨f0, f1, f2⟩ := free3 B1
  obtain ⟨hg1, hs1⟩ := below_c (w := w) hb1 (by go_grown)
  clear hb1
  go_wp2
  refine bodyPost_ret (v := .tuple #[G 0 0 0, .int .i64 2]) (by simp [results, Tryz.results6, go_sem, c0, c1, c2]; try rfl) rfl ⟨rfl, by go_grown⟩
theorem gnear_no' (lo hi b x : Int) (hg : ¬ GV lo hi b) (w : World) :
    Calls Tryz.prog 48 #[G lo hi b, .int .i64 x] w fun e w' => e = .returned (.tuple #[.int .i64 0, .int .i64 2]) ∧ Below w.heap.size w w' := gnear_no lo hi b x hg w
theorem len_empty (g : Nat) (v : Value) (w : World) (h : Bk w g #[v, .int .i64 0] 61) :
    Calls Tryz.prog 32 #[.pointer (some ⟨g, 0, none⟩)] w fun e w' => e = .returned (.int .i64 0) ∧ Below w.heap.size w w' := by
  have c1 := h.cell (v := .int .i64 0) 1 rfl
  go_enter Tryz.func32, Tryz.ntmps32
  go_wp2
  go_returns
  exact ⟨rfl, by go_grown⟩
abbrev Z9 : Array Value := #[.int .u8 0, .int .u8 0, .int .u8 0, .int .u8 0, .int .u8 0, .int .u8 0, .int .u8 0, .int .u8 0, .int .u8 0]
theorem infoB : (Tryz.prog.info? 5).map (fun i => (i.zero, i.size, i.bytes)) = some (some (.int .u8 0), 1, 1) := by kernel_rfl
set_option maxRecDepth 100000 in
theorem clone_nine (b : Nat) (w : World) (h : Bk w b Z9 5) :
    Calls Tryz.prog 71 #[.slice (some ⟨b, 0, none⟩) 9 9] w (fun e w' => ∃ g c, e = .returned (.slice (some ⟨g, 0, none⟩) 9 c) ∧ Below w.heap.size w w') := by
  obtain ⟨i0, hi, hz0, hz1, hz2⟩ := info_parts infoB
  have hown : (w.alloc (.cells #[] 5)).ownsRow w.heap.size 5 1 (.slice (some ⟨w.heap.size, 0, none⟩) 0 0) 0 [] := World.ownsRow_made w #[] 0 (Nat.le_refl _) (by decide) (by decide)
  have hcell : ∀ j u, (List.replicate 9 (Value.int .u8 0))[j]? = some u → (w.alloc (.cells #[] 5)).cell? ((⟨b, 0, none⟩ : Addr).add j) = some u := by
    intro j u hu
    have hj : j < 9 := by have := (List.getElem?_eq_some_iff.1 hu).1; simpa using this
    have hu0 : u = .int .u8 0 := by rw [List.getElem?_replicate, if_pos hj] at hu; exact (Option.some.inj hu).symm
    subst hu0
    have hB := h.alloc (.cells #[] 5)
    rw [show (⟨b, 0, none⟩ : Addr).add j = ⟨b, j, none⟩ by unfold Addr.add; split <;> simp_all]
    refine hB.cell j ?_
    rcases (by omega : j = 0 ∨ j = 1 ∨ j = 2 ∨ j = 3 ∨ j = 4 ∨ j = 5 ∨ j = 6 ∨ j = 7 ∨ j = 8) with rfl | rfl | rfl | rfl | rfl | rfl | rfl | rfl | rfl <;> rfl
  have heq : ∀ w : World, (binOp .eql 59 (.slice (some ⟨b, 0, none⟩) 9 9) (.slice none 0 0)).run Tryz.prog w = .ok (.bool false) w := fun w => Lib.run_eql_slice_nil w _ 5 (some ⟨b, 0, none⟩) 9 9 0 0 Tryz.underlying59
  have HO := Lib.hid hown
  have HCl := Lib.hid hcell
  clear hown hcell
  go_enter Tryz.func71, Tryz.ntmps71
  go_wp2_with (at_builtin; refine wpList_append_own _ rfl _ _ 59 rfl w.heap.size 5 i0 (.int .u8 0) 1 1 Tryz.underlying59 hi hz0 hz1 hz2 rfl (by decide) _ 0 [] rfl HO.out ⟨b, 0, none⟩ 9 9 (List.replicate 9 (.int .u8 0)) rfl rfl HCl.out (by decide) (by decide) (by decide) (by simp) ?_; intro v' w1 hown' hgrow _; obtain ⟨g, cap, rfl, -, -⟩ := hown'.form (by decide))
  go_returns
  exact ⟨_, _, rfl, ((Below.refl _ _).alloc (Nat.le_refl _) _).grown hgrow (by simp) (by intro k hk; cases hk; exact Nat.le_refl _)⟩
/-- some pointer, and nothing that was there is written -/
def SomePtr (w : World) (e : Ending) (w' : World) : Prop := ∃ g : Nat, e = .returned (.pointer (some ⟨g, 0, none⟩)) ∧ Below w.heap.size w w'
theorem reader_nine (b : Nat) (w : World) (h : Bk w b Z9 5) :
    Calls Tryz.prog 35 #[.slice (some ⟨b, 0, none⟩) 9 9] w (SomePtr w) := by
  go_enter Tryz.func35, Tryz.ntmps35
  go_wp2_with (go_at_call 71; refine (clone_nine b _ h).mono ?_; rintro e w1 ⟨g, c, rfl, hb1⟩; obtain ⟨hg1, hs1⟩ := below_c (w := w) hb1 (by go_grown); clear hb1)
  go_returns
  exact ⟨_, rfl, by go_grown⟩
end Go.Proofs.YtghfggfgndgkjaaGreatDoor
