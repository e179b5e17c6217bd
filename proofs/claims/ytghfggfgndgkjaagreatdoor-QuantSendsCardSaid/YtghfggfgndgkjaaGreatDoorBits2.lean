/- Contracts of quant's Put and Get, and of bits.Reader. -/
import Derived.Test.YtghfggfgndgkjaaGreatDoorBits
import Derived.Test.YtghfggfgndgkjaaGreatDoorQWrong
import Derived.Deep.QuietTactic
import Derived.BigQuiet
set_option linter.unusedVariables false
set_option linter.unusedSimpArgs false
namespace Go.Proofs.YtghfggfgndgkjaaGreatDoor
open Go Go.RowKit Go.Sort
set_option maxRecDepth 1000000
attribute [local go_sem] opLow opUpon

theorem Wrote.trans {base g : Nat} {s : Value} {l l2 : List Int} {w w1 w2 : World} (h : Wrote base w g s l w1) (h2 : ∀ s', WrAt base w1 g s' l → Wrote base w1 g s' l2 w2) : Wrote base w g s l2 w2 := by
  obtain ⟨s', k1, k2, k3⟩ := h
  obtain ⟨s2, j1, j2, j3⟩ := h2 s' k1
  refine ⟨s2, j1, k2.trans j2 (fun b hb hV => ?_), fun b hb => ?_⟩
  · rcases hV with h | h
    · exact .inl h
    · rcases k3 b h with h | h
      · exact .inr h
      · omega
  · rcases j3 b hb with h | h
    · exact k3 b h
    · exact .inr (Nat.le_trans k2.size h)
theorem nat_of {b : Int} (h : 0 ≤ b) : ∃ k : Nat, b = (k : Int) := ⟨b.toNat, by omega⟩
set_option maxHeartbeats 1000000 in
theorem gput_any (base g : Nat) (s : Value) (l : List Int) (lo hi b x : Int) (w : World) (h : WrAt base w g s l) (hg : GV lo hi b) (hl : l.length + 128 < 1048576) (hbg : base ≤ w.heap.size) :
    Calls Tryz.prog 29 #[G lo hi b, .pointer (some ⟨g, 0, none⟩), .int .i64 x] w fun e w' => e = .returned (.int .i64 0) ∧ Wrote base w g s (l ++ bitsOf (qi lo hi b x) b.toNat) w' := by
  have HG := Lib.hid hg
  have HI := qi_bd lo hi b x hg
  have HB : 0 ≤ b ∧ b ≤ 32 := ⟨by have := hg.2.2.2.1; omega, hg.2.2.2.2⟩
  obtain ⟨k, rfl⟩ := nat_of HB.1
  obtain ⟨i, hi'⟩ : ∃ i, qi lo hi (k : Int) x = i := ⟨_, rfl⟩
  have HX := Lib.hid hi'
  rw [hi'] at HI ⊢
  have H2 := Lib.hid (show i < 2 ^ k by have := HI.2; unfold gn at this; rw [Int.toNat_natCast] at this; omega)
  have i0 := HI.1
  have i1 : i ≤ 4294967295 := Int.le_trans HI.2 (gn_bd _ hg.2.2.2.1 hg.2.2.2.2).2.1
  have HL := Lib.hid (show l.length + 128 < 1048576 ∧ k ≤ 32 by omega)
  clear hg HI HB hl hi'
  go_enter Tryz.func29, Tryz.ntmps29
  go_wp2_with fail
  with_reducible refine (index_is lo hi k x i ⟨HG.out, HX.out⟩ _).mono ?_
  rintro e w1 ⟨rfl, hb⟩
  have hb0 := (Below.refl w.heap.size w).alloc (Nat.le_refl _) (.cells #[.int .i64 lo, .int .i64 hi, .int .i64 k] 23)
  have B1 := Bk.below (g := w.heap.size) (cs := #[.int .i64 lo, .int .i64 hi, .int .i64 k]) (t := 23) (Bk.made _ _ _) hb
  have c2 := B1.cell (v := .int .i64 k) 2 rfl
  have hW := (h.below hb0).below hb
  obtain ⟨hg1, hs1⟩ := below_c (w := w) hb hb0
  go_wp2_with fail
  with_reducible refine (wput_any base g s l i k _ hW i0 H2.out HL.out.2 HL.out.1 (by omega)).mono ?_
  rintro e w2 ⟨rfl, hw⟩
  have hw := Wrote.back hg1 hw
  go_wp2
  go_returns
  exact ⟨rfl, hw⟩
set_option maxHeartbeats 1000000 in
theorem both_any (base g : Nat) (s : Value) (l : List Int) (a b c d e' f x y : Int) (w : World) (h : WrAt base w g s l) (hg1 : GV a b c) (hg2 : GV d e' f) (hl : l.length + 192 < 1048576) (hbg : base ≤ w.heap.size) :
    Calls Tryz.prog 68 #[.pointer (some ⟨g, 0, none⟩), .agg #[.int .i64 x, .int .i64 y], .func (.func 29) #[G a b c] #[], .func (.func 29) #[G d e' f] #[]] w
      fun e w' => e = .returned (.int .i64 0) ∧ Wrote base w g s (l ++ bitsOf (qi a b c x) c.toNat ++ bitsOf (qi d e' f y) f.toNat) w' := by
  have HG := Lib.hid (show GV a b c ∧ GV d e' f from ⟨hg1, hg2⟩)
  have HL := Lib.hid hl
  have HC := Lib.hid hg1.2.2.2.2
  have hb0 := (Below.refl w.heap.size w).alloc (Nat.le_refl _) (.cells #[.int .i64 x, .int .i64 y] 58)
  have hW := h.below hb0
  clear hg1 hg2 hl
  go_enter Tryz.func68, Tryz.ntmps68
  go_wp2_with fail
  with_reducible refine (gput_any base g s l a b c x _ hW HG.out.1 (by have := HL.out; omega) (by simp; omega)).mono ?_
  rintro e w1 ⟨rfl, hw⟩
  have hl2 : (l ++ bitsOf (qi a b c x) c.toNat).length + 128 < 1048576 := by rw [List.length_append, bitsOf_length]; have := HL.out; have := HC.out; omega
  have B1 : Bk w1 w.heap.size #[.int .i64 x, .int .i64 y] 58 := by
    obtain ⟨s', -, hm, -⟩ := hw
    exact (Bk.made w _ _).mut hm (fun hu => by
      rcases hu with hu | hu
      · exact absurd h.1.lt (by omega)
      · exact absurd (h.2.1.lt _ hu).2 (by omega))
  have c1 := B1.cell (v := .int .i64 y) 1 rfl
  have hw := Wrote.back hb0 hw
  have hs1 : w.heap.size ≤ w1.heap.size := by obtain ⟨_, -, hm, -⟩ := hw; exact hm.size
  obtain ⟨s', hs'⟩ : ∃ s', WrAt base w1 g s' (l ++ bitsOf (qi a b c x) c.toNat) := by obtain ⟨s', h', -⟩ := hw; exact ⟨s', h'⟩
  go_wp2_with fail
  with_reducible refine (gput_any base g s' _ d e' f y _ hs' HG.out.2 hl2 (by omega)).mono ?_
  rintro e w2 ⟨rfl, hw2⟩
  have hw3 := hw.trans (fun s'' h'' => by
    obtain rfl : s'' = s' := by
      have e1 := h''.1; have e2 := hs'.1
      unfold Bk at e1 e2
      rw [e1] at e2
      simpa using e2
    exact hw2)
  go_wp2
  go_returns
  exact ⟨rfl, hw3⟩
theorem pvalid_yes (a b c d e' f : Int) (h1 : GV a b c) (h : GV d e' f) (w : World) :
    Calls Tryz.prog 67 #[PL a b c d e' f] w fun e w' => e = .returned (.bool true) ∧ Below w.heap.size w w' := by
  have HG := Lib.hid h
  have HV := Lib.hid h1
  clear h h1
  go_enter Tryz.func67, Tryz.ntmps67
  go_wp2_with fail
  with_reducible refine (valid_yes _ _ _ HV.out _).mono ?_
  rintro e w1 ⟨rfl, hb1⟩
  have B1 := Bk.below (g := w.heap.size) (cs := #[.int .i64 a, .int .i64 b, .int .i64 c, .int .i64 d, .int .i64 e', .int .i64 f]) (t := 65) (Bk.made _ _ _) hb1
  have c3 := B1.cell (v := .int .i64 d) 3 rfl
  have c4 := B1.cell (v := .int .i64 e') 4 rfl
  have c5 := B1.cell (v := .int .i64 f) 5 rfl
  obtain ⟨hg1, hs1⟩ := below_c (w := w) hb1 (by go_grown)
  clear hb1
  go_wp2_with fail
  with_reducible refine (valid_yes _ _ _ HG.out _).mono ?_
  rintro e w2 ⟨rfl, hb2⟩
  obtain ⟨hg2, hs2⟩ := below_c (w := w) hb2 (by go_grown)
  clear hb2
  go_wp2
  go_returns
  exact ⟨rfl, by go_grown⟩
theorem len_re {base g m : Nat} {s : Value} {l : List Int} {w0 : World} (h : WrAt base w0 g s l) (hm : l.length = m) (p : Regrown) :
    Calls Tryz.prog 32 #[.pointer (some ⟨g, 0, none⟩)] (grow (redrawn w0 p.d) p.os) fun e w' => e = .returned (.int .i64 m) ∧ Below (grow (redrawn w0 p.d) p.os).heap.size (grow (redrawn w0 p.d) p.os) w' := by
  subst hm; exact len_any base g s l _ (h.below (below_regrown _ _ _))
set_option maxHeartbeats 1000000 in
theorem pput_any (base g : Nat) (s : Value) (l : List Int) (a b c d e' f x y : Int) (w : World) (h : WrAt base w g s l) (hg1 : GV a b c) (hg2 : GV d e' f) (hl : l.length + 192 < 1048576) (hbg : base ≤ w.heap.size) :
    Calls Tryz.prog 30 #[PL a b c d e' f, .pointer (some ⟨g, 0, none⟩), .agg #[.int .i64 x, .int .i64 y]] w
      fun e w' => e = .returned (.int .i64 0) ∧ Wrote base w g s (l ++ bitsOf (qi a b c x) c.toNat ++ bitsOf (qi d e' f y) f.toNat) w' := by
  have HG := Lib.hid (show GV a b c ∧ GV d e' f from ⟨hg1, hg2⟩)
  have HL := Lib.hid hl
  obtain ⟨c0, c1⟩ : 1 ≤ c ∧ c ≤ 32 := hg1.2.2.2
  obtain ⟨f0, f1⟩ : 1 ≤ f ∧ f ≤ 32 := hg2.2.2.2
  obtain ⟨m, hm⟩ : ∃ m, l.length = m := ⟨_, rfl⟩
  have hm1 : (m : Int) + 192 < 1048576 := by omega
  have HM := Lib.hid hm
  clear hg1 hg2 hl hm
  go_enter Tryz.func30, Tryz.ntmps30
  go_wp2_with fail
  with_reducible refine (pvalid_yes _ _ _ _ _ _ HG.out.1 HG.out.2 _).mono ?_
  rintro e W1 ⟨rfl, hb⟩
  have o_p : w.heap.size ≤ w.heap.size := Nat.le_add_right _ 0
  have o_v : w.heap.size ≤ w.heap.size + 1 := Nat.le_add_right _ 1
  have B'_p : Bk W1 (w.heap.size) #[.int .i64 a, .int .i64 b, .int .i64 c, .int .i64 d, .int .i64 e', .int .i64 f] 65 := Bk.below (by (repeat (first | with_reducible assumption | ((with_reducible refine Bk.at_ ?_); first | rfl | (simp; done)) | with_reducible apply Bk.alloc))) hb
  have B'_v : Bk W1 (w.heap.size + 1) #[.int .i64 x, .int .i64 y] 58 := Bk.below (by (repeat (first | with_reducible assumption | ((with_reducible refine Bk.at_ ?_); first | rfl | (simp; done)) | with_reducible apply Bk.alloc))) hb
  obtain ⟨hB', hS'⟩ := below_c (w := w) hb (by (first | (go_grown; done) | (repeat (first | assumption | (refine Below.setCell ?_ (by first | assumption | (simp; omega) | omega) _) | (refine Below.alloc ?_ (by assumption) _)))))
  clear hb
  have B_p := B'_p
  have B_v := B'_v
  have hB := hB'; have hS := hS'; clear hB' hS' B'_p B'_v
  have hW := h.below hB
  have e1 : IntKind.i64.wrap ((m : Int) + c) = (m : Int) + c := by rw [IntKind.wrap_i64]; omega
  have e2 : IntKind.i64.wrap ((m : Int) + c + f) = (m : Int) + c + f := by rw [IntKind.wrap_i64]; omega
  have e3 : decide (1048576 < (m : Int) + c + f) = false := by simp; omega
  go_wp2
  have k_p_0 := cell_regrown (B_p.cell (v := .int .i64 a) 0 rfl)
  have k_p_1 := cell_regrown (B_p.cell (v := .int .i64 b) 1 rfl)
  have k_p_2 := cell_regrown (B_p.cell (v := .int .i64 c) 2 rfl)
  have k_p_3 := cell_regrown (B_p.cell (v := .int .i64 d) 3 rfl)
  have k_p_4 := cell_regrown (B_p.cell (v := .int .i64 e') 4 rfl)
  have k_p_5 := cell_regrown (B_p.cell (v := .int .i64 f) 5 rfl)
  have k_v_0 := cell_regrown (B_v.cell (v := .int .i64 x) 0 rfl)
  have k_v_1 := cell_regrown (B_v.cell (v := .int .i64 y) 1 rfl)
  refine wp_region_low 11 (by kernel_rfl) (by kernel_rfl) ?_
  simp only [List.take, List.drop]
  iterate 11 (refine low_step (fun K hK => ?_); go_simp; first | (refine hK _ ?_; clear hK K) | (apply Exists.intro; refine ⟨fun p => ?_, hK _ ?_⟩; (first | with_reducible exact len_re hW HM.out _); clear hK K))
  refine low_nil ?_
  intro W2 hC
  have hb := hC.1
  clear k_p_0 k_p_1 k_p_2 k_p_3 k_p_4 k_p_5 k_v_0 k_v_1
  replace B_p := B_p.below hb
  replace B_v := B_v.below hb
  obtain ⟨hB', hS'⟩ := below_c (w := w) hb hB
  clear hC hb hB hS
  have hB := hB'; have hS := hS'; clear hB' hS'
  have hW2 := h.below hB
  have c_p_0 := B_p.cell (v := .int .i64 a) 0 rfl
  have c_p_1 := B_p.cell (v := .int .i64 b) 1 rfl
  have c_p_2 := B_p.cell (v := .int .i64 c) 2 rfl
  have c_p_3 := B_p.cell (v := .int .i64 d) 3 rfl
  have c_p_4 := B_p.cell (v := .int .i64 e') 4 rfl
  have c_p_5 := B_p.cell (v := .int .i64 f) 5 rfl
  have lt_p := B_p.lt
  have c_v_0 := B_v.cell (v := .int .i64 x) 0 rfl
  have c_v_1 := B_v.cell (v := .int .i64 y) 1 rfl
  have lt_v := B_v.lt
  go_wp2_with fail
  with_reducible refine (both_any base g s l a b c d e' f x y _ hW2 HG.out.1 HG.out.2 HL.out (by omega)).mono ?_
  rintro e W9 ⟨rfl, hw⟩
  have hw := Wrote.back hB hw
  go_wp2
  go_returns
  exact ⟨rfl, hw⟩
end Go.Proofs.YtghfggfgndgkjaaGreatDoor
