/- interp.Span, marcheslaw28.Same. -/
import Derived.Test.YtjjodmkblpdnhaaDoorInterp12
set_option linter.unusedVariables false
set_option linter.unusedSimpArgs false
namespace Go.Proofs.YtjjodmkblpdnhaaDoor
open Go Go.RowKit Go.Sort
set_option maxRecDepth 100000
attribute [local go_sem] opLow opUpon opLow2 opUpon2

/-- what Span returns -/
def spanM (H : List Wld) : Int × Int × Int := if ValidH H then if H.length = 0 then (0, 0, 6) else ((H.map Wld.t).getD 0 0, (H.map Wld.t).getD (H.length - 1) 0, 0) else (0, 0, 2)
set_option maxHeartbeats 4000000 in
theorem span_any (H : List Wld) (a : Option Addr) (n c : Nat) (w : World) (h : HistAt w (.slice a n c) H) (hR : RG w) :
    Calls Tryd.prog 14 #[.slice a n c] w fun e w' => e = .returned (.tuple #[.int .i64 (spanM H).1, .int .i64 (spanM H).2.1, .int .i64 (spanM H).2.2]) ∧ Below w.heap.size w w' := by
  obtain ⟨v, hv⟩ : ∃ v, decide (ValidH H) = v := ⟨_, rfl⟩
  have HV := Lib.hid hv
  clear hv
  obtain ⟨z, hz⟩ : ∃ z, spanM H = z := ⟨_, rfl⟩
  have HZ := Lib.hid hz
  rw [hz]
  obtain ⟨z1, z2, z3⟩ := z
  clear hz
  simp only
  have hl := same_off h
  have HL := Lib.hid hl.1
  have hn2 := hl.2
  clear hl
  go_enter Tryd.func14, Tryd.ntmps14
  go_wp2_with fail
  refine Calls.mono (validH_any H a n c _ (h.below (by go_grown)) (hR.below (by go_grown))) ?_
  rw [HV.out]
  rintro e W1 ⟨rfl, hb1⟩
  obtain ⟨hgg, hs1⟩ := below_c (w := w) hb1 (by go_grown)
  have HH := Lib.hid (h.below hgg)
  clear hb1 h
  cases v
  · obtain ⟨h1, h2, h3⟩ : z1 = 0 ∧ z2 = 0 ∧ z3 = 2 := by
      have := HZ.out
      unfold spanM at this
      rw [if_neg (of_decide_eq_false HV.out)] at this
      simp only [Prod.mk.injEq] at this
      omega
    subst h1 h2 h3
    go_wp2
    go_returns
    exact ⟨rfl, hgg⟩
  · rcases Nat.eq_zero_or_pos n with h0 | h0
    · obtain ⟨h1, h2, h3⟩ : z1 = 0 ∧ z2 = 0 ∧ z3 = 6 := by
        have := HZ.out
        unfold spanM at this
        rw [if_pos (of_decide_eq_true HV.out), if_pos (by rw [← HL.out]; exact h0)] at this
        simp only [Prod.mk.injEq] at this
        omega
      subst h0 h1 h2 h3
      go_wp2
      go_returns
      exact ⟨rfl, hgg⟩
    · obtain ⟨x, hx⟩ := at_lt (l := H) (i := 0) (by rw [← HL.out]; exact h0)
      obtain ⟨y, hy⟩ := at_lt (l := H) (i := n - 1) (by rw [← HL.out]; omega)
      obtain ⟨h1, h2, h3⟩ : x.t = z1 ∧ y.t = z2 ∧ 0 = z3 := by
        have := HZ.out
        unfold spanM at this
        rw [if_pos (of_decide_eq_true HV.out), if_neg (by rw [← HL.out]; omega), ← HL.out, map_at Wld.t hx, map_at Wld.t hy] at this
        simpa only [Prod.mk.injEq] using this
      subst h1 h2 h3
      obtain ⟨b, off, rfl, p⟩ := same_at HH.out hx
      obtain ⟨b', off', he, q⟩ := same_at HH.out hy
      cases he
      obtain ⟨p0, -⟩ := p
      obtain ⟨q0, -⟩ := q
      rw [Nat.zero_mul, Nat.add_zero] at p0
      obtain ⟨m, rfl⟩ : ∃ m, n = m + 1 := ⟨n - 1, by omega⟩
      rw [Nat.add_sub_cancel] at q0
      replace p0 := cell_regrown p0
      replace q0 := cell_regrown q0
      have e1 : IntKind.i64.wrap (m : Int) = (m : Int) := by rw [IntKind.wrap_i64]; omega
      have e2 : (m : Int) < m + 1 := by omega
      have e5 : (0 : Int) ≤ (m : Int) := by omega
      have e6 : (0 : Int) < (m : Int) + 1 := by omega
      clear hx hy h0
      go_wp2
      refine wp_region_low 12 (by kernel_rfl) (by kernel_rfl) ?_
      simp only [List.take, List.drop]
      iterate 12 (refine low_step (fun K hK => ?_); go_simp; first | (refine hK _ ?_; clear hK K) | (apply Exists.intro; refine ⟨fun p => ?_, hK _ ?_⟩; clear hK K))
      refine low_nil ?_
      intro W2 hC
      have hb2 := hC.1
      obtain ⟨hb', hs'⟩ := below_c (w := w) hb2 hgg
      clear hC hb2 hgg p0 q0
      go_wp2
      go_returns
      exact ⟨rfl, hb'⟩
set_option maxHeartbeats 4000000 in
theorem same28_any (H : List Wld) (a a' : Option Addr) (n n' c c' : Nat) (w : World) (h : HistAt w (.slice a n c) H) (h' : HistAt w (.slice a' n' c') H) :
    Calls Tryd.prog 10 #[.slice a n c, .slice a' n' c'] w fun e w' => e = .returned (.bool true) ∧ Below w.heap.size w w' := by
  have hn := same_off h
  have hn' := same_off h'
  obtain rfl : n = n' := hn.1.trans hn'.1.symm
  have HL := Lib.hid hn.1
  have hn2 := hn.2
  have HH := Lib.hid (And.intro h h')
  clear hn hn' h h'
  go_enter Tryd.func10, Tryd.ntmps10
  go_wp2
  go_loopw [13] (fun v13 wr => ∃ j : Nat, j ≤ n ∧ v13 = .int .i64 j ∧ Below w.heap.size w wr) (fun v13 _ => n - (intOf v13).toNat)
  case atStart => exact ⟨0, by omega, rfl, by go_grown⟩
  case round =>
    obtain ⟨j, hj, rfl, hb⟩ := hrel
    by_cases hlt : j < n
    · obtain ⟨x, hx⟩ := at_lt (l := H) (i := j) (by rw [← HL.out]; exact hlt)
      obtain ⟨b, off, rfl, p⟩ := same_at HH.out.1 hx
      obtain ⟨b', off', rfl, q⟩ := same_at HH.out.2 hx
      obtain ⟨p0, pa, pn, pc, p1, ph⟩ := p
      obtain ⟨q0, qa, qn, qc, q1, qh⟩ := q
      have ph' := ph.below hb
      have qh' := qh.below hb
      have CT := fun d os => same_any x.t x.es pa qa pn qn pc qc (grow (redrawn wr d) os) (ph'.below (below_regrown _ _ _)) (qh'.below (below_regrown _ _ _))
      replace p0 := cell_regrown (cell_later hb p0)
      replace p1 := cell_regrown (cell_later hb p1)
      replace q0 := cell_regrown (cell_later hb q0)
      replace q1 := cell_regrown (cell_later hb q1)
      have e2 : (j : Int) < n := by omega
      have e5 : (0 : Int) ≤ (j : Int) := by omega
      go_wp2
      refine wp_region_low 9 (by kernel_rfl) (by kernel_rfl) ?_
      simp only [List.take, List.drop]
      iterate 9 (refine low_step (fun K hK => ?_); go_simp; first | (refine hK _ ?_; clear hK K) | (apply Exists.intro; refine ⟨fun p => ?_, hK _ ?_⟩; (first | with_reducible exact CT _ _); clear hK K))
      refine low_nil ?_
      intro W1 hC
      have hb1 := hC.1
      obtain ⟨hb', hs'⟩ := below_c (w := w) hb1 hb
      clear hC hb1 hb hx p0 p1 q0 q1 CT ph' qh' ph qh
      go_wp2
      go_roundw
      case rel => exact ⟨j + 1, by omega, by go_num, hb'⟩
      case measure => simp [intOf]; omega
    · go_wp2
      go_returns
      exact ⟨rfl, hb⟩
end Go.Proofs.YtjjodmkblpdnhaaDoor
