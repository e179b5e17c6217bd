/- marcheslaw15.SameEntity, Same at equal arguments. -/
import Derived.Test.YtjjodmkblpdnhaaDoorInterp2
set_option linter.unusedVariables false
set_option linter.unusedSimpArgs false
namespace Go.Proofs.YtjjodmkblpdnhaaDoor
open Go Go.RowKit Go.Sort
set_option maxRecDepth 100000
attribute [local go_sem] opLow opUpon opLow2 opUpon2

theorem eq_arr (a b c d : Int) (w : World) : (Op.equalIn 9999 52 (.agg #[.int .i64 a, .int .i64 b, .int .i64 c, .int .i64 d]) (.agg #[.int .i64 a, .int .i64 b, .int .i64 c, .int .i64 d])).run Tryd.prog w = .ok true w := by
  rw [show (9999 : Nat) = 9998 + 1 from rfl, Op.equalIn]
  simp only [Sem.run_bind, run_underlying Tryd.underlying52, Result.andThen_ok]
  have e : List.range' 0 4 = [0, 1, 2, 3] := rfl
  simp [go_sem, e]
theorem eq_C (x : Cmp) (w : World) : (binOp .neq 67 (C x) (C x)).run Tryd.prog w = .ok (.bool false) w := by
  unfold C
  simp [go_sem, eq_arr]
theorem same_off {α : Type} {P : World → Nat → Nat → α → Prop} {sz : Nat} {w : World} {a : Option Addr} {n c : Nat} {l : List α} (h : ListAt P sz w (.slice a n c) l) : n = l.length ∧ n < 1099511627776 := by
  rcases h with ⟨h, rfl⟩ | ⟨b, off, cap, h, hl, hc⟩
  · cases h; exact ⟨rfl, by decide⟩
  · cases h; exact ⟨rfl, hl⟩
theorem same_at {α : Type} {P : World → Nat → Nat → α → Prop} {sz : Nat} {w : World} {a : Option Addr} {n c : Nat} {l : List α} (h : ListAt P sz w (.slice a n c) l) {j : Nat} {x : α} (hx : l[j]? = some x) : ∃ b off, a = some ⟨b, off, none⟩ ∧ P w b (off + j * sz) x := by
  rcases h with ⟨h, rfl⟩ | ⟨b, off, cap, h, hl, hc⟩
  · cases hx
  · cases h; exact ⟨b, off, rfl, hc j x hx⟩
set_option maxHeartbeats 4000000 in
theorem sameE_any (z : Int) (L : List Cmp) (a a' : Option Addr) (n n' c c' : Nat) (w : World) (h : CompsAt w (.slice a n c) L) (h' : CompsAt w (.slice a' n' c') L) :
    Calls Tryd.prog 23 #[.agg #[.int .i64 z, .slice a n c], .agg #[.int .i64 z, .slice a' n' c']] w fun e w' => e = .returned (.bool true) ∧ Below w.heap.size w w' := by
  have hn := same_off h
  have hn' := same_off h'
  obtain rfl : n = n' := hn.1.trans hn'.1.symm
  have HL := Lib.hid hn.1
  have hn2 := hn.2
  have HH := Lib.hid (And.intro h h')
  clear hn hn' h h'
  go_enter Tryd.func23, Tryd.ntmps23
  go_wp2
  refine wp_name (fun V => Bk V w.heap.size #[.int .i64 z, .slice a n c] 47 ∧ Bk V (w.heap.size + 1) #[.int .i64 z, .slice a' n c'] 47 ∧ Below w.heap.size w V) ⟨(Bk.made _ _ _).alloc _, Bk.at_ (by simp), by go_grown⟩ ?_
  rintro W0 ⟨B1, B2, hb0⟩
  go_loopw [23] (fun v23 wr => ∃ j : Nat, j ≤ n ∧ v23 = .int .i64 j ∧ Bk wr w.heap.size #[.int .i64 z, .slice a n c] 47 ∧ Bk wr (w.heap.size + 1) #[.int .i64 z, .slice a' n c'] 47 ∧ Below w.heap.size w wr) (fun v23 _ => n - (intOf v23).toNat)
  case atStart => exact ⟨0, by omega, rfl, B1, B2, hb0⟩
  case round =>
    clear B1 B2 hb0
    obtain ⟨j, hj, rfl, B1, B2, hb⟩ := hrel
    by_cases hlt : j < n
    · obtain ⟨x, hx⟩ := at_lt (l := L) (i := j) (by rw [← HL.out]; exact hlt)
      obtain ⟨b, off, rfl, p⟩ := same_at HH.out.1 hx
      obtain ⟨b', off', rfl, q⟩ := same_at HH.out.2 hx
      obtain ⟨⟨p0, p1, p2, p3, p4⟩, -⟩ := p
      obtain ⟨⟨q0, q1, q2, q3, q4⟩, -⟩ := q
      replace p0 := cell_regrown (cell_later hb p0)
      replace p1 := cell_regrown (cell_later hb p1)
      replace p2 := cell_regrown (cell_later hb p2)
      replace p3 := cell_regrown (cell_later hb p3)
      replace p4 := cell_regrown (cell_later hb p4)
      replace q0 := cell_regrown (cell_later hb q0)
      replace q1 := cell_regrown (cell_later hb q1)
      replace q2 := cell_regrown (cell_later hb q2)
      replace q3 := cell_regrown (cell_later hb q3)
      replace q4 := cell_regrown (cell_later hb q4)
      have hne := eq_C x
      unfold C at hne
      have c1 := cell_regrown (B1.cell (v := .slice (some ⟨b, off, none⟩) n c) 1 rfl)
      have c2 := cell_regrown (B2.cell (v := .slice (some ⟨b', off', none⟩) n c') 1 rfl)
      have e2 : (j : Int) < n := by omega
      have e5 : (0 : Int) ≤ (j : Int) := by omega
      go_wp2
      refine wp_region_low 10 (by kernel_rfl) (by kernel_rfl) ?_
      simp only [List.take, List.drop]
      iterate 10 (refine low_step (fun K hK => ?_); go_simp; first | (refine hK _ ?_; clear hK K) | (apply Exists.intro; refine ⟨fun p => ?_, hK _ ?_⟩; clear hK K))
      refine low_nil ?_
      intro W1 hC
      have hb1 := hC.1
      have D1 := B1.below hb1
      have D2 := B2.below hb1
      obtain ⟨hb', hs'⟩ := below_c (w := w) hb1 hb
      clear hC hb1 hb B1 B2 c1 c2 hx
      go_wp2
      go_roundw
      case rel => exact ⟨j + 1, by omega, by go_num, D1, D2, hb'⟩
      case measure => simp [intOf]; omega
    · go_wp2
      go_returns
      exact ⟨rfl, hb⟩
set_option maxHeartbeats 4000000 in
theorem same_any (z : Int) (L : List Ent) (a a' : Option Addr) (n n' c c' : Nat) (w : World) (h : EntsAt w (.slice a n c) L) (h' : EntsAt w (.slice a' n' c') L) :
    Calls Tryd.prog 13 #[.agg #[.int .i64 z, .slice a n c], .agg #[.int .i64 z, .slice a' n' c']] w fun e w' => e = .returned (.bool true) ∧ Below w.heap.size w w' := by
  have hn := same_off h
  have hn' := same_off h'
  obtain rfl : n = n' := hn.1.trans hn'.1.symm
  have HL := Lib.hid hn.1
  have hn2 := hn.2
  have HH := Lib.hid (And.intro h h')
  clear hn hn' h h'
  go_enter Tryd.func13, Tryd.ntmps13
  go_wp2
  refine wp_name (fun V => Bk V w.heap.size #[.int .i64 z, .slice a n c] 27 ∧ Bk V (w.heap.size + 1) #[.int .i64 z, .slice a' n c'] 27 ∧ Below w.heap.size w V) ⟨(Bk.made _ _ _).alloc _, Bk.at_ (by simp), by go_grown⟩ ?_
  rintro W0 ⟨B1, B2, hb0⟩
  go_loopw [23] (fun v23 wr => ∃ j : Nat, j ≤ n ∧ v23 = .int .i64 j ∧ Bk wr w.heap.size #[.int .i64 z, .slice a n c] 27 ∧ Bk wr (w.heap.size + 1) #[.int .i64 z, .slice a' n c'] 27 ∧ Below w.heap.size w wr) (fun v23 _ => n - (intOf v23).toNat)
  case atStart => exact ⟨0, by omega, rfl, B1, B2, hb0⟩
  case round =>
    clear B1 B2 hb0
    obtain ⟨j, hj, rfl, B1, B2, hb⟩ := hrel
    by_cases hlt : j < n
    · obtain ⟨x, hx⟩ := at_lt (l := L) (i := j) (by rw [← HL.out]; exact hlt)
      obtain ⟨b, off, rfl, p⟩ := same_at HH.out.1 hx
      obtain ⟨b', off', rfl, q⟩ := same_at HH.out.2 hx
      obtain ⟨p0, pa, pn, pc, p1, ph⟩ := p
      obtain ⟨q0, qa, qn, qc, q1, qh⟩ := q
      have ph' := ph.below hb
      have qh' := qh.below hb
      have CT := fun d os => sameE_any x.id x.cs pa qa pn qn pc qc (grow (redrawn wr d) os) (ph'.below (below_regrown _ _ _)) (qh'.below (below_regrown _ _ _))
      replace p0 := cell_regrown (cell_later hb p0)
      replace p1 := cell_regrown (cell_later hb p1)
      replace q0 := cell_regrown (cell_later hb q0)
      replace q1 := cell_regrown (cell_later hb q1)
      have c1 := cell_regrown (B1.cell (v := .slice (some ⟨b, off, none⟩) n c) 1 rfl)
      have c2 := cell_regrown (B2.cell (v := .slice (some ⟨b', off', none⟩) n c') 1 rfl)
      have e2 : (j : Int) < n := by omega
      have e5 : (0 : Int) ≤ (j : Int) := by omega
      go_wp2
      refine wp_region_low 11 (by kernel_rfl) (by kernel_rfl) ?_
      simp only [List.take, List.drop]
      iterate 11 (refine low_step (fun K hK => ?_); go_simp; first | (refine hK _ ?_; clear hK K) | (apply Exists.intro; refine ⟨fun p => ?_, hK _ ?_⟩; (first | with_reducible exact CT _ _); clear hK K))
      refine low_nil ?_
      intro W1 hC
      have hb1 := hC.1
      have D1 := B1.below hb1
      have D2 := B2.below hb1
      obtain ⟨hb', hs'⟩ := below_c (w := w) hb1 hb
      clear hC hb1 hb B1 B2 c1 c2 hx
      go_wp2
      go_roundw
      case rel => exact ⟨j + 1, by omega, by go_num, D1, D2, hb'⟩
      case measure => simp [intOf]; omega
    · go_wp2
      go_returns
      exact ⟨rfl, hb⟩
end Go.Proofs.YtjjodmkblpdnhaaDoor
