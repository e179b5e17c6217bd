/- slices.IndexFunc on worlds, interp.Since, interp.Span, marcheslaw28.Same. -/
import Derived.Test.YtjjodmkblpdnhaaDoorInterp9
import Derived.Test.YtjjodmkblpdnhaaDoorMinMax
import Derived.Test.YtjjodmkblpdnhaaDoorInterp11
set_option linter.unusedVariables false
set_option linter.unusedSimpArgs false
namespace Go.Proofs.YtjjodmkblpdnhaaDoor
open Go Go.RowKit Go.Sort
set_option maxRecDepth 100000
attribute [local go_sem] opLow opUpon opLow2 opUpon2

/-- a part of a history, where it lies -/
theorem HistAt.drop {w : World} {a : Option Addr} {n c : Nat} {H : List Wld} (h : HistAt w (.slice a n c) H) {i : Nat} {b off : Nat} (ha : a = some ⟨b, off, none⟩) (hi : i ≤ H.length) (m : Nat) :
    HistAt w (.slice (some ⟨b, off + i * 2, none⟩) (n - i) m) (H.drop i) := by
  rcases h with ⟨h, rfl⟩ | ⟨b', off', cap', h, hl, hc⟩
  · injection h with h1 h2 h3
    subst h1; cases ha
  · injection h with h1 h2 h3
    subst h1 h2
    cases ha
    refine .inr ⟨b, off + i * 2, m, by rw [List.length_drop], by rw [List.length_drop]; omega, fun j x hx => ?_⟩
    rw [List.getElem?_drop] at hx
    have := hc (i + j) x hx
    rw [show off + i * 2 + j * 2 = off + (i + j) * 2 by rw [Nat.add_mul]; omega]
    exact this
set_option maxHeartbeats 4000000 in
theorem indexW_any (H : List Wld) (tick : Int) (g : Nat) (a : Option Addr) (n c : Nat) (w : World) (h : HistAt w (.slice a n c) H) (hg : Bk w g #[.int .i64 tick] 3) :
    Calls Tryd.prog 30 #[.slice a n c, .func (.func 31) #[] #[.pointer (some ⟨g, 0, none⟩)]] w fun e w' => e = .returned (.int .i64 (firstOf (fun (x : Wld) => decide (tick ≤ x.t)) H)) ∧ Below w.heap.size w w' := by
  have hl := same_off h
  have HL := Lib.hid hl.1
  have hn2 := hl.2
  have HH := Lib.hid h
  clear hl h
  go_enter Tryd.func30, Tryd.ntmps30
  go_wp2
  go_loopw [8] (fun v8 wr => ∃ j : Nat, j ≤ n ∧ v8 = .int .i64 j ∧ Hid (∀ i x, i < j → H[i]? = some x → (fun (x : Wld) => decide (tick ≤ x.t)) x = false) ∧ Below w.heap.size w wr) (fun v8 _ => n - (intOf v8).toNat)
  case atStart => exact ⟨0, by omega, rfl, Lib.hid (fun i x hi => absurd hi (by omega)), by go_grown⟩
  case round =>
    obtain ⟨j, hj, rfl, HJ, hb⟩ := hrel
    by_cases hlt : j < n
    · obtain ⟨x, hx⟩ := at_lt (l := H) (i := j) (by rw [← HL.out]; exact hlt)
      obtain ⟨b, off, rfl, p⟩ := same_at HH.out hx
      obtain ⟨p0, xa, xn, xc, p1, -⟩ := p
      replace p0 := cell_later hb p0
      replace p1 := cell_later hb p1
      have hG := hg.below hb
      have HX := Lib.hid hx
      have hs := hb.size
      clear hx
      have hstep : Calls Tryd.prog 31 #[.agg #[.int .i64 x.t, .slice xa xn xc], .pointer (some ⟨g, 0, none⟩)] wr fun e w' => e = .returned (.bool (decide (tick ≤ x.t))) ∧ Below wr.heap.size wr w' := by
        have c0 := hG.cell (v := .int .i64 tick) 0 rfl
        have hlt := hG.lt
        go_enter Tryd.func31, Tryd.ntmps31
        go_wp2
        go_returns
        exact ⟨rfl, by go_grown⟩
      go_wp2_with fail
      refine hstep.mono ?_
      clear hstep
      rintro e W1 ⟨rfl, hb1⟩
      obtain ⟨hb', hs'⟩ := below_c (w := w) hb1 hb
      clear p0 p1 hb1 hb hG
      by_cases hbad : tick ≤ x.t
      · have HB := Lib.hid hbad
        rw [decide_eq_true hbad]
        go_wp2
        go_returns
        exact ⟨ret_i64 (firstOf_yes HX.out (by simpa using HB.out) HJ.out).symm, hb'⟩
      · have HB := Lib.hid hbad
        rw [decide_eq_false hbad]
        go_wp2
        go_roundw
        case rel => exact ⟨j + 1, by omega, by go_num, Lib.hid (fun i y hi hy => by
          rcases Nat.lt_succ_iff_lt_or_eq.1 hi with h | h
          · exact HJ.out i y h hy
          · subst h
            rw [HX.out] at hy
            cases hy
            simpa using HB.out), hb'⟩
        case measure => simp [intOf]; omega
    · go_wp2
      go_returns
      exact ⟨ret_i64 (firstOf_no (fun i x hx => HJ.out i x (by have := (List.getElem?_eq_some_iff.1 hx).1; have := HL.out; omega) hx)).symm, hb⟩

/-- from which world on Since gives them -/
def sinceK (H : List Wld) (tick : Int) : Nat := if firstOf (fun (x : Wld) => decide (tick ≤ x.t)) H < 0 then H.length - 1 else (firstOf (fun (x : Wld) => decide (tick ≤ x.t)) H).toNat - 1
/-- what Since returns, in a call that began in w -/
def SincePost (w : World) (H : List Wld) (tick : Int) (e : Ending) (w' : World) : Prop := (if ValidH H then ∃ a' n' c', e = .returned (.tuple #[.slice a' n' c', .int .i64 0]) ∧ HistAt w' (.slice a' n' c') (H.drop (sinceK H tick)) else e = .returned (.tuple #[.slice none 0 0, .int .i64 2])) ∧ Below w.heap.size w w'
theorem HistAt.past {w : World} {a : Option Addr} {n c k : Nat} {H : List Wld} (h : HistAt w (.slice a n c) H) (hk : k = n) : HistAt w (.slice a (n - k) 0) (H.drop k) := by
  subst hk
  have hn := h.len
  rw [List.drop_eq_nil_of_le (by omega), Nat.sub_self]
  rcases h with ⟨h, rfl⟩ | ⟨b', off', cap', h, hl, hc⟩
  · injection h with h1 h2 h3
    subst h1
    exact .inl ⟨rfl, rfl⟩
  · injection h with h1 h2 h3
    subst h1
    exact .inr ⟨b', off', 0, rfl, by simp, fun i x hx => by simp at hx⟩
theorem HistAt.moved {w : World} {a : Option Addr} {n c k : Nat} {H : List Wld} (h : HistAt w (.slice a n c) H) (hk : k ≤ H.length) : HistAt w (.slice (Option.map (fun x => x.add (k * 2)) a) (n - k) (c - k)) (H.drop k) := by
  rcases a with _ | ad
  · rcases h with ⟨h, rfl⟩ | ⟨b', off', cap', h, hl, hc⟩
    · injection h with h1 h2 h3
      subst h2 h3
      exact .inl ⟨by simp, by simp⟩
    · cases h
  · obtain ⟨b, off, rfl⟩ : ∃ b off, ad = ⟨b, off, none⟩ := by
      rcases h with ⟨h, rfl⟩ | ⟨b', off', cap', h, hl, hc⟩
      · cases h
      · injection h with h1; injection h1 with h1; exact ⟨b', off', h1⟩
    rw [Option.map_some, Addr.add_lit]
    exact h.drop rfl hk _
theorem firstOf_lt {α : Type} (p : α → Bool) (l : List α) : -1 ≤ firstOf p l ∧ firstOf p l < l.length ∨ firstOf p l = -1 := by
  unfold firstOf
  split
  · rename_i h
    exact .inl ⟨by omega, by exact_mod_cast List.findIdx_lt_length.2 (List.any_eq_true.1 h)⟩
  · exact .inr rfl
set_option maxHeartbeats 4000000 in
theorem since_any (H : List Wld) (tick : Int) (a : Option Addr) (n c : Nat) (w : World) (h : HistAt w (.slice a n c) H) (hcap : n ≤ c) (hR : RG w) :
    Calls Tryd.prog 16 #[.slice a n c, .int .i64 tick] w (SincePost w H tick) := by
  obtain ⟨v, hv⟩ : ∃ v, decide (ValidH H) = v := ⟨_, rfl⟩
  have HV := Lib.hid hv
  clear hv
  have hl := same_off h
  have HL := Lib.hid hl.1
  have hn2 := hl.2
  clear hl
  go_enter Tryd.func16, Tryd.ntmps16
  go_wp2_with fail
  refine Calls.mono (validH_any H a n c _ (h.below (by go_grown)) (hR.below (by go_grown))) ?_
  rw [HV.out]
  rintro e W1 ⟨rfl, hb1⟩
  have BT : Bk W1 w.heap.size #[.int .i64 tick] 3 := Bk.below (Bk.at_ rfl) hb1
  obtain ⟨hgg, hs1⟩ := below_c (w := w) hb1 (by go_grown)
  have h1 := h.below hgg
  clear hb1
  cases v
  · go_wp2
    go_returns
    exact ⟨by rw [if_neg (of_decide_eq_false HV.out)]; rfl, hgg⟩
  · obtain ⟨z, hz⟩ : ∃ z, firstOf (fun (x : Wld) => decide (tick ≤ x.t)) H = z := ⟨_, rfl⟩
    have hzn := firstOf_lt (fun (x : Wld) => decide (tick ≤ x.t)) H
    rw [hz, ← HL.out] at hzn
    obtain ⟨k, hk, hkn⟩ : ∃ k : Nat, sinceK H tick = k ∧ k ≤ n := by
      refine ⟨_, rfl, ?_⟩
      unfold sinceK
      rw [hz, ← HL.out]
      split <;> omega
    have HK := Lib.hid hk
    unfold sinceK at hk
    rw [hz, ← HL.out] at hk
    have hK := Lib.hid hk
    clear hk
    go_wp2_with fail
    refine Calls.mono (indexW_any H tick _ a n c _ h1 BT) ?_
    rw [hz]
    rintro e W2 ⟨rfl, hb2⟩
    obtain ⟨hgg2, hs2⟩ := below_c (w := w) hb2 hgg
    replace h1 := h1.below hb2
    clear hb2 BT hz
    have CAP := Lib.hid hcap
    clear hcap
    have ends : ∀ (a1 : Option Addr) (n1 c1 : Nat), HistAt W2 (.slice a1 n1 c1) (H.drop k) → Calls Tryd.prog 26 #[.slice a1 n1 c1] W2 fun e w' => ∃ a' n' c', e = .returned (.slice a' n' c') ∧ HistAt w' (.slice a' n' c') (H.drop k) ∧ Below w.heap.size w w' := fun a1 n1 c1 h3 => by
      refine (owned_any _ a1 n1 c1 _ h3).mono ?_
      rintro e W3 ⟨a', n', c', ss, rfl, hF, hb3⟩
      exact ⟨a', n', c', rfl, hF.hist, (below_c (w := w) hb3 hgg2).1⟩
    have EN := Lib.hid ends
    clear ends
    by_cases hneg : z < 0
    · have hmx : max 0 ((n : Int) - 1) = (k : Int) := by have := hK.out; rw [if_pos hneg] at this; omega
      go_wp2_with ((first | refine wpList_min2 _ rfl _ _ _ rfl _ _ _ rfl rfl ?_ | refine wpList_max2 _ rfl _ _ _ rfl _ _ _ rfl rfl ?_))
      all_goals first
        | refine Calls.mono (EN.out _ _ _ (HistAt.past h1 (by have := CAP.out; omega))) ?_
        | refine Calls.mono (EN.out _ _ _ (HistAt.moved h1 (by rw [← HL.out]; exact hkn))) ?_
      all_goals
        rintro e W3 ⟨a', n', c', rfl, hF, hb3⟩
        go_wp2
        go_returns
        exact ⟨by rw [if_pos (of_decide_eq_true HV.out)]; exact ⟨a', n', c', rfl, by rw [HK.out]; exact hF⟩, hb3⟩
    · have hmx : max 0 (z - 1) = (k : Int) := by have := hK.out; rw [if_neg hneg] at this; omega
      go_wp2_with ((first | refine wpList_min2 _ rfl _ _ _ rfl _ _ _ rfl rfl ?_ | refine wpList_max2 _ rfl _ _ _ rfl _ _ _ rfl rfl ?_))
      all_goals first
        | refine Calls.mono (EN.out _ _ _ (HistAt.past h1 (by have := CAP.out; omega))) ?_
        | refine Calls.mono (EN.out _ _ _ (HistAt.moved h1 (by rw [← HL.out]; exact hkn))) ?_
      all_goals
        rintro e W3 ⟨a', n', c', rfl, hF, hb3⟩
        go_wp2
        go_returns
        exact ⟨by rw [if_pos (of_decide_eq_true HV.out)]; exact ⟨a', n', c', rfl, by rw [HK.out]; exact hF⟩, hb3⟩
end Go.Proofs.YtjjodmkblpdnhaaDoor
