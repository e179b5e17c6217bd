/- Histories that are pushed to, plain. -/
import Derived.Test.YtjjodmkblpdnhaaDoorShowPlain
import Derived.Test.YtjjodmkblpdnhaaDoorInterp10
set_option linter.unusedVariables false
set_option linter.unusedSimpArgs false
namespace Go.Proofs.YtjjodmkblpdnhaaDoor
open Go Go.RowKit Go.Sort
set_option maxRecDepth 100000

/-- Shown's result, as a world and a code -/
def rW : Except Int Wld → Wld
  | .ok S => S
  | .error _ => ⟨0, []⟩
def rZ : Except Int Wld → Int
  | .ok _ => 0
  | .error k => k
theorem shown_res (H : List Wld) (tick part : Int) (a : Option Addr) (n c : Nat) (w : World) (hR : RG w) (h : HistAt w (.slice a n c) H) :
    Calls Tryd.prog 11 #[.slice a n c, .int .i64 tick, .int .i64 part] w fun e w' => ∃ a' n' c', e = .returned (.tuple #[Wv (rW (shownM H tick part)).t a' n' c', .int .i64 (rZ (shownM H tick part))]) ∧ EntsAt w' (.slice a' n' c') (rW (shownM H tick part)).es ∧ Below w.heap.size w w' := by
  refine (shown_any H tick part a n c w hR h).mono ?_
  rintro e w' ⟨hp, hb⟩
  cases hs : shownM H tick part with
  | ok S =>
    rw [hs] at hp
    obtain ⟨a', n', c', he, hF⟩ := hp
    exact ⟨a', n', c', he, hF.ents, hb⟩
  | error k =>
    rw [hs] at hp
    exact ⟨none, 0, 0, hp, .inl ⟨rfl, rfl⟩, hb⟩
def ats (i : Nat) : List Wld := (List.range i).map (fun (j : Nat) => atW (200 + (j : Int)) j j)
theorem ats_succ (i : Nat) : ats (i + 1) = ats i ++ [atW (200 + (i : Int)) i i] := by unfold ats; rw [List.range_succ, List.map_append, List.map_singleton]
theorem ats_len (i : Nat) : (ats i).length = i := by unfold ats; simp
theorem ats_mem {i : Nat} {x : Wld} (h : x ∈ ats i) : ∃ j : Nat, j < i ∧ x = atW (200 + (j : Int)) j j := by
  unfold ats at h
  obtain ⟨j, hj, rfl⟩ := List.mem_map.1 h
  exact ⟨j, List.mem_range.1 hj, rfl⟩
def keptL (H : List Wld) (i : Nat) : List Wld := (H ++ ats i).drop ((H ++ ats i).length - 40)
theorem kept_len (H : List Wld) (i : Nat) : (keptL H i).length = min (H.length + i) 40 := by
  unfold keptL
  rw [List.length_drop, List.length_append, ats_len]
  omega
theorem kept_push (H : List Wld) (i : Nat) : pushL (keptL H i) (atW (200 + (i : Int)) i i) = keptL H (i + 1) := by
  unfold pushL
  rw [kept_len]
  unfold keptL
  rw [ats_succ, ← List.append_assoc]
  obtain ⟨L, hL⟩ : ∃ L, H ++ ats i = L := ⟨_, rfl⟩
  have hl : L.length = H.length + i := by rw [← hL, List.length_append, ats_len]
  rw [hL, ← List.drop_append_of_le_length (by omega), List.drop_drop, List.length_append, List.length_singleton]
  congr 1
  omega
theorem atW_right {t x y : Int} (ht : 0 ≤ t ∧ t ≤ 1073741824) (hx : -1048576 ≤ x ∧ x ≤ 1048576) (hy : -1048576 ≤ y ∧ y ≤ 1048576) : Valid (atW t x y) := by
  refine ⟨ht, by simp [atW], rises1 _, fun e he => ?_⟩
  simp [atW] at he
  subst he
  exact ⟨by simp, rises1 _, fun c hc => by simp at hc; subst hc; exact fits_pos_of hx hy⟩
/-- the worlds of a history lie before the tick 200 -/
def Early (H : List Wld) : Prop := ValidH H ∧ ∀ x ∈ H, x.t < 200
theorem long_mem {H : List Wld} (h : Early H) {i : Nat} {x : Wld} (hx : x ∈ H ++ ats i) : x.t < 200 + (i : Int) := by
  rcases List.mem_append.1 hx with h1 | h1
  · have := h.2 x h1; omega
  · obtain ⟨j, hj, rfl⟩ := ats_mem h1
    show 200 + (j : Int) < _
    omega
theorem long_valid {H : List Wld} (h : Early H) {i : Nat} (hi : i ≤ 60) : (∀ x ∈ H ++ ats i, Valid x) ∧ ∀ (k : Nat) (x y : Wld), (H ++ ats i)[k]? = some x → (H ++ ats i)[k + 1]? = some y → x.t < y.t := by
  refine ⟨fun x hx => ?_, fun k x y hx hy => ?_⟩
  · rcases List.mem_append.1 hx with h1 | h1
    · exact h.1.1.1 x h1
    · obtain ⟨j, hj, rfl⟩ := ats_mem h1
      exact atW_right (by omega) (by omega) (by omega)
  · rcases Nat.lt_or_ge (k + 1) H.length with h1 | h1
    · rw [List.getElem?_append_left (by omega)] at hx
      rw [List.getElem?_append_left h1] at hy
      exact tick_lt h.1.1.2 (Nat.lt_succ_self k) hx hy
    · rw [List.getElem?_append_right h1] at hy
      unfold ats at hy
      rw [List.getElem?_map] at hy
      obtain ⟨m, hm, rfl⟩ := Option.map_eq_some_iff.1 hy
      have hm1 : m = k + 1 - H.length := by
        have := (List.getElem?_eq_some_iff.1 hm)
        obtain ⟨h2, h3⟩ := this
        simpa using h3.symm
      show x.t < 200 + (m : Int)
      rcases Nat.lt_or_ge k H.length with h4 | h4
      · rw [List.getElem?_append_left h4] at hx
        have := h.2 x (List.mem_iff_getElem?.2 ⟨_, hx⟩)
        omega
      · rw [List.getElem?_append_right h4] at hx
        unfold ats at hx
        rw [List.getElem?_map] at hx
        obtain ⟨m', hm', rfl⟩ := Option.map_eq_some_iff.1 hx
        obtain ⟨h5, h6⟩ := List.getElem?_eq_some_iff.1 hm'
        have : m' = k - H.length := by simpa using h6.symm
        show 200 + (m' : Int) < _
        omega
theorem kept_valid {H : List Wld} (h : Early H) {i : Nat} (hi : i ≤ 60) : ValidH (keptL H i) := by
  obtain ⟨h1, h2⟩ := long_valid h hi
  refine ⟨⟨fun x hx => h1 x (List.mem_of_mem_drop hx), rises_of fun k x y hx hy => ?_⟩, by rw [kept_len]; omega⟩
  unfold keptL at hx hy
  rw [List.getElem?_drop] at hx hy
  rw [← Nat.add_assoc] at hy
  exact h2 _ x y hx hy
theorem kept_ok {H : List Wld} (h : Early H) {i : Nat} (hi : i < 60) : pushM (keptL H i) (atW (200 + (i : Int)) i i) = some (keptL H (i + 1)) := by
  unfold pushM
  rw [if_pos, kept_push]
  refine ⟨kept_valid h (by omega), atW_right (by omega) (by omega) (by omega), fun h0 => ?_⟩
  obtain ⟨x, hx⟩ := at_lt (l := keptL H i) (i := (keptL H i).length - 1) (by omega)
  rw [map_at Wld.t hx]
  exact long_mem h (List.mem_of_mem_drop (List.mem_iff_getElem?.2 ⟨_, hx⟩))
theorem kept_last (H : List Wld) (i : Nat) : (keptL H (i + 1))[(keptL H (i + 1)).length - 1]? = some (atW (200 + (i : Int)) i i) := by
  rw [kept_len]
  unfold keptL
  rw [ats_succ, ← List.append_assoc, List.getElem?_drop]
  have hl : (H ++ ats i).length = H.length + i := by rw [List.length_append, ats_len]
  rw [List.length_append, List.length_singleton, hl, List.getElem?_append_right (by omega), hl, show H.length + i + 1 - 40 + (min (H.length + (i + 1)) 40 - 1) - (H.length + i) = 0 by omega]
  rfl
theorem kept_again {H : List Wld} (h : Early H) {i : Nat} (hi : i < 60) : pushM (keptL H (i + 1)) (atW (200 + (i : Int)) i i) = none := by
  unfold pushM
  rw [if_neg]
  rintro ⟨-, -, h0⟩
  have := h0 (by rw [kept_len]; omega)
  rw [map_at Wld.t (kept_last H i)] at this
  exact Int.lt_irrefl _ this
theorem kept_zero {H : List Wld} (h : H.length ≤ 40) : keptL H 0 = H := by
  unfold keptL ats
  simp only [List.range_zero, List.map_nil, List.append_nil]
  rw [show H.length - 40 = 0 by omega]
  rfl
/-- what was shown is shown, as long as no world is dropped -/
theorem kept_shows {H : List Wld} (h : Early H) {i : Nat} (hi : i < 60) {t p : Int} (ht : 0 ≤ t ∧ t ≤ 1073741824) (hp : 0 ≤ p ∧ p < 16) (h0 : rZ (shownM H t p) = 0) (hg : (keptL H i).length < (keptL H (i + 1)).length) : shownM (keptL H (i + 1)) t p = shownM H t p := by
  have ok : okS H t p := ⟨h.1, ht, hp⟩
  rw [kept_len, kept_len] at hg
  have e : keptL H (i + 1) = H ++ ats (i + 1) := by
    unfold keptL
    rw [List.length_append, ats_len, show H.length + (i + 1) - 40 = 0 by omega]
    rfl
  have hv := kept_valid h (show i + 1 ≤ 60 by omega)
  rw [e] at hv ⊢
  rcases shown_cases ok with ⟨-, S, hS⟩ | ⟨-, hS⟩
  · rw [hS]; exact shown_append ok hv hS
  · rw [hS] at h0; simp [rZ] at h0
/-- a history pushed world by world -/
theorem validH_take {H : List Wld} (h : ValidH H) (k : Nat) : ValidH (H.take k) := by
  refine ⟨⟨fun x hx => h.1.1 x (List.mem_of_mem_take hx), rises_of fun i x y hx hy => ?_⟩, by have := h.2; rw [List.length_take]; omega⟩
  rw [List.getElem?_take] at hx hy
  split at hx
  · split at hy
    · exact tick_lt h.1.2 (Nat.lt_succ_self i) hx hy
    · cases hy
  · cases hx
theorem push_take {H : List Wld} (h : ValidH H) (hl : H.length ≤ 12) {k : Nat} {x : Wld} (hx : H[k]? = some x) : pushM (H.take k) x = some (H.take (k + 1)) := by
  have hk := (List.getElem?_eq_some_iff.1 hx).1
  have htl : (H.take k).length = k := by rw [List.length_take]; omega
  unfold pushM
  rw [if_pos]
  · unfold pushL
    rw [htl, show k + 1 - 40 = 0 by omega, List.drop_zero, List.take_add_one, hx]
    rfl
  · refine ⟨validH_take h k, h.1.1 x (List.mem_iff_getElem?.2 ⟨_, hx⟩), fun h0 => ?_⟩
    rw [htl] at h0 ⊢
    obtain ⟨y, hy⟩ := at_lt (l := H) (i := k - 1) (by omega)
    have hy' : (H.take k)[k - 1]? = some y := by rw [List.getElem?_take, if_pos (by omega)]; exact hy
    rw [map_at Wld.t hy']
    exact tick_lt h.1.2 (by omega) hy hx
theorem built_early {l : List Int} (hl : ∀ i, 0 ≤ nat_ l i ∧ nat_ l i ≤ 65535) : Early (built l (bnum l)) := by
  refine ⟨built_valid hl, fun x hx => ?_⟩
  obtain ⟨i, hi⟩ := List.mem_iff_getElem?.1 hx
  obtain ⟨h1, rfl⟩ := built_get hi
  have h2 := btick_bd hl (i + 1)
  have h3 := bnum_le l
  show btick l (i + 1) < 200
  omega
end Go.Proofs.YtjjodmkblpdnhaaDoor
