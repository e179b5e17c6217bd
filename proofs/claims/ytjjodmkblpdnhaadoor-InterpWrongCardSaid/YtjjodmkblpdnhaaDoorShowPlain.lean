/- What Shown shows, as plain laws: a hit, a time between two worlds, a time outside; parts of a history. -/
import Derived.Test.YtjjodmkblpdnhaaDoorInterp12
import Derived.Test.YtjjodmkblpdnhaaDoorInterp13
import Derived.Test.YtjjodmkblpdnhaaDoorInterp14
import Derived.Test.YtjjodmkblpdnhaaDoorBuilt
set_option linter.unusedVariables false
set_option linter.unusedSimpArgs false
namespace Go.Proofs.YtjjodmkblpdnhaaDoor
open Go Go.RowKit Go.Sort
set_option maxRecDepth 100000

theorem tick_lt {H : List Wld} (h : Rises (H.map Wld.t)) {i j : Nat} {x y : Wld} (hij : i < j) (hx : H[i]? = some x) (hy : H[j]? = some y) : x.t < y.t := by
  have hj := (List.getElem?_eq_some_iff.1 hy).1
  induction j generalizing y with
  | zero => omega
  | succ j ih =>
    obtain ⟨z, hz⟩ := at_lt (l := H) (i := j) (by omega)
    have h1 := h j (by rw [List.length_map]; omega)
    rw [map_at Wld.t hz, map_at Wld.t hy] at h1
    rcases Nat.lt_or_ge i j with h2 | h2
    · have := ih h2 hz (by omega); omega
    · obtain rfl : i = j := by omega
      rw [hx] at hz; cases hz; exact h1
theorem tick_le {H : List Wld} (h : Rises (H.map Wld.t)) {i j : Nat} {x y : Wld} (hij : i ≤ j) (hx : H[i]? = some x) (hy : H[j]? = some y) : x.t ≤ y.t := by
  rcases Nat.lt_or_ge i j with h2 | h2
  · exact Int.le_of_lt (tick_lt h h2 hx hy)
  · obtain rfl : i = j := by omega
    rw [hx] at hy; cases hy; exact Int.le_refl _
theorem rises_of {H : List Wld} (h : ∀ (i : Nat) (x y : Wld), H[i]? = some x → H[i + 1]? = some y → x.t < y.t) : Rises (H.map Wld.t) := fun i hi => by
  rw [List.length_map] at hi
  obtain ⟨x, hx⟩ := at_lt (l := H) (i := i) (by omega)
  obtain ⟨y, hy⟩ := at_lt (l := H) (i := i + 1) (by omega)
  rw [map_at Wld.t hx, map_at Wld.t hy]
  exact h i x y hx hy
theorem shown_hit {H : List Wld} {t p : Int} (ho : okS H t p) {i : Nat} {x : Wld} (hx : H[i]? = some x) (hT : 16 * x.t = 16 * t + p) : shownM H t p = .ok x := by
  have hr := ho.1.1.2
  have hl : lowerOf (fun (x : Wld) => 16 * x.t - (16 * t + p)) H = i := lowerOf_is (by have := (List.getElem?_eq_some_iff.1 hx).1; omega)
    (fun z y hz hy => by have := tick_lt hr hz hy hx; omega) (fun z y hz hy => by have := tick_le hr hz hx hy; omega)
  unfold shownM
  rw [if_pos ho]
  have : hitOf (fun (x : Wld) => 16 * x.t - (16 * t + p)) H = some x := by
    unfold hitOf
    rw [hl, hx]
    simp only [Option.filter]
    rw [if_pos]
    simp only [decide_eq_true_eq]
    omega
  rw [this]
theorem shown_mid {H : List Wld} {t p : Int} (ho : okS H t p) {i : Nat} {x y : Wld} (hx : H[i]? = some x) (hy : H[i + 1]? = some y) (h1 : 16 * x.t < 16 * t + p) (h2 : 16 * t + p < 16 * y.t) :
    shownM H t p = .ok (betw x y (16 * t + p - 16 * x.t) (16 * y.t - 16 * x.t)) := by
  have hr := ho.1.1.2
  have hl : lowerOf (fun (x : Wld) => 16 * x.t - (16 * t + p)) H = i + 1 := lowerOf_is (by have := (List.getElem?_eq_some_iff.1 hy).1; omega)
    (fun z y hz hy => by have := tick_le hr (Nat.le_of_lt_succ hz) hy hx; omega) (fun z y' hz hy' => by have := tick_le hr hz hy hy'; omega)
  unfold shownM
  rw [if_pos ho]
  have : hitOf (fun (x : Wld) => 16 * x.t - (16 * t + p)) H = none := by
    unfold hitOf
    rw [hl, hy]
    simp only [Option.filter]
    rw [if_neg]
    simp only [decide_eq_true_eq]
    omega
  rw [this, hl]
  simp only [hx, hy]
theorem shown_out {H : List Wld} {t p : Int} (ho : okS H t p) (h : (∀ (i : Nat) (x : Wld), H[i]? = some x → 16 * t + p < 16 * x.t) ∨ (∀ (i : Nat) (x : Wld), H[i]? = some x → 16 * x.t < 16 * t + p)) : shownM H t p = .error 6 := by
  unfold shownM
  rw [if_pos ho]
  rcases h with h | h
  · have hl : lowerOf (fun (x : Wld) => 16 * x.t - (16 * t + p)) H = 0 := lowerOf_is (Nat.zero_le _) (fun z y hz _ => absurd hz (by omega)) (fun z y _ hy => by have := h z y hy; omega)
    have : hitOf (fun (x : Wld) => 16 * x.t - (16 * t + p)) H = none := by
      unfold hitOf
      rw [hl]
      rcases hx : H[0]? with _ | x
      · rfl
      · have := h 0 x hx
        simp only [Option.filter]
        rw [if_neg]
        simp only [decide_eq_true_eq]
        omega
    rw [this, hl]
  · have hl : lowerOf (fun (x : Wld) => 16 * x.t - (16 * t + p)) H = H.length := lowerOf_is (Nat.le_refl _) (fun z y _ hy => by have := h z y hy; omega) (fun z y hz hy => absurd (List.getElem?_eq_some_iff.1 hy).1 (by omega))
    have hn : H[H.length]? = none := List.getElem?_eq_none (Nat.le_refl _)
    have : hitOf (fun (x : Wld) => 16 * x.t - (16 * t + p)) H = none := by
      unfold hitOf
      rw [hl, hn]
      rfl
    rw [this, hl]
    cases H with
    | nil => rfl
    | cons x l =>
      simp only [List.length_cons] at hn ⊢
      rw [hn]
      cases h2 : (x :: l)[l.length]? <;> rfl
/-- the three cases -/
theorem classify {H : List Wld} (hr : Rises (H.map Wld.t)) (T : Int) :
    (∃ (i : Nat) (x : Wld), H[i]? = some x ∧ 16 * x.t = T) ∨ (∃ (i : Nat) (x y : Wld), H[i]? = some x ∧ H[i + 1]? = some y ∧ 16 * x.t < T ∧ T < 16 * y.t) ∨ (∀ (i : Nat) (x : Wld), H[i]? = some x → T < 16 * x.t) ∨ (∀ (i : Nat) (x : Wld), H[i]? = some x → 16 * x.t < T) := by
  have hlo : ∀ (j : Nat) (x : Wld), j < lowerOf (fun (x : Wld) => 16 * x.t - T) H → H[j]? = some x → 16 * x.t < T := fun j x hj hx => by have := lower_lt hj hx; omega
  rcases hz : H[lowerOf (fun (x : Wld) => 16 * x.t - T) H]? with _ | z
  · right; right; right
    intro i x hx
    have h1 := List.getElem?_eq_none_iff.1 hz
    have h2 := (List.getElem?_eq_some_iff.1 hx).1
    exact hlo i x (by omega) hx
  · have hge := lower_ge hz
    rcases Int.lt_or_eq_of_le (show T ≤ 16 * z.t by omega) with hlt | heq
    · rcases hk : lowerOf (fun (x : Wld) => 16 * x.t - T) H with _ | k
      · right; right; left
        rw [hk] at hz
        exact fun i x hx => by have := tick_le hr (Nat.zero_le i) hz hx; omega
      · right; left
        rw [hk] at hz hlo
        obtain ⟨x, hx⟩ := at_lt (l := H) (i := k) (by have := (List.getElem?_eq_some_iff.1 hz).1; omega)
        exact ⟨k, x, z, hx, hz, hlo k x (by omega) hx, hlt⟩
    · exact .inl ⟨_, z, hz, heq.symm⟩
theorem okS_of {H G : List Wld} {t p : Int} (h : okS H t p) (hG : ValidH G) : okS G t p := ⟨hG, h.2⟩
/-- a history inside another one, at an offset, that shows the time, shows the same -/
theorem shown_shift {H G : List Wld} {t p : Int} (hH : okS H t p) (hG : ValidH G) (k m : Nat) (hk : ∀ (i : Nat) (x : Wld), H[i]? = some x → 16 * x.t = 16 * t + p → k ≤ i) (hk2 : ∀ (i : Nat) (y : Wld), H[i + 1]? = some y → 16 * t + p < 16 * y.t → (∃ x : Wld, H[i]? = some x ∧ 16 * x.t < 16 * t + p) → k ≤ i)
    (hs : ∀ (i : Nat) (x : Wld), k ≤ i → H[i]? = some x → G[i - k + m]? = some x) {S : Wld} (h : shownM H t p = .ok S) : shownM G t p = .ok S := by
  rcases classify hH.1.1.2 (16 * t + p) with ⟨i, x, hx, hT⟩ | ⟨i, x, y, hx, hy, h1, h2⟩ | h3 | h3
  · rw [shown_hit hH hx hT] at h
    cases h
    exact shown_hit (okS_of hH hG) (hs i _ (hk i _ hx hT) hx) hT
  · rw [shown_mid hH hx hy h1 h2] at h
    cases h
    have hki := hk2 i y hy h2 ⟨x, hx, h1⟩
    refine shown_mid (okS_of hH hG) (hs i x hki hx) ?_ h1 h2
    have := hs (i + 1) y (by omega) hy
    rwa [show i + 1 - k + m = i - k + m + 1 by omega] at this
  · rw [shown_out hH (.inl h3)] at h; cases h
  · rw [shown_out hH (.inr h3)] at h; cases h
theorem shown_append {H R : List Wld} {t p : Int} (hH : okS H t p) (hG : ValidH (H ++ R)) {S : Wld} (h : shownM H t p = .ok S) : shownM (H ++ R) t p = .ok S :=
  shown_shift hH hG 0 0 (fun _ _ _ _ => Nat.zero_le _) (fun _ _ _ _ _ => Nat.zero_le _) (fun i x _ hx => by
    have := (List.getElem?_eq_some_iff.1 hx).1
    rw [Nat.sub_zero, Nat.add_zero, List.getElem?_append_left this]; exact hx) h
theorem validH_drop {H : List Wld} (h : ValidH H) (k : Nat) : ValidH (H.drop k) := by
  refine ⟨⟨fun x hx => h.1.1 x (List.mem_of_mem_drop hx), rises_of fun i x y hx hy => ?_⟩, by have := h.2; rw [List.length_drop]; omega⟩
  rw [List.getElem?_drop] at hx hy
  exact tick_lt h.1.2 (by omega) hx hy
theorem firstOf_le {α : Type} {p : α → Bool} {l : List α} {j : Nat} {x : α} (hx : l[j]? = some x) (hp : p x = true) : 0 ≤ firstOf p l ∧ firstOf p l ≤ j := by
  obtain ⟨hj, rfl⟩ := List.getElem?_eq_some_iff.1 hx
  have h1 : l.any p = true := List.any_eq_true.2 ⟨_, List.getElem_mem hj, hp⟩
  unfold firstOf
  rw [if_pos h1]
  refine ⟨by omega, ?_⟩
  have : l.findIdx p ≤ j := by
    rcases Nat.lt_or_ge j (l.findIdx p) with h2 | h2
    · have := List.not_of_lt_findIdx h2; rw [hp] at this; simp at this
    · exact h2
  omega
theorem sinceK_le {H : List Wld} {t : Int} {j : Nat} {x : Wld} (hx : H[j]? = some x) (ht : t ≤ x.t) : sinceK H t ≤ j - 1 := by
  have := firstOf_le (p := fun (x : Wld) => decide (t ≤ x.t)) hx (by simpa using ht)
  unfold sinceK
  rw [if_neg (by omega)]
  omega
/-- the part since a tick shows the same -/
theorem shown_since {H : List Wld} {t p : Int} (hH : okS H t p) : shownM (H.drop (sinceK H t)) t p = shownM H t p := by
  have hG := validH_drop hH.1 (sinceK H t)
  obtain ⟨hv, ht, hp⟩ := hH
  have hH : okS H t p := ⟨hv, ht, hp⟩
  have key : ∀ S, shownM H t p = .ok S → shownM (H.drop (sinceK H t)) t p = .ok S := fun S hS => by
    refine shown_shift hH hG (sinceK H t) 0 (fun i x hx hT => ?_) (fun i y hy h2 _ => ?_) (fun i x hk hx => ?_) hS
    · have := sinceK_le (t := t) hx (by omega); omega
    · have := sinceK_le (t := t) hy (by omega); omega
    · rw [List.getElem?_drop, show sinceK H t + (i - sinceK H t + 0) = i by omega]; exact hx
  rcases classify hv.1.2 (16 * t + p) with ⟨i, x, hx, hT⟩ | ⟨i, x, y, hx, hy, h1, h2⟩ | h3 | h3
  · rw [shown_hit hH hx hT]; exact key _ (shown_hit hH hx hT)
  · rw [shown_mid hH hx hy h1 h2]; exact key _ (shown_mid hH hx hy h1 h2)
  · rw [shown_out hH (.inl h3)]
    exact shown_out (okS_of hH hG) (.inl fun i x hx => by rw [List.getElem?_drop] at hx; exact h3 _ x hx)
  · rw [shown_out hH (.inr h3)]
    exact shown_out (okS_of hH hG) (.inr fun i x hx => by rw [List.getElem?_drop] at hx; exact h3 _ x hx)
/-- the time lies inside of a history -/
def inside (H : List Wld) (t p : Int) : Prop := 0 < H.length ∧ (H.map Wld.t).getD 0 0 ≤ t ∧ (t < (H.map Wld.t).getD (H.length - 1) 0 ∨ t = (H.map Wld.t).getD (H.length - 1) 0 ∧ p = 0)
theorem shown_cases {H : List Wld} {t p : Int} (hH : okS H t p) : (inside H t p ∧ ∃ S, shownM H t p = .ok S) ∨ (¬ inside H t p ∧ shownM H t p = .error 6) := by
  have hr := hH.1.1.2
  have hp := hH.2.2
  have ends : 0 < H.length → ∃ x y : Wld, H[0]? = some x ∧ H[H.length - 1]? = some y ∧ (H.map Wld.t).getD 0 0 = x.t ∧ (H.map Wld.t).getD (H.length - 1) 0 = y.t := fun h0 => by
    obtain ⟨x, hx⟩ := at_lt (l := H) (i := 0) h0
    obtain ⟨y, hy⟩ := at_lt (l := H) (i := H.length - 1) (by omega)
    exact ⟨x, y, hx, hy, map_at Wld.t hx, map_at Wld.t hy⟩
  rcases classify hr (16 * t + p) with ⟨i, x, hx, hT⟩ | ⟨i, x, y, hx, hy, h1, h2⟩ | h3 | h3
  · left
    have hi := (List.getElem?_eq_some_iff.1 hx).1
    obtain ⟨a, b, ha, hb, ea, eb⟩ := ends (by omega)
    have l1 := tick_le hr (Nat.zero_le i) ha hx
    have l2 := tick_le hr (show i ≤ H.length - 1 by omega) hx hb
    refine ⟨⟨by omega, by rw [ea]; omega, ?_⟩, _, shown_hit hH hx hT⟩
    rw [eb]; omega
  · left
    have hi := (List.getElem?_eq_some_iff.1 hy).1
    obtain ⟨a, b, ha, hb, ea, eb⟩ := ends (by omega)
    have l1 := tick_le hr (Nat.zero_le i) ha hx
    have l2 := tick_le hr (show i + 1 ≤ H.length - 1 by omega) hy hb
    refine ⟨⟨by omega, by rw [ea]; omega, ?_⟩, _, shown_mid hH hx hy h1 h2⟩
    rw [eb]; omega
  · right
    refine ⟨fun ⟨h0, h1, h2⟩ => ?_, shown_out hH (.inl h3)⟩
    obtain ⟨a, b, ha, hb, ea, eb⟩ := ends h0
    have := h3 0 a ha
    rw [ea] at h1; omega
  · right
    refine ⟨fun ⟨h0, h1, h2⟩ => ?_, shown_out hH (.inr h3)⟩
    obtain ⟨a, b, ha, hb, ea, eb⟩ := ends h0
    have := h3 _ b hb
    rw [eb] at h2; omega
theorem validH_two {H : List Wld} (h : ValidH H) {k : Nat} {x y : Wld} (hx : H[k]? = some x) (hy : H[k + 1]? = some y) : ValidH [x, y] := by
  refine ⟨⟨fun z hz => ?_, rises_of fun i a b ha hb => ?_⟩, by simp⟩
  · simp at hz
    rcases hz with rfl | rfl
    · exact h.1.1 _ (List.mem_iff_getElem?.2 ⟨_, hx⟩)
    · exact h.1.1 _ (List.mem_iff_getElem?.2 ⟨_, hy⟩)
  · match i, ha, hb with
    | 0, ha, hb =>
      simp at ha hb
      subst ha hb
      exact tick_lt h.1.2 (Nat.lt_succ_self k) hx hy
    | i + 1, ha, hb => simp at hb
/-- the two worlds about a time show the same -/
theorem shown_two {H : List Wld} {t p : Int} (hH : okS H t p) {k : Nat} {x y : Wld} (hx : H[k]? = some x) (hy : H[k + 1]? = some y) (h1 : x.t ≤ t) (h2 : t < y.t) : shownM [x, y] t p = shownM H t p := by
  have hG := okS_of hH (validH_two hH.1 hx hy)
  have hp := hH.2.2
  rcases Int.lt_or_eq_of_le (show 16 * x.t ≤ 16 * t + p by omega) with h3 | h3
  · rw [shown_mid hH hx hy h3 (by omega), shown_mid hG (i := 0) rfl rfl h3 (by omega)]
  · rw [shown_hit hH hx h3, shown_hit hG (i := 0) rfl h3]
/-- inside, with no two worlds about the time: the last world -/
theorem shown_last {H : List Wld} {t p : Int} (hH : okS H t p) {S : Wld} (hS : shownM H t p = .ok S) (hno : ∀ (k : Nat) (x y : Wld), H[k]? = some x → H[k + 1]? = some y → ¬ (x.t ≤ t ∧ t < y.t)) : H[H.length - 1]? = some S := by
  have hp := hH.2.2
  rcases classify hH.1.1.2 (16 * t + p) with ⟨i, x, hx, hT⟩ | ⟨i, x, y, hx, hy, h1, h2⟩ | h3 | h3
  · rw [shown_hit hH hx hT] at hS
    cases hS
    have hi := (List.getElem?_eq_some_iff.1 hx).1
    rcases Nat.lt_or_ge (i + 1) H.length with h4 | h4
    · obtain ⟨y, hy⟩ := at_lt (l := H) (i := i + 1) h4
      have := tick_lt hH.1.1.2 (Nat.lt_succ_self i) hx hy
      exact absurd ⟨by omega, by omega⟩ (hno i _ y hx hy)
    · rw [show H.length - 1 = i by omega]; exact hx
  · exact absurd ⟨by omega, by omega⟩ (hno i _ y hx hy)
  · rw [shown_out hH (.inl h3)] at hS; cases hS
  · rw [shown_out hH (.inr h3)] at hS; cases hS
/-- what Built makes is a history -/
theorem built_at {l : List Int} {k i : Nat} (h : i < k) : (built l k)[i]? = some (bwld l i) := by
  unfold built
  rw [List.getElem?_map, List.getElem?_range h]
  rfl
theorem built_get {l : List Int} {k i : Nat} {x : Wld} (h : (built l k)[i]? = some x) : i < k ∧ x = bwld l i := by
  have hi := (List.getElem?_eq_some_iff.1 h).1
  rw [built_len] at hi
  rw [built_at hi] at h
  exact ⟨hi, by cases h; rfl⟩
theorem bnum_le (l : List Int) : bnum l ≤ 12 := by unfold bnum; omega
theorem fits_pos_of {x y : Int} (h1 : -1048576 ≤ x ∧ x ≤ 1048576) (h2 : -1048576 ≤ y ∧ y ≤ 1048576) : fits ⟨1, x, y, 0, 0⟩ = true := by
  simp [fits, inLim, lim, tab, Cmp.v, extra]
  omega
theorem fits_tag_of {x : Int} (h1 : -2147483648 ≤ x ∧ x ≤ 2147483647) : fits ⟨10, x, 0, 0, 0⟩ = true := by
  simp [fits, inLim, lim, tab, Cmp.v, extra]
  omega
theorem rises1 (x : Int) : Rises [x] := fun i hi => by simp at hi
theorem rises2 {x y : Int} (h : x < y) : Rises [x, y] := fun i hi => by
  simp at hi; subst hi; simpa using h
theorem rises3 {x y z : Int} (h : x < y) (h' : y < z) : Rises [x, y, z] := fun i hi => by
  simp at hi
  match i, hi with
  | 0, _ => simpa using h
  | 1, _ => simpa using h'
theorem bes_right {x y u v i z : Int} {f g : Bool} (hx : -1048576 ≤ x ∧ x ≤ 1048576) (hy : -1048576 ≤ y ∧ y ≤ 1048576) (hu : 0 ≤ u ∧ u ≤ 65535) (hv : 0 ≤ v ∧ v ≤ 65535) (hi : 0 ≤ i ∧ i ≤ 1000) (hz : 0 ≤ z ∧ z ≤ 65535) : (∀ e ∈ bes x y f u v i g z, Right e) ∧ Rises ((bes x y f u v i g z).map Ent.id) ∧ (bes x y f u v i g z).length ≤ 64 := by
  have r1 : Right ⟨1, [⟨1, x, y, 0, 0⟩]⟩ := ⟨by simp, rises1 _, fun c hc => by simp at hc; subst hc; exact fits_pos_of hx hy⟩
  have r2 : Right ⟨2, [⟨1, u, v, 0, 0⟩, ⟨10, i, 0, 0, 0⟩]⟩ := ⟨by simp, rises2 (by simp), fun c hc => by
    simp at hc
    rcases hc with rfl | rfl
    · exact fits_pos_of (by omega) (by omega)
    · exact fits_tag_of (by omega)⟩
  have r3 : Right ⟨3, [⟨10, z, 0, 0, 0⟩]⟩ := ⟨by simp, rises1 _, fun c hc => by simp at hc; subst hc; exact fits_tag_of (by omega)⟩
  cases f <;> cases g <;> simp only [bes, if_true, if_false, Bool.false_eq_true, List.append_nil, List.singleton_append, List.cons_append, List.nil_append, List.map_cons, List.map_nil]
  · exact ⟨fun e he => by simp at he; subst he; exact r1, rises1 _, by simp⟩
  · exact ⟨fun e he => by simp at he; rcases he with rfl | rfl <;> assumption, rises2 (by simp), by simp⟩
  · exact ⟨fun e he => by simp at he; rcases he with rfl | rfl <;> assumption, rises2 (by simp), by simp⟩
  · exact ⟨fun e he => by simp at he; rcases he with rfl | rfl | rfl <;> assumption, rises3 (by simp) (by simp), by simp⟩
theorem bwld_valid {l : List Int} (hl : ∀ i, 0 ≤ nat_ l i ∧ nat_ l i ≤ 65535) {k : Nat} (hk : k < 12) : Valid (bwld l k) := by
  have h1 := hl (4 * k + 1)
  have h2 := hl (4 * k + 2)
  have ht := btick_bd hl (k + 1)
  obtain ⟨r1, r2, r3⟩ := bes_right (x := nat_ l (4 * k + 1) - 30000) (y := 7 - nat_ l (4 * k + 2)) (u := nat_ l (4 * k + 2)) (v := nat_ l (4 * k + 3)) (i := 4 * k) (z := nat_ l (4 * k)) (f := one_ l k) (g := two_ l k) (by omega) (by omega) h2 (hl _) (by omega) (hl _)
  exact ⟨⟨ht.1, by have := ht.2; show btick l (k + 1) ≤ _; omega⟩, r3, r2, r1⟩
theorem built_valid {l : List Int} (hl : ∀ i, 0 ≤ nat_ l i ∧ nat_ l i ≤ 65535) : ValidH (built l (bnum l)) := by
  refine ⟨⟨fun x hx => ?_, rises_of fun i x y hx hy => ?_⟩, by rw [built_len]; have := bnum_le l; omega⟩
  · obtain ⟨i, hi⟩ := List.mem_iff_getElem?.1 hx
    obtain ⟨h1, rfl⟩ := built_get hi
    exact bwld_valid hl (by have := bnum_le l; omega)
  · obtain ⟨h1, rfl⟩ := built_get hx
    obtain ⟨h2, rfl⟩ := built_get hy
    show btick l (i + 1) < btick l (i + 1) + (1 + nat_ l (4 * (i + 1)) % 9)
    have := hl (4 * (i + 1))
    omega
end Go.Proofs.YtjjodmkblpdnhaaDoor
