/- Stores into a history that the call owns; what is wrong then. -/
import Derived.Test.YtjjodmkblpdnhaaDoorCopy
import Derived.Test.YtjjodmkblpdnhaaDoorKeepPlain
set_option linter.unusedVariables false
set_option linter.unusedSimpArgs false
namespace Go.Proofs.YtjjodmkblpdnhaaDoor
open Go Go.RowKit Go.Sort
set_option maxRecDepth 100000

theorem zip_set {A : List Int} {S : List Value} {i : Nat} {s : Value} (h : S[i]? = some s) (t : Int) : (A.set i t).zip S = (A.zip S).set i (t, s) := by
  induction A generalizing S i with
  | nil => simp
  | cons a A ih =>
    cases S with
    | nil => simp at h
    | cons s0 S =>
      cases i with
      | zero => simp at h; subst h; simp
      | succ i => simp at h; simp [ih h]
/-- a tick is stored -/
theorem HistE.tick {base : Nat} {w : World} {g n cap : Nat} {H : List Wld} {ss : List Value} (h : HistE base w (.slice (some ⟨g, 0, none⟩) n cap) H ss) {i : Nat} {W : Wld} (hW : H[i]? = some W) (t : Int) :
    HistE base (w.setCell ⟨g, i * 2, none⟩ (.int .i64 t)) (.slice (some ⟨g, 0, none⟩) n cap) (H.set i ⟨t, W.es⟩) ss := by
  obtain ⟨g', cap', cur, a, n', c, hv, hg, hB, hs, -, -, -⟩ := h.cells hW
  cases hv
  obtain ⟨h0, h1, h2, h3⟩ := h
  have hz : ((H.map Wld.t).zip ss)[i]? = some (W.t, .slice a n' c) := by rw [List.getElem?_zip_eq_some]; exact ⟨by simp [hW], hs⟩
  refine ⟨by simpa using h0, by simpa using h1, ?_, fun k s Z hk hZ => ?_⟩
  · have := (h2.stored (i * 2) (.int .i64 t)).1
    rw [List.length_set, List.map_set, zip_set hs]
    unfold evs at this ⊢
    rw [← flat_set ev 2 ev_len _ i 0 (W.t, .slice a n' c) (t, .slice a n' c) (.int .i64 t) hz (by decide) rfl]
    exact this
  · by_cases hki : i = k
    · subst hki
      rw [List.getElem?_set_self (List.getElem?_eq_some_iff.1 hW).1] at hZ
      cases hZ
      exact (h3 i s W hk hW).set (p := ⟨g, i * 2, none⟩) hB (by decide) (by decide) _
    · rw [List.getElem?_set_ne hki] at hZ
      exact (h3 k s Z hk hZ).set (p := ⟨g, i * 2, none⟩) hB (by decide) (by decide) _
/-- an entity's id is stored -/
theorem FreshS.id {base : Nat} {w : World} {g n cap : Nat} {es : List Ent} {ss : List Value} (h : FreshS base w (.slice (some ⟨g, 0, none⟩) n cap) es ss) {i : Nat} {e : Ent} (he : es[i]? = some e) (z : Int) :
    FreshS base (w.setCell ⟨g, i * 2, none⟩ (.int .i64 z)) (.slice (some ⟨g, 0, none⟩) n cap) (es.set i ⟨z, e.cs⟩) ss := by
  obtain ⟨g', cap', a, n', c, hv, hs, -⟩ := h.ent he
  cases hv
  obtain ⟨h0, h1, h2, h3, h4⟩ := h
  obtain ⟨cur, hB⟩ : ∃ cur, Bk w g cur 47 := by
    rcases h2.2 with ⟨hv, -⟩ | ⟨g', cap', cur, hv, -, hh, -⟩
    · cases hv
    · cases hv; exact ⟨cur, hh⟩
  have hz : ((es.map Ent.id).zip ss)[i]? = some (e.id, .slice a n' c) := by rw [List.getElem?_zip_eq_some]; exact ⟨by simp [he], hs⟩
  refine ⟨by simpa using h0, by simpa using h1, ?_, fun k s Z hk hZ => ?_, h4⟩
  · have := (h2.stored (i * 2) (.int .i64 z)).1
    rw [List.length_set, List.map_set, zip_set hs]
    unfold evs at this ⊢
    rw [← flat_set ev 2 ev_len _ i 0 (e.id, .slice a n' c) (z, .slice a n' c) (.int .i64 z) hz (by decide) rfl]
    exact this
  · by_cases hki : i = k
    · subst hki
      rw [List.getElem?_set_self (List.getElem?_eq_some_iff.1 he).1] at hZ
      cases hZ
      exact (h3 i s e hk he).set (p := ⟨g, i * 2, none⟩) hB (by decide) _
    · rw [List.getElem?_set_ne hki] at hZ
      exact (h3 k s Z hk hZ).set (p := ⟨g, i * 2, none⟩) hB (by decide) _
/-- the first entity of a world gets the id 0 -/
theorem HistF.id0 {base : Nat} {w : World} {v : Value} {H : List Wld} {ss : List Value} (h : HistF base w v H ss) {i : Nat} {W : Wld} {e : Ent} {g n cap : Nat} (hW : H[i]? = some W) (hs : ss[i]? = some (.slice (some ⟨g, 0, none⟩) n cap)) (he : W.es[0]? = some e) :
    HistE base (w.setCell ⟨g, 0, none⟩ (.int .i64 0)) v (H.set i ⟨W.t, W.es.set 0 ⟨0, e.cs⟩⟩) ss := by
  obtain ⟨h0, h1, h2, h3, h4⟩ := h
  have hF := h3 i _ W hs hW
  obtain ⟨es', hES⟩ := hF.open
  have hNew := (hES.id he 0).shut
  rw [Nat.zero_mul] at hNew
  obtain ⟨cur, hB⟩ : ∃ cur, Bk w g cur 47 := by
    rcases hES.2.2.1.2 with ⟨hv, -⟩ | ⟨g', cap', cur, hv, -, hh, -⟩
    · cases hv
    · cases hv; exact ⟨cur, hh⟩
  refine ⟨by simpa using h0, by simpa using h1, ?_, fun k s Z hk hZ => ?_⟩
  · rw [List.length_set, List.map_set, show (H.map Wld.t).set i W.t = H.map Wld.t by
      apply List.ext_getElem?
      intro k
      rw [List.getElem?_set]
      by_cases hk : i = k
      · subst hk
        obtain ⟨hi, hWi⟩ := List.getElem?_eq_some_iff.1 hW
        simp [hi, hWi]
      · simp [hk]]
    exact ownsRow_setCell_other h2 (fun e => bk_ne_row hB (by decide) h2 e.symm) _
  · by_cases hki : i = k
    · subst hki
      rw [hs] at hk
      cases hk
      rw [List.getElem?_set_self (List.getElem?_eq_some_iff.1 hW).1] at hZ
      cases hZ
      exact hNew
    · rw [List.getElem?_set_ne hki] at hZ
      obtain ⟨k0, tt, k1, k2, k3, k4⟩ := h3 k s Z hk hZ
      refine ⟨k0, tt, k1, ownsRow_setCell_other k2 ?_ _, fun j r x hr hx => (k3 j r x hr hx).set (p := ⟨g, 0, none⟩) hB (by decide) _, k4⟩
      rcases Nat.lt_or_gt_of_ne hki with hlt | hlt
      · exact fun e => h4 i k _ _ _ hlt hs hk rfl e
      · exact fun e => h4 k i _ _ _ hlt hk hs e rfl
theorem bad_tick {H : List Wld} {x y : Wld} {t : Int} (hx : H[0]? = some x) (hy : H[1]? = some y) (ht : t ≤ x.t) : ¬ ValidH (H.set 1 ⟨t, y.es⟩) := fun h => by
  have h1 := (List.getElem?_eq_some_iff.1 hy).1
  have := tick_lt h.1.2 (i := 0) (j := 1) (by decide) (x := x) (y := ⟨t, y.es⟩) (by rw [List.getElem?_set_ne (by decide)]; exact hx) (List.getElem?_set_self h1)
  simp only at this
  omega
theorem bad_id {H : List Wld} {y : Wld} {e : Ent} (hy : H[1]? = some y) (he : y.es[0]? = some e) : ¬ ValidH (H.set 1 ⟨y.t, y.es.set 0 ⟨0, e.cs⟩⟩) := fun h => by
  have h1 := (List.getElem?_eq_some_iff.1 hy).1
  have h2 := h.1.1 _ (List.mem_iff_getElem?.2 ⟨1, List.getElem?_set_self h1⟩)
  have h3 := h2.2.2.2 ⟨0, e.cs⟩ (List.mem_iff_getElem?.2 ⟨0, List.getElem?_set_self (List.getElem?_eq_some_iff.1 he).1⟩)
  have := h3.1.1
  simp only at this
  omega
theorem bad_neg {H : List Wld} {x : Wld} (hx : H[0]? = some x) : ¬ ValidH (H.set 0 ⟨-1, x.es⟩) := fun h => by
  have h1 := (List.getElem?_eq_some_iff.1 hx).1
  have h2 := (h.1.1 _ (List.mem_iff_getElem?.2 ⟨0, List.getElem?_set_self h1⟩)).1.1
  simp only at h2
  omega
theorem push_bad {H : List Wld} {W : Wld} (h : ¬ ValidH H) : pushM H W = none := by unfold pushM; rw [if_neg (fun h2 => h h2.1)]
theorem push_old {H : List Wld} {x W : Wld} (hV : ValidH H) (hx : H[0]? = some x) (h : W.t ≤ x.t) : pushM H W = none := by
  unfold pushM
  rw [if_neg]
  rintro ⟨-, -, h2⟩
  have h0 := (List.getElem?_eq_some_iff.1 hx).1
  have h3 := h2 h0
  obtain ⟨y, hy⟩ := at_lt (l := H) (i := H.length - 1) (by omega)
  rw [map_at Wld.t hy] at h3
  have := tick_le hV.1.2 (Nat.zero_le _) hx hy
  omega
theorem shown_no {H : List Wld} {t p : Int} (h : ¬ okS H t p) : shownM H t p = .error 2 := by unfold shownM; rw [if_neg h]
theorem span_bad {H : List Wld} (h : ¬ ValidH H) : spanM H = (0, 0, 2) := by unfold spanM; rw [if_neg h]
theorem built_ent {l : List Int} {k i : Nat} {x : Wld} (h : (built l k)[i]? = some x) : ∃ e, x.es[0]? = some e := by
  obtain ⟨-, rfl⟩ := built_get h
  exact ⟨⟨1, [⟨1, nat_ l (4 * i + 1) - 30000, 7 - nat_ l (4 * i + 2), 0, 0⟩]⟩, by simp [bwld, bes]⟩
end Go.Proofs.YtjjodmkblpdnhaaDoor
